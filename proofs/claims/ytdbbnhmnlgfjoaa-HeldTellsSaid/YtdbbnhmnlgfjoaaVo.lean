/-
  The machine of plain values: what one operation of a region does hangs on its operands and on the blocks that it touches, on nothing else. No program in sight.
-/
import Derived.Test.YtdbbnhmnlgfjoaaVn
namespace Go.Proofs.Ytdbbnhmnlgfjoaa.Vm
set_option linter.unusedSimpArgs false
set_option linter.unusedVariables false
open Go Go.RowKit

def tmpOf : Operand → Option Nat
  | .tmp t => some t
  | _ => none
/-- The temporaries that an operation looks at. -/
def looksAt (ops : List Oper) (o : Oper) : List Nat := (opsL o.op).filterMap tmpOf ++ (match o.guard with | some (j, _) => ((ops[j]?).bind (·.dst)).toList | none => [])
def writerOp : Op → Bool
  | .alloc _ | .box _ _ | .buildSlice _ _ _ | .store _ _ _ => true
  | .call { callee := .builtin .append, .. } => true
  | .call { callee := .value _, .. } => true
  | _ => false
def memOp : Op → Bool
  | .load _ _ | .indexAddr _ _ _ | .slice _ _ _ _ _ => true
  | op => writerOp op
section
variable {cx : Cx} {N : Nat} {X : Nat → Prop} {w0 : World} {I : Nat → Prop} {ρ0 : Names} {b0 : Nat}
theorem evalV_congr {G : Nat → V} {c : Bool} {e e' : Env} {x : Operand} (h : ∀ t, tmpOf x = some t → e' t = e t) : evalV G c e' x = evalV G c e x := by
  cases x with
  | tmp t => simp only [evalV, h t rfl]
  | const v => rfl
  | global g => rfl
  | func f => rfl
theorem target_congr {M M' : Mem} {v : V} (h : ∀ x ∈ namesV v, M' x = M x) : target M' v = target M v := by
  cases v <;> try rfl
  rename_i nm i j
  simp only [target, rowOf, h nm (by simp [namesV])]
theorem rowsV_congr {M M' : Mem} {v : V} (h : ∀ x ∈ namesV v, M' x = M x) : rowsV M' v = rowsV M v := by
  cases v <;> try rfl
  rename_i nm i j
  simp only [rowsV, rowsOf, h nm (by simp [namesV])]
theorem srcOk_congr {M M' : Mem} {s : Nat} {v : V} (h : ∀ x ∈ namesV v, M' x = M x) : srcOk M' s v = srcOk M s v := by
  cases v <;> try rfl
  rename_i nm i j
  simp only [srcOk, rowsOf, szOf, h nm (by simp [namesV])]
theorem appendK_congr {P : Program} {t : TypeId} {M M' : Mem} {s x : V} (h : ∀ y ∈ namesV s, M' y = M y) (h' : ∀ y ∈ namesV x, M' y = M y) : appendK P t M' s x = appendK P t M s x := by
  simp only [appendK, rowsV_congr h, rowsV_congr h']
theorem appendOk_congr {P : Program} {t t2 : TypeId} {M M' : Mem} {s x : V} (h : ∀ y ∈ namesV s, M' y = M y) (h' : ∀ y ∈ namesV x, M' y = M y) : appendOk P t t2 M' s x = appendOk P t t2 M s x := by
  have e : dstOk M' x s = dstOk M x s := by
    cases s <;> try rfl
    simp only [dstOk, rowsV_congr h']
  simp only [appendOk, srcOk_congr h, srcOk_congr h', rowsV_congr h, rowsV_congr h', e]
theorem op_congr {c : Bool} {e e' : Env} {M M' : Mem} {n : Nat} {o : Oper} (he : ∀ x ∈ o.op.operands.toList, evalV cx.G c e' x = evalV cx.G c e x) (hM : ∀ x ∈ opF cx c e n o, M' x = M x) :
    opOk cx c e' M' o = opOk cx c e M o ∧ opV cx c e' M' n o = opV cx c e M n o ∧ opE cx c e' M' n o = opE cx c e M n o := by
  obtain ⟨dst, op, type, pos, after, guard⟩ := o
  have parts : ∀ ps : Array (Nat × Operand), (∀ p ∈ ps.toList, evalV cx.G c e' p.2 = evalV cx.G c e p.2) → partsV cx.G c e' ps = partsV cx.G c e ps := fun ps h => by
    unfold partsV
    exact List.map_congr_left (fun p hp => by rw [h p hp])
  have ints : ∀ x : Option Operand, (∀ y, x = some y → evalV cx.G c e' y = evalV cx.G c e y) → intsV c cx.G e' x = intsV c cx.G e x ∧ optInt c cx.G e' x = optInt c cx.G e x := fun x h => by
    cases x with
    | none => exact ⟨rfl, rfl⟩
    | some y => simp only [intsV, optInt, h y rfl]; exact ⟨trivial, trivial⟩
  have list : ∀ as : Array Operand, (∀ x ∈ as.toList, evalV cx.G c e' x = evalV cx.G c e x) → as.toList.map (evalV cx.G c e') = as.toList.map (evalV cx.G c e) := fun as h => List.map_congr_left h
  cases op
  case move x => have := he x (by simp [Op.operands]); simp only [opOk, opV, opE, this, and_self]
  case assign x => have := he x (by simp [Op.operands]); simp only [opOk, opV, opE, this, and_self]
  case nilCheck x => have := he x (by simp [Op.operands]); simp only [opOk, opV, opE, this, and_self]
  case pick x a b =>
    have h1 := he x (by simp [Op.operands]); have h2 := he a (by simp [Op.operands]); have h3 := he b (by simp [Op.operands])
    simp only [opOk, opV, opE, h1, h2, h3, and_self]
  case alloc t => exact ⟨rfl, rfl, rfl⟩
  case box t x => have := he x (by simp [Op.operands]); simp only [opOk, opV, opE, this, and_self]
  case build t ps =>
    have := parts ps (fun p hp => he _ (by simpa [Op.operands] using ⟨p.1, by simpa using hp⟩))
    simp only [opOk, opV, opE, this, and_self]
  case buildSlice t k ps =>
    have := parts ps (fun p hp => he _ (by simpa [Op.operands] using ⟨p.1, by simpa using hp⟩))
    simp only [opOk, opV, opE, this, and_self]
  case load t x =>
    have h1 := he x (by simp [Op.operands])
    have h2 := target_congr (M := M) (M' := M') (v := evalV cx.G c e x) hM
    simp only [opOk, opV, opE, h1, loadOk, loadV, h2, and_self]
  case store t x v =>
    have h1 := he x (by simp [Op.operands]); have h2 := he v (by simp [Op.operands])
    simp only [opF] at hM
    simp only [opOk, opV, opE, h1, h2]
    cases hx : evalV cx.G c e x <;> simp only [storeOk, and_self]
    rename_i nm i j
    rw [hx] at hM
    have h3 := hM nm (by simp [namesV])
    simp only [rowOf, h3, and_self]
  case binOp op t x y yt =>
    have h1 := he x (by simp [Op.operands]); have h2 := he y (by simp [Op.operands])
    simp only [opOk, opV, opE, h1, h2, and_self]
  case unOp op t x => have := he x (by simp [Op.operands]); simp only [opOk, opV, opE, this, and_self]
  case convert s d x => have := he x (by simp [Op.operands]); simp only [opOk, opV, opE, this, and_self]
  case slice t x l h m =>
    have h1 := he x (by simp [Op.operands])
    obtain ⟨l1, l2⟩ := ints l (fun y hy => he y (by subst hy; simp [Op.operands]))
    obtain ⟨k1, k2⟩ := ints h (fun y hy => he y (by subst hy; simp [Op.operands]))
    obtain ⟨m1, m2⟩ := ints m (fun y hy => he y (by subst hy; simp [Op.operands]))
    simp only [opF] at hM
    simp only [opOk, opV, opE, h1, l1, l2, k1, k2, m1, m2]
    cases hx : evalV cx.G c e x <;> simp only [sliceOk, and_self]
    rename_i nm i j
    rw [hx] at hM
    have h3 := hM nm (by simp [namesV])
    simp only [szOf, h3, and_self]
  case fieldAddr t x f => have := he x (by simp [Op.operands]); simp only [opOk, opV, opE, this, and_self]
  case field t x f => have := he x (by simp [Op.operands]); simp only [opOk, opV, opE, this, and_self]
  case indexAddr t x i =>
    have h1 := he x (by simp [Op.operands]); have h2 := he i (by simp [Op.operands])
    simp only [opF] at hM
    simp only [opOk, opV, opE, h1, h2]
    revert hM
    generalize evalV cx.G c e x = v
    intro hM
    have h3 : ∀ k, indexAddrOk cx.P t M' v k = indexAddrOk cx.P t M v k := fun k => by
      unfold indexAddrOk
      cases elm cx.P t with
      | none => cases v <;> rfl
      | some y =>
        obtain ⟨q, s, g⟩ := y
        cases q <;> cases v <;> try rfl
        rename_i nm a b
        have h4 := hM nm (by simp [namesV])
        simp only [szOf, h4]
    have h5 : ∀ k, indexAddrV cx.P t M' v k = indexAddrV cx.P t M v k := fun k => by cases v <;> rfl
    simp only [h3, h5, and_self]
  case index t x i =>
    have h1 := he x (by simp [Op.operands]); have h2 := he i (by simp [Op.operands])
    simp only [opOk, opV, opE, h1, h2, and_self]
  case extract x i => have := he x (by simp [Op.operands]); simp only [opOk, opV, opE, this, and_self]
  case makeFunc f first caps =>
    cases f <;> try exact ⟨rfl, rfl, rfl⟩
    have := list caps (fun x hx => he x (by simp [Op.operands]; right; simpa using hx))
    simp only [opOk, opV, opE, this, and_self]
  case call cl =>
    obtain ⟨callee, args, ats⟩ := cl
    cases callee <;> try exact ⟨rfl, rfl, rfl⟩
    rename_i b
    have hl := list args (fun x hx => he x (by simpa [Op.operands, Call.operands] using hx))
    simp only [opOk, opV, opE, hl]
    have key : ∀ (ts : List TypeId) (l : List V), (b = .append → ∀ y ∈ l.flatMap namesV, M' y = M y) →
        builtinOk cx M' b ts l = builtinOk cx M b ts l ∧ builtinV cx M' n b (ts.headD 0) l = builtinV cx M n b (ts.headD 0) l ∧ builtinE cx M' n b (ts.headD 0) l = builtinE cx M n b (ts.headD 0) l := by
      intro ts l hl
      by_cases hb : b = .append
      · subst hb
        rcases l with _ | ⟨s, _ | ⟨x, _ | ⟨y, r⟩⟩⟩
        · rcases ts with _ | ⟨t, _ | ⟨t2, _ | ⟨t3, q⟩⟩⟩ <;> exact ⟨rfl, rfl, rfl⟩
        · rcases ts with _ | ⟨t, _ | ⟨t2, _ | ⟨t3, q⟩⟩⟩ <;> (refine ⟨rfl, rfl, ?_⟩; cases s <;> rfl)
        · have g := hl rfl
          have g1 : ∀ y ∈ namesV s, M' y = M y := fun y hy => g y (by simp [hy])
          have g2 : ∀ y ∈ namesV x, M' y = M y := fun y hy => g y (by simp [hy])
          refine ⟨?_, ?_, ?_⟩
          · rcases ts with _ | ⟨t, _ | ⟨t2, _ | ⟨t3, r⟩⟩⟩ <;> try rfl
            simp only [builtinOk]
            exact appendOk_congr g1 g2
          · simp only [builtinV, appendV, rowsV_congr g1, rowsV_congr g2]
          · have e1 := appendK_congr (P := cx.P) (t := ts.headD 0) g1 g2
            cases s <;> simp only [builtinE, e1]
        · rcases ts with _ | ⟨t, _ | ⟨t2, _ | ⟨t3, q⟩⟩⟩ <;> (refine ⟨rfl, rfl, ?_⟩; cases s <;> rfl)
      · have e3 : ∀ M, builtinE cx M n b (ts.headD 0) l = [] := fun M => by
          unfold builtinE
          split <;> first | rfl | exact absurd rfl hb
        refine ⟨?_, ?_, by rw [e3, e3]⟩
        · unfold builtinOk
          split <;> first | rfl | exact absurd rfl hb
        · unfold builtinV
          split <;> first | rfl | exact absurd rfl hb | (rename_i x; cases x <;> rfl)
    refine key _ _ (fun hb y hy => hM y ?_)
    subst hb
    simp only [opF]
    exact List.mem_cons_of_mem _ hy
  all_goals exact ⟨rfl, rfl, rfl⟩
end
end Go.Proofs.Ytdbbnhmnlgfjoaa.Vm
