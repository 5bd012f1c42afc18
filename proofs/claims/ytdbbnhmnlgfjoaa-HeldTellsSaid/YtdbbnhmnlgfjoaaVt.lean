/-
  The machine of plain values: the rules by which a proof steps through code. What follows a code is a list, so that nothing is looked at before its turn. No program in sight.
-/
import Derived.Test.YtdbbnhmnlgfjoaaVs
namespace Go.Proofs.Ytdbbnhmnlgfjoaa.Vm
set_option linter.unusedSimpArgs false
set_option linter.unusedVariables false
open Go Go.RowKit

abbrev Post := Ex → Nat → Env → Mem → Prop
inductive Frm where
  | code (c : Code)
  | blk (id : Nat)
  | again (J : Nat → Nat → Env → Mem → Prop) (g : Nat)
/-- What is to be shown behind a code: the list of what follows, then Q. -/
def unst (cx : Cx) (Q : Post) : List Frm → Post
  | [] => Q
  | .code c :: st => fun x n e M => match x with | .normal => vc cx c (unst cx Q st) n e M | .exit id => unst cx Q st (.exit id) n e M | .ret => unst cx Q st .ret n e M
  | .blk id :: st => fun x n e M => match x with | .normal => unst cx Q st .normal n e M | .exit id' => if id' = id then unst cx Q st .normal n e M else unst cx Q st (.exit id') n e M | .ret => unst cx Q st .ret n e M
  | .again J g :: st => fun x n e M => match x with | .normal => ∃ g', g' < g ∧ J g' n e M | .exit id => unst cx Q st (.exit id) n e M | .ret => unst cx Q st .ret n e M
section
variable (cx : Cx) (Q : Post) (st : List Frm) (nm : Nat) (e : Env) (M : Mem)
def go (c : Code) : Prop := vc cx c (unst cx Q st) nm e M
def goEx (x : Ex) : Prop := unst cx Q st x nm e M
/-- The operations that are still to come of a region; d: it draws its order. -/
def goOps (d : Bool) (fs : List (List Nat)) (ops r : List Oper) (i : Nat) : Prop := vcOps cx ops r nm i e M fs (fun n e M fs => (d = true → pairsOk ops fs) ∧ unst cx Q st .normal n e M)
/-- The end of a region that draws its order. -/
def goEnd (fs : List (List Nat)) (ops : List Oper) : Prop := pairsOk ops fs ∧ unst cx Q st .normal nm e M
/-- A call is next. -/
def goCall (d : Bool) (fs : List (List Nat)) (ops : List Oper) (o : Oper) (r : List Oper) (i : Nat) : Prop := goOps cx Q st nm e M d fs ops (o :: r) i
/-- An operation behind a guard of this value is next. -/
def goGuard (d : Bool) (fs : List (List Nat)) (gv : V) (want : Bool) (ops : List Oper) (o : Oper) (r : List Oper) (i : Nat) : Prop := match gv with
  | .bool b => if isCall o.op = true then vcCallG cx (b == want) e M (nm + 16 * i) o (fun v l => goOps cx Q st nm (e.putD o.dst (.gd (b == want) v)) M d (fs ++ [l]) ops r (i + 1))
    else if soft o.op = true then ((b == want) = true → opOk cx (b == want) e M o) ∧ goOps cx Q st nm (e.putD o.dst (.gd (b == want) (opV cx (b == want) e M (nm + 16 * i) o))) M d (fs ++ [opF cx (b == want) e (nm + 16 * i) o]) ops r (i + 1)
    else ((b == want) = true → opOk cx true e M o ∧ goOps cx Q st nm (e.putD o.dst (opV cx true e M (nm + 16 * i) o)) (M.app (opE cx true e M (nm + 16 * i) o)) d (fs ++ [opF cx true e (nm + 16 * i) o]) ops r (i + 1)) ∧ ((b == want) = false → goOps cx Q st nm (e.putD o.dst .any) M d (fs ++ [[]]) ops r (i + 1))
  | _ => False
/-- A call behind a guard is next. -/
def goCallG (d : Bool) (fs : List (List Nat)) (c : Bool) (ops : List Oper) (o : Oper) (r : List Oper) (i : Nat) : Prop := vcCallG cx c e M (nm + 16 * i) o (fun v l => goOps cx Q st nm (e.putD o.dst (.gd c v)) M d (fs ++ [l]) ops r (i + 1))
/-- A loop is next. -/
def goLoop (c : Code) : Prop := vc cx (.loop c) (unst cx Q st) nm e M
def goCond (v : V) (a b : Code) : Prop := match v with
  | .bool t => (t = true → go cx Q st nm e M a) ∧ (t = false → go cx Q st nm e M b)
  | .bit t f => (t = true → go cx Q st nm e M a) ∧ (f = true → go cx Q st nm e M b)
  | _ => False

theorem go_skip : go cx Q st nm e M .skip = goEx cx Q st nm e M .normal := propext Iff.rfl
theorem go_label (l : Nat) : go cx Q st nm e M (.label l) = goEx cx Q st nm e M .normal := propext Iff.rfl
theorem go_exit (id : Nat) : go cx Q st nm e M (.exit id) = goEx cx Q st nm e M (.exit id) := propext Iff.rfl
theorem go_ret : go cx Q st nm e M .ret = goEx cx Q st nm e M .ret := propext Iff.rfl
theorem go_seq (a b : Code) : go cx Q st nm e M (.seq a b) = go cx Q (.code b :: st) nm e M a := propext Iff.rfl
theorem go_block (id : Nat) (c : Code) : go cx Q st nm e M (.block id c) = go cx Q (.blk id :: st) nm e M c := propext Iff.rfl
theorem go_cond (c : Operand) (a b : Code) : go cx Q st nm e M (.cond c a b) = goCond cx Q st nm e M (evalV cx.G true e c) a b := propext Iff.rfl
theorem go_loop (c : Code) : go cx Q st nm e M (.loop c) = goLoop cx Q st nm e M c := propext Iff.rfl
theorem go_region (id : Nat) (ops : Array Oper) (d : Bool) : go cx Q st nm e M (.region id ops d) = goOps cx Q st nm e M d [] ops.toList ops.toList 0 := propext Iff.rfl
theorem goCond_bool (t : Bool) (a b : Code) : goCond cx Q st nm e M (.bool t) a b = ((t = true → go cx Q st nm e M a) ∧ (t = false → go cx Q st nm e M b)) := propext Iff.rfl
theorem goCond_bit (t f : Bool) (a b : Code) : goCond cx Q st nm e M (.bit t f) a b = ((t = true → go cx Q st nm e M a) ∧ (f = true → go cx Q st nm e M b)) := propext Iff.rfl
theorem goEx_nil (x : Ex) : goEx cx Q [] nm e M x = Q x nm e M := propext Iff.rfl
theorem goEx_code (c : Code) : goEx cx Q (.code c :: st) nm e M .normal = go cx Q st nm e M c := propext Iff.rfl
theorem goEx_code_exit (c : Code) (id : Nat) : goEx cx Q (.code c :: st) nm e M (.exit id) = goEx cx Q st nm e M (.exit id) := propext Iff.rfl
theorem goEx_code_ret (c : Code) : goEx cx Q (.code c :: st) nm e M .ret = goEx cx Q st nm e M .ret := propext Iff.rfl
theorem goEx_blk (id : Nat) : goEx cx Q (.blk id :: st) nm e M .normal = goEx cx Q st nm e M .normal := propext Iff.rfl
theorem goEx_blk_exit (id id' : Nat) : goEx cx Q (.blk id :: st) nm e M (.exit id') = if id' = id then goEx cx Q st nm e M .normal else goEx cx Q st nm e M (.exit id') := propext Iff.rfl
theorem goEx_blk_ret (id : Nat) : goEx cx Q (.blk id :: st) nm e M .ret = goEx cx Q st nm e M .ret := propext Iff.rfl
theorem goEx_again_exit (J : Nat → Nat → Env → Mem → Prop) (g : Nat) (id : Nat) : goEx cx Q (.again J g :: st) nm e M (.exit id) = goEx cx Q st nm e M (.exit id) := propext Iff.rfl
theorem goEx_again_ret (J : Nat → Nat → Env → Mem → Prop) (g : Nat) : goEx cx Q (.again J g :: st) nm e M .ret = goEx cx Q st nm e M .ret := propext Iff.rfl
theorem goOps_nil (fs : List (List Nat)) (ops : List Oper) (i : Nat) : goOps cx Q st nm e M false fs ops [] i = goEx cx Q st (nm + 16 * i) e M .normal := by
  simp only [goOps, vcOps, goEx, Bool.false_eq_true, false_implies, true_and]
theorem goOps_nil_draw (fs : List (List Nat)) (ops : List Oper) (i : Nat) : goOps cx Q st nm e M true fs ops [] i = goEnd cx Q st (nm + 16 * i) e M fs ops := by
  simp only [goOps, vcOps, goEnd, true_implies]
theorem goOps_call (d : Bool) (fs : List (List Nat)) (ops : List Oper) (dst : Option Tmp) (f : Operand) (args : Array Operand) (ats : Array TypeId) (t : TypeId) (pos : String) (af : Array Edge) (r : List Oper) (i : Nat) :
    goOps cx Q st nm e M d fs ops (⟨dst, .call ⟨.value f, args, ats⟩, t, pos, af, none⟩ :: r) i = goCall cx Q st nm e M d fs ops ⟨dst, .call ⟨.value f, args, ats⟩, t, pos, af, none⟩ r i := propext Iff.rfl
theorem goOps_guard (d : Bool) (fs : List (List Nat)) (ops : List Oper) (dst : Option Tmp) (op : Op) (t : TypeId) (pos : String) (af : Array Edge) (j : Nat) (want : Bool) (r : List Oper) (i : Nat) :
    goOps cx Q st nm e M d fs ops (⟨dst, op, t, pos, af, some (j, want)⟩ :: r) i = goGuard cx Q st nm e M d fs (guardV ops e j) want ops ⟨dst, op, t, pos, af, some (j, want)⟩ r i := by
  unfold goOps goGuard
  simp only [vcOps, goOps]
  cases guardV ops e j <;> rfl
variable {cx Q st nm e M}
/-- A call under its contract. -/
theorem call_full {d : Bool} {fs : List (List Nat)} {ops : List Oper} {dst : Option Tmp} {f : Operand} {args : Array Operand} {ats : Array TypeId} {t : TypeId} {pos : String} {af : Array Edge} {r : List Oper} {i : Nat} {g : FuncId} {caps : List V} {as : List V} (hf : evalV cx.G true e f = .fn g caps)
    (has : args.toList.map (evalV cx.G true e) ++ caps = as) (l : List Nat) {v : V} {eff : List (Nat × Option Blk)} (hev : Ev cx g (nm + 16 * i) as (M.only l) v eff) (he : ∀ x ∈ effNames eff, (x ∈ l ∧ (M x).isSome = true) ∨ Fresh (nm + 16 * i) x)
    (h : goOps cx Q st nm (e.putD dst v) (M.app eff) d (fs ++ [l ++ effNames eff]) ops r (i + 1)) : goCall cx Q st nm e M d fs ops ⟨dst, .call ⟨.value f, args, ats⟩, t, pos, af, none⟩ r i := by
  subst has
  show vcOps _ _ _ _ _ _ _ _ _
  simp only [vcOps, isCall, if_true, vcCall, hf]
  exact ⟨l, v, eff, hev, he, h⟩
theorem call_pure {d : Bool} {fs : List (List Nat)} {ops : List Oper} {dst : Option Tmp} {f : Operand} {args : Array Operand} {ats : Array TypeId} {t : TypeId} {pos : String} {af : Array Edge} {r : List Oper} {i : Nat} {g : FuncId} {caps : List V} {as : List V} (hf : evalV cx.G true e f = .fn g caps)
    (has : args.toList.map (evalV cx.G true e) ++ caps = as) {v : V} (hev : Ev cx g (nm + 16 * i) as Mem.nil v []) (h : goOps cx Q st nm (e.putD dst v) M d (fs ++ [[]]) ops r (i + 1)) : goCall cx Q st nm e M d fs ops ⟨dst, .call ⟨.value f, args, ats⟩, t, pos, af, none⟩ r i :=
  call_full hf has [] (by rw [Mem.only_nil]; exact hev) (fun x hx => by simp [effNames] at hx) h
theorem call_guard {d : Bool} {fs : List (List Nat)} {ops : List Oper} {c : Bool} {dst : Option Tmp} {f : Operand} {args : Array Operand} {ats : Array TypeId} {t : TypeId} {pos : String} {af : Array Edge} {gd : Option (Nat × Bool)} {r : List Oper} {i : Nat} {g : FuncId} {caps : List V} {as : List V} (hf : evalV cx.G c e f = .fn g caps)
    (has : args.toList.map (evalV cx.G c e) ++ caps = as) {v : V} (hev : c = true → Ev cx g (nm + 16 * i) as Mem.nil v []) (h : goOps cx Q st nm (e.putD dst (.gd c v)) M d (fs ++ [[]]) ops r (i + 1)) : goCallG cx Q st nm e M d fs c ops ⟨dst, .call ⟨.value f, args, ats⟩, t, pos, af, gd⟩ r i := by
  subst has
  unfold goCallG vcCallG
  simp only [hf]
  exact ⟨[], v, by rw [Mem.only_nil]; exact hev, h⟩
/-- A call of a function by its name. -/
theorem call_fn {d : Bool} {fs : List (List Nat)} {ops : List Oper} {dst : Option Tmp} {g : FuncId} {args : Array Operand} {ats : Array TypeId} {t : TypeId} {pos : String} {af : Array Edge} {r : List Oper} {i : Nat} {as : List V}
    (has : args.toList.map (evalV cx.G true e) = as) {v : V} (hev : Ev cx g (nm + 16 * i) as Mem.nil v []) (h : goOps cx Q st nm (e.putD dst v) M d (fs ++ [[]]) ops r (i + 1)) : goCall cx Q st nm e M d fs ops ⟨dst, .call ⟨.value (.func g), args, ats⟩, t, pos, af, none⟩ r i :=
  call_pure (caps := []) rfl (by rw [List.append_nil]; exact has) hev h
theorem call_fn_g {d : Bool} {fs : List (List Nat)} {ops : List Oper} {c : Bool} {dst : Option Tmp} {g : FuncId} {args : Array Operand} {ats : Array TypeId} {t : TypeId} {pos : String} {af : Array Edge} {gd : Option (Nat × Bool)} {r : List Oper} {i : Nat} {as : List V}
    (has : args.toList.map (evalV cx.G c e) = as) {v : V} (hev : c = true → Ev cx g (nm + 16 * i) as Mem.nil v []) (h : goOps cx Q st nm (e.putD dst (.gd c v)) M d (fs ++ [[]]) ops r (i + 1)) : goCallG cx Q st nm e M d fs c ops ⟨dst, .call ⟨.value (.func g), args, ats⟩, t, pos, af, gd⟩ r i :=
  call_guard (caps := []) rfl (by rw [List.append_nil]; exact has) hev h
/-- A call that is given blocks, or lays some. -/
theorem call_fn_full {d : Bool} {fs : List (List Nat)} {ops : List Oper} {dst : Option Tmp} {g : FuncId} {args : Array Operand} {ats : Array TypeId} {t : TypeId} {pos : String} {af : Array Edge} {r : List Oper} {i : Nat} {as : List V}
    (has : args.toList.map (evalV cx.G true e) = as) (l : List Nat) {v : V} {eff : List (Nat × Option Blk)} (hev : Ev cx g (nm + 16 * i) as (M.only l) v eff) (he : ∀ x ∈ effNames eff, (x ∈ l ∧ (M x).isSome = true) ∨ Fresh (nm + 16 * i) x)
    (h : goOps cx Q st nm (e.putD dst v) (M.app eff) d (fs ++ [l ++ effNames eff]) ops r (i + 1)) : goCall cx Q st nm e M d fs ops ⟨dst, .call ⟨.value (.func g), args, ats⟩, t, pos, af, none⟩ r i :=
  call_full (caps := []) rfl (by rw [List.append_nil]; exact has) l hev he h
/-- A region that draws its order ends: no two of its operations meet in memory. -/
theorem draw_end {fs : List (List Nat)} {ops : List Oper} (hp : pairs ops = []) (h : goEx cx Q st nm e M .normal) : goEnd cx Q st nm e M fs ops := ⟨pairs_none hp, h⟩
theorem draw_end' {fs : List (List Nat)} {ops : List Oper} {ps : List (Nat × Nat)} (hp : pairs ops = ps) (hps : ∀ p ∈ ps, ∀ x ∈ fs.getD p.1 [], x ∉ fs.getD p.2 []) (h : goEx cx Q st nm e M .normal) : goEnd cx Q st nm e M fs ops := ⟨by unfold pairsOk; rw [hp]; exact hps, h⟩
/-- A loop: J holds at its head; g goes down from round to round. -/
theorem loop_by {c : Code} (J : Nat → Nat → Env → Mem → Prop) (g : Nat) (h0 : J g nm e M) (hr : ∀ g nm e M, J g nm e M → go cx Q (.again J g :: st) nm e M c) : goLoop cx Q st nm e M c := ⟨J, g, h0, hr⟩
theorem again_by {J : Nat → Nat → Env → Mem → Prop} {g : Nat} (g' : Nat) (hg : g' < g) (h : J g' nm e M) : goEx cx Q (.again J g :: st) nm e M .normal := ⟨g', hg, h⟩
end

theorem ev_go {cx : Cx} {f : FuncId} {nm : Nat} {args : List V} {M : Mem} {v : V} {eff : List (Nat × Option Blk)} {fn : Func} {c : Code}
    (hcall : ∀ cargs w, (callFunc f cargs).run cx.P w = .ok (.enter f cargs) w) (hf : cx.P.funcs[f]? = some fn) (hb : fn.body = some c) (hm : cx.P.follows .mixedOrders = true) (hin : codeIn fn.ntmps c = true) (hargs : decide (args.length ≤ fn.ntmps) = true)
    (hvc : ∀ b0, (∀ x, b0 ≤ x → M x = none) → go cx (atEnd cx fn nm M v eff b0) [] b0 (argsE args) M c) : Ev cx f nm args M v eff :=
  ev_of_vc hcall hf hb hm hin (of_decide_eq_true hargs) hvc

/-! ### values -/
theorem putD_some (e : Env) (t : Nat) (v : V) : e.putD (some t) v = e.put t v := rfl
theorem putD_none (e : Env) (v : V) : e.putD none v = e := rfl
theorem put_at (e : Env) (t x : Nat) (v : V) : (e.put t v) x = if x = t then v else e x := rfl
theorem strip_gd_same (c : Bool) (v : V) : (V.gd c v).strip c = v := by cases c <;> simp [V.strip]
theorem strip_gd_true (c : Bool) (v : V) : (V.gd true v).strip c = v := by simp [V.strip]
theorem strip_any (c : Bool) : V.any.strip c = .any := rfl
theorem strip_bool (c b : Bool) : (V.bool b).strip c = .bool b := rfl
theorem strip_bit (c t f : Bool) : (V.bit t f).strip c = .bit t f := rfl
theorem strip_int (c : Bool) (k : IntKind) (n : Int) : (V.int k n).strip c = .int k n := rfl
theorem strip_str (c : Bool) (s : List UInt8) : (V.str s).strip c = .str s := rfl
theorem strip_nilp (c : Bool) : V.nilp.strip c = .nilp := rfl
theorem strip_ptr (c : Bool) (a b d : Nat) : (V.ptr a b d).strip c = .ptr a b d := rfl
theorem strip_rp (c : Bool) (l : List V) : (V.rp l).strip c = .rp l := rfl
theorem strip_nils (c : Bool) : V.nils.strip c = .nils := rfl
theorem strip_sl (c t : Bool) (s : Nat) (l : List (List V)) : (V.sl t s l).strip c = .sl t s l := rfl
theorem strip_own (c : Bool) (a b d : Nat) : (V.own a b d).strip c = .own a b d := rfl
theorem strip_fn (c : Bool) (f : Nat) (l : List V) : (V.fn f l).strip c = .fn f l := rfl
theorem strip_agg (c : Bool) (l : List V) : (V.agg l).strip c = .agg l := rfl
theorem strip_tup (c : Bool) (l : List V) : (V.tup l).strip c = .tup l := rfl
theorem strip_val (c : Bool) (v : Value) : (V.val v).strip c = .val v := rfl
theorem pick_bool (c x y : Bool) : pickV c (.bool x) (.bool y) = .bool (if c then x else y) := rfl
theorem pick_and (c x : Bool) : pickV c (.gd c (.bool x)) (.bool false) = .bool (c && x) := by cases c <;> simp [pickV, V.strip]
theorem pick_or (c x : Bool) : pickV c (.bool true) (.gd (!c) (.bool x)) = .bool (c || x) := by cases c <;> simp [pickV, V.strip]
theorem pick_and2 (c x : Bool) : pickV c ((V.gd c (.bool x)).strip true) (.bool false) = .bool (c && x) := by cases c <;> simp [pickV, V.strip]
theorem pick_or2 (c x : Bool) : pickV c (.bool true) ((V.gd (!c) (.bool x)).strip true) = .bool (c || x) := by cases c <;> simp [pickV, V.strip]
theorem beq_true' (b : Bool) : (b == true) = b := by cases b <;> rfl
theorem beq_false' (b : Bool) : (b == false) = !b := by cases b <;> rfl
theorem add_add_lit (a b c : Nat) : a + b + c = a + (b + c) := Nat.add_assoc a b c
theorem argsE_at (l : List V) (t : Nat) : argsE l t = (l[t]?).getD .any := rfl
theorem app_nil (M : Mem) : M.app [] = M := rfl
theorem app_cons (M : Mem) (x : Nat) (k : Option Blk) (r : List (Nat × Option Blk)) : M.app ((x, k) :: r) = (M.put x k).app r := rfl
theorem mput_at (M : Mem) (nm x : Nat) (k : Option Blk) : (M.put nm k) x = if x = nm then k else M x := rfl
theorem nil_at (x : Nat) : Mem.nil x = none := rfl
end Go.Proofs.Ytdbbnhmnlgfjoaa.Vm
