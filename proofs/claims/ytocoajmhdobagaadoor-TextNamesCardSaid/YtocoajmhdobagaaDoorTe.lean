/-
  Contract: the text of code points, as layer 5 makes it: its closure first.
-/
import Derived.Test.YtocoajmhdobagaaDoorTb
import Derived.OneCell
namespace Go.Proofs.YtocoajmhdobagaaDoor
open Go Go.RowKit Go.Proofs.YtocoajmhdobagaaDoor.Wd

set_option maxHeartbeats 1000000 in
theorem put_no (z : Int) (g : Nat) (w : World) (h0 : -9223372036854775808 ≤ z) (h1 : z ≤ 9223372036854775807) (hm : may z = false) :
    Calls Tryd.prog 24 #[.int .i64 z, .pointer (some ⟨g, 0, none⟩)] w fun e w' => e = .returned (.bool false) ∧ w = w' := by
  go_enter Tryd.func24, Tryd.ntmps24
  go_wp2_with (go_at_call 14; (with_reducible refine (May_any z _ h0 h1).mono ?_); rintro e w' ⟨rfl, rfl⟩; rw [hm])
  go_ret
  exact ⟨rfl, rfl⟩

def PutPost (g n : Nat) (xs : List Value) (z : Int) (w : World) (e : Ending) (w' : World) : Prop :=
  e = .returned (.bool true) ∧ ∃ v', w'.heap[g]? = some (.cells #[v'] 41 (0, 0)) ∧ w'.ownsRow (g + 1) 5 1 v' (n + (Lib.runeCells z).length) (xs ++ Lib.runeCells z) ∧ Below g w w'

set_option maxHeartbeats 1000000 in
theorem put_yes (z : Int) (g n : Nat) (v : Value) (xs : List Value) (w : World) (hm : may z = true) (hg : w.heap[g]? = some (.cells #[v] 41 (0, 0)))
    (hown : w.ownsRow (g + 1) 5 1 v n xs) (hn : n + 4 ≤ 140737488355328) :
    Calls Tryd.prog 24 #[.int .i64 z, .pointer (some ⟨g, 0, none⟩)] w (PutPost g n xs z w) := by
  obtain ⟨m0, m1, _⟩ := may_range hm
  have hlt := lt_of_heap hg
  have hc := cell_of_one hg
  have hne := own_ne hown (Nat.lt_succ_self g)
  have HG : ∀ o w1, (w.alloc o).grownBy w1 v.ownBlock → Hid (w1.heap[g]? = some (.cells #[v] 41 (0, 0))) := fun o w1 h1 =>
    ((h1.block g (by simp; omega) hne).trans (Below.heap_alloc w o g hlt)).trans hg
  have HB : ∀ o w1, (w.alloc o).grownBy w1 v.ownBlock → Hid (Below g w w1) := fun o w1 h1 =>
    (((Below.refl g w).alloc (by omega) o).grown h1 (by simp; omega) (fun k hk => by have := (hown.lt k hk).1; omega))
  have HK := Lib.hid HG; clear HG
  have HL := Lib.hid HB; clear HB
  have Hown := Lib.hid hown; clear hown hg hne
  go_enter Tryd.func24, Tryd.ntmps24
  go_wp2_with (first
    | (go_at_call 14; (with_reducible refine (May_any z _ (by omega) (by omega)).mono ?_); rintro e w' ⟨rfl, rfl⟩; rw [hm])
    | (go_at_call 25; (with_reducible refine (Tryd.utf8_AppendRune_plain (g + 1) v n xs z (by omega) (by omega) _ Hown.out hn (by omega)).mono ?_); rintro e w1 ⟨v1, he, hown1, o1, hg1⟩; obtain ⟨A1, c1, rfl⟩ := own_form hown1; subst he; have hc1 := cell_of_one (HK.out o1 w1 hg1).out; have hf1 := free_of_one (HK.out o1 w1 hg1).out))
  go_ret
  exact ⟨rfl, _, one_setCell (HK.out o1 w1 hg1).out, ownsRow_setCell_below hown1 (Nat.lt_succ_self g) _, (HL.out o1 w1 hg1).out.setCell (Nat.le_refl g) _⟩
end Go.Proofs.YtocoajmhdobagaaDoor
