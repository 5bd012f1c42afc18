/-
  Contract: the code points of a text, as layer 5 tells them.
-/
import Derived.Test.YtocoajmhdobagaaDoorTb
import Derived.Test.YtocoajmhdobagaaDoorTq
import Derived.Lib.OthersKept
import Derived.Laws.RangeAny
import Derived.WalkSpells
import Derived.WalkSmall
namespace Go.Proofs.YtocoajmhdobagaaDoor
open Go Go.RowKit Go.Lib Go.Proofs.YtocoajmhdobagaaDoor.Wd


def ptsErr (l : List UInt8) : Int := if 16384 < l.length then 4 else match dec l with | none => 50 | some _ => 0
def pts (l : List UInt8) : List Int := if 16384 < l.length then [] else (dec l).getD []

def PointsPost (s : ByteArray) (w : World) (e : Ending) (w' : World) : Prop :=
  ∃ A c, e = .returned (.tuple #[.slice A (pts s.data.toList).length c, .int .i64 (ptsErr s.data.toList)]) ∧
    w'.ownsRow w.heap.size 3 1 (.slice A (pts s.data.toList).length c) (pts s.data.toList).length ((pts s.data.toList).map (.int .i64)) ∧ Old w w'

theorem points_bad {s : ByteArray} {w w' : World} (h : pts s.data.toList = []) {n : Int} (he : ptsErr s.data.toList = n) (ho : Old w w') : PointsPost s w (.returned (.tuple #[.slice none 0 0, .int .i64 n])) w' := by
  refine ⟨none, 0, ?_, ?_, ho⟩
  · rw [h, he]; rfl
  · rw [h]; exact World.ownsRow_nil _ _ _ _

theorem Points_it {w wi w1 : World} {o : Obj} {v : Value} {s : ByteArray} {p n : Nat} {xs : List Value} (hown : wi.ownsRow (w.heap.size + 1) 3 1 v n xs) (hg : (wi.alloc o).grownBy w1 v.ownBlock) (hit : wi.heap[w.heap.size]? = some (.stringIter s p)) :
    w1.heap[w.heap.size]? = some (.stringIter s p) := by
  have hlt := Wd.lt_of_heap hit
  exact ((hg.block _ (by simp; omega) (own_ne hown (Nat.lt_succ_self _))).trans (Below.heap_alloc wi o _ hlt)).trans hit
theorem Points_me {w wr wi w1 : World} {o : Obj} {v : Value} {s : ByteArray} {p k n : Nat} {xs : List Value} (hown : wi.ownsRow (w.heap.size + 1) 3 1 v n xs) (hg : (wi.alloc o).grownBy w1 v.ownBlock) (hit : wi.heap[w.heap.size]? = some (.stringIter s (p + k)))
    (hk : 1 ≤ k) (hlt : p < s.size) (hr : wr.heap[w.heap.size]? = some (.stringIter s p)) : s.size - w1.iterPos w.heap.size < s.size - wr.iterPos w.heap.size := by
  rw [iterPos_of (Points_it hown hg hit), iterPos_of hr]; omega

set_option maxHeartbeats 1000000 in
theorem Points_any (s : ByteArray) (w : World) (hs : s.size ≤ maxLen) :
    Calls Tryd.prog 9 #[.string s] w (PointsPost s w) := by
  unfold maxLen at hs
  have hsz : s.data.toList.length = s.size := by simp
  obtain ⟨i0, hi0, hz0, hz1, hz2⟩ := info_parts int_info
  by_cases hbig : 16384 < s.size
  · have HP : Hid (pts s.data.toList = [] ∧ ptsErr s.data.toList = 4) := by
      constructor
      · unfold pts; rw [if_pos (by omega)]
      · unfold ptsErr; rw [if_pos (by omega)]
    clear hsz
    go_enter Tryd.func9, Tryd.ntmps9
    go_wp2
    go_ret2
    exact points_bad HP.out.1 HP.out.2 (Old.refl w)
  · have Hsz := Lib.hid hsz; clear hsz
    go_enter Tryd.func9, Tryd.ntmps9
    go_wp2
    go_loopw [2] (fun s2 wr => ∃ (pos : Nat) (zs : List Int), pos ≤ s.size ∧ zs.length ≤ pos ∧ Hid (wr.heap[w.heap.size]? = some (.stringIter s pos)) ∧ wr.ownsRow (w.heap.size + 1) 3 1 s2 zs.length (zs.map (.int .i64)) ∧ Hid (dec s.data.toList = (dec (s.data.toList.drop pos)).map (zs ++ ·)) ∧ Old w wr)
      (fun _ wr => s.size - wr.iterPos w.heap.size)
    case atStart => exact ⟨0, [], Nat.zero_le _, Nat.zero_le _, heap_alloc_new w _, World.ownsRow_nil _ _ _ _, by show _ = _; simp, (Old.refl w).alloc _⟩
    case round =>
      obtain ⟨pos, zs, hp, hzl, hit, hown, hdec, hold⟩ := hrel
      by_cases hlt : pos < s.size
      · have hne : s.data.toList.drop pos ≠ [] := by
          intro h
          have := congrArg List.length h
          rw [List.length_drop, Hsz.out] at this
          simp at this; omega
        have Hne := Lib.hid hne; clear hne
        have H1 := Lib.hid (one_of_decode Hne.out)
        have Hd := Lib.hid (decode_drop s pos)
        have hrm := decode_le s pos
        have hnx0 : ∀ ty, (Instr.next (.pointer (some ⟨w.heap.size, 0, none⟩)) true ty).run Tryd.prog wr = _ := fun ty => run_next_any_at wr w.heap.size s pos ty hit.out hlt
        have hit2 := iterAt_heap wr w.heap.size s pos (pos + (Utf8.decode s pos).2) hit.out
        have hown2 := ownsRow_iterAt hown (Nat.lt_succ_self w.heap.size) s (pos + (Utf8.decode s pos).2)
        have hold2 : Old w (wr.iterAt w.heap.size s (pos + (Utf8.decode s pos).2)) := below_iterAt hold (Nat.le_refl _) s _
        have hsz2 := iterAt_size wr w.heap.size s (pos + (Utf8.decode s pos).2)
        have hszr : w.heap.size < wr.heap.size := Wd.lt_of_heap hit.out
        rw [← hsz2] at hszr
        have Hit1 : Hid (wr.heap[w.heap.size]? = some (.stringIter s pos)) := hit
        clear hsz2 hit hown hold
        generalize wr.iterAt w.heap.size s (pos + (Utf8.decode s pos).2) = wi at *
        have Hit2 := Lib.hid hit2; clear hit2
        rw [← Hd.out] at H1
        clear Hd
        generalize (Utf8.decode s pos).1 = r at *
        generalize (Utf8.decode s pos).2 = k at *
        have hnx : ∀ ty, (Instr.next (.pointer (some ⟨w.heap.size, 0, none⟩)) true ty).run Tryd.prog wr = .ok (.tuple #[.bool true, .int .i64 pos, .int .i32 r]) wi := hnx0
        clear hnx0
        have hpe : (s.extract pos s.size).data.toList = s.data.toList.drop pos := by
          rw [extract_data, List.take_of_length_le]; simp
        have Hpe := Lib.hid hpe; clear hpe
        by_cases hbad : (r = 65533 ∧ hasPrefix (s.data.toList.drop pos) [239, 191, 189] = false) ∨ may (r : Int) = false
        · have h1 := H1.out
          rw [if_pos hbad] at h1
          have hnone : dec s.data.toList = none := by rw [hdec.out, dec_bad Hne.out h1]; rfl
          have HP : Hid (pts s.data.toList = [] ∧ ptsErr s.data.toList = 50) := by
            constructor
            · unfold pts; rw [if_neg (by rw [Hsz.out]; omega), hnone]; rfl
            · unfold ptsErr; rw [if_neg (by rw [Hsz.out]; omega), hnone]
          clear hnone h1 H1
          by_cases hr : r = 65533
          · subst hr
            have hf : hasPrefix (s.data.toList.drop pos) [239, 191, 189] = false := by
              rcases hbad with ⟨_, h⟩ | h
              · exact h
              · exact absurd h (by decide)
            have Hf := Lib.hid hf; clear hf hbad
            go_wp2_with (go_at_call 20; (with_reducible refine (Tryd.strings_HasPrefix _ _ _).mono ?_); rintro e w' ⟨rfl, rfl⟩; simp only [Hpe.out, Hf.out])
            go_ret2
            exact points_bad HP.out.1 HP.out.2 hold2
          · have hr2 : ((r : Int) == 65533) = false := by rw [beq_eq_false_iff_ne]; omega
            have hmf : may (r : Int) = false := by
              rcases hbad with ⟨h, _⟩ | h
              · exact absurd h hr
              · exact h
            clear hbad
            go_wp2_with (go_at_call 14; (with_reducible refine (May_any _ _ (by omega) (by omega)).mono ?_); rintro e w' ⟨rfl, rfl⟩; rw [hmf])
            go_ret2
            exact points_bad HP.out.1 HP.out.2 hold2
        · have h1 := H1.out
          rw [if_neg hbad] at h1
          obtain ⟨_, hm, _, hk1, hk2⟩ := one_some h1
          rw [List.length_drop, Hsz.out] at hk2
          have hd2 : dec s.data.toList = (dec (s.data.toList.drop (pos + k))).map ((zs ++ [(r : Int)]) ++ ·) := by
            rw [hdec.out, dec_step h1, List.drop_drop, Option.map_map]
            congr 1
            funext x
            simp
          have Hd2 := Lib.hid hd2
          clear hd2 h1 H1 hdec
          by_cases hr : r = 65533
          · subst hr
            have hf : hasPrefix (s.data.toList.drop pos) [239, 191, 189] = true := by
              cases h : hasPrefix (s.data.toList.drop pos) [239, 191, 189] with
              | true => rfl
              | false => exact absurd (.inl ⟨rfl, h⟩) hbad
            have Hf := Lib.hid hf; clear hf hbad
            go_wp2_with (first
              | (go_at_call 20; (with_reducible refine (Tryd.strings_HasPrefix _ _ _).mono ?_); rintro e w' ⟨rfl, rfl⟩; simp only [Hpe.out, Hf.out])
              | (go_at_call 14; (with_reducible refine (May_any _ _ (by omega) (by omega)).mono ?_); rintro e w' ⟨rfl, rfl⟩; rw [show may 65533 = true from rfl])
              | (at_builtin; refine wpList_append_sl _ rfl (.tmp 30) (.tmp 33) _ rfl (w.heap.size + 1) 3 i0 _ 1 8 Tryd.underlying27 hi0 hz0 hz1 hz2 rfl (by omega) _ _ _ rfl (hown2.alloc _) _ 1 [.int .i64 65533] rfl (Sl.lit _ #[_] _ 1 1 (by decide) rfl) ?c1 ?c2 ?c3 ?c4 ?_; (case c1 => intro u hu; simp at hu; subst hu; rfl); (case c2 => simp only [maxLen]; omega); (case c3 => omega); (case c4 => simp; omega); intro v1 w1 hown1 hg1 hat1))
            simp only [Value.ownBlock] at hg1
            go_roundw
            case rel => exact ⟨pos + k, zs ++ [65533], by omega, by simp; omega, Points_it hown2 hg1 Hit2.out, by simpa using hown1, Hd2.out, (hold2.alloc _).grown hg1 (fun b hb => by have := (hown2.lt b hb).1; omega)⟩
            case measure => exact Points_me hown2 hg1 Hit2.out hk1 hlt Hit1.out
          · have hr2 : ((r : Int) == 65533) = false := by rw [beq_eq_false_iff_ne]; omega
            clear hbad
            go_wp2_with (first
              | (go_at_call 14; (with_reducible refine (May_any _ _ (by omega) (by omega)).mono ?_); rintro e w' ⟨rfl, rfl⟩; rw [hm])
              | (at_builtin; refine wpList_append_sl _ rfl (.tmp 30) (.tmp 33) _ rfl (w.heap.size + 1) 3 i0 _ 1 8 Tryd.underlying27 hi0 hz0 hz1 hz2 rfl (by omega) _ _ _ rfl (hown2.alloc _) _ 1 [.int .i64 r] rfl (Sl.lit _ #[_] _ 1 1 (by decide) rfl) ?c1 ?c2 ?c3 ?c4 ?_; (case c1 => intro u hu; simp at hu; subst hu; rfl); (case c2 => simp only [maxLen]; omega); (case c3 => omega); (case c4 => simp; omega); intro v1 w1 hown1 hg1 hat1))
            go_roundw
            case rel => exact ⟨pos + k, zs ++ [(r : Int)], by omega, by simp; omega, Points_it hown2 hg1 Hit2.out, by simpa using hown1, Hd2.out, (hold2.alloc _).grown hg1 (fun b hb => by have := (hown2.lt b hb).1; omega)⟩
            case measure => exact Points_me hown2 hg1 Hit2.out hk1 hlt Hit1.out
      · have : pos = s.size := by omega
        subst this
        have hnx : ∀ ty, (Instr.next (.pointer (some ⟨w.heap.size, 0, none⟩)) true ty).run Tryd.prog wr = _ := fun ty => run_next_end_at wr w.heap.size s s.size ty hit.out (by omega)
        have hd : dec s.data.toList = some zs := by
          rw [hdec.out, List.drop_of_length_le (by rw [Hsz.out]; exact Nat.le_refl _), dec_nil]; simp
        have HP : Hid (pts s.data.toList = zs ∧ ptsErr s.data.toList = 0) := by
          constructor
          · unfold pts; rw [if_neg (by rw [Hsz.out]; omega), hd]; rfl
          · unfold ptsErr; rw [if_neg (by rw [Hsz.out]; omega), hd]
        clear hd hdec
        obtain ⟨A, c, rfl⟩ := own_form hown
        go_wp2
        go_ret2
        refine ⟨A, c, ?_, ?_, hold⟩
        · rw [HP.out.1, HP.out.2]; rfl
        · rw [HP.out.1]; exact own_base hown (by omega)
end Go.Proofs.YtocoajmhdobagaaDoor
