/-
  The walk of the law TextBack.
-/
import Derived.Test.YtocoajmhdobagaaDoorTf
import Derived.Test.YtocoajmhdobagaaDoorTal
import Derived.Test.YtocoajmhdobagaaDoorTnx
namespace Go.Proofs.YtocoajmhdobagaaDoor
open Go Go.RowKit Go.Lib Go.Proofs.YtocoajmhdobagaaDoor.Wd

theorem ofErr_le {l : List Int} (h : l.length ≤ 4096) : (ofErr l = 0 ∧ ofText l = enc l ∧ l.all may = true) ∨ ofErr l = 50 := by
  have := enc_length l
  by_cases hm : l.all may = true
  · left
    have e : ofErr l = 0 := by unfold ofErr; rw [if_pos hm, if_neg (by omega)]
    exact ⟨e, by unfold ofText; rw [if_pos e], hm⟩
  · right
    unfold ofErr; rw [if_neg hm]
theorem ptsErr_le {l : List UInt8} (h : l.length ≤ 16384) : (ptsErr l = 0 ∧ (pts l).all may = true ∧ enc (pts l) = l) ∨ (ptsErr l = 50 ∧ pts l = []) := by
  rw [ptsErr_small (by omega), pts_small (by omega)]
  cases hd : dec l with
  | none => exact .inr ⟨rfl, rfl⟩
  | some zs =>
    obtain ⟨h1, h2⟩ := (dec_iff l zs).1 hd
    exact .inl ⟨rfl, h1, h2⟩
theorem pts_enc {l : List Int} (hm : l.all may = true) (h : (enc l).length ≤ 16384) : pts (enc l) = l ∧ ptsErr (enc l) = 0 := by
  rw [ptsErr_small (by omega), pts_small (by omega), dec_enc l hm]
  exact ⟨rfl, rfl⟩
theorem enc_cons (z : Int) (l : List Int) : enc (z :: l) = encodeRune z ++ enc l := by simp [enc]
/-- The code point at a place between two. -/
theorem next_enc {m : List Int} (hm : m.all may = true) {i : Nat} (hi : i < m.length) :
    nextZ (enc m) ((enc (m.take i)).length : Int) = m.getD i 0 ∧ nextK (enc m) ((enc (m.take i)).length : Int) = ((encodeRune (m.getD i 0)).length : Nat) ∧ nextE (enc m) ((enc (m.take i)).length : Int) = 0 := by
  have hmi : may (m.getD i 0) = true := by
    have := List.all_eq_true.1 hm (m[i]) (List.getElem_mem hi)
    simpa [List.getD_eq_getElem?_getD, hi] using this
  have e : enc m = enc (m.take i) ++ (encodeRune (m.getD i 0) ++ enc (m.drop (i + 1))) := by
    conv => lhs; rw [← List.take_append_drop i m, List.drop_eq_getElem_cons hi]
    rw [enc_append, enc_cons, show m.getD i 0 = m[i] from by simp [List.getD_eq_getElem?_getD, hi]]
  have hlt : (enc (m.take i)).length < (enc m).length := by
    have := (encodeRune_length (m.getD i 0)).1
    rw [e, List.length_append, List.length_append]; omega
  have hone : one ((enc m).drop (enc (m.take i)).length) = some (m.getD i 0, (encodeRune (m.getD i 0)).length) := by
    rw [e, List.drop_left]; exact one_enc hmi _
  obtain ⟨h1, h2, h3⟩ := next_in hlt
  have hk := oneK_pos hone
  refine ⟨by rw [h1, hk.2], by rw [h2, hk.1], by rw [h3, hone]; rfl⟩
theorem enc_take_succ {m : List Int} {i : Nat} (hi : i < m.length) : (enc (m.take (i + 1))).length = (enc (m.take i)).length + (encodeRune (m.getD i 0)).length := by
  rw [take_snoc hi, enc_snoc, List.length_append]
theorem take_le (m : List Int) (i : Nat) : (enc (m.take i)).length ≤ (enc m).length := by
  conv => rhs; rw [← List.take_append_drop i m, enc_append]
  simp

set_option maxRecDepth 100000 in
set_option maxHeartbeats 2000000 in
theorem TextBack_walk (A : Option Addr) (n c : Nat) (zs : List Int) (s : ByteArray) (w : World) (hT : Tabs w) (hA : Sl w 1 (.slice A n c) n (zs.map (.int .i64))) (hn : n ≤ maxLen)
    (hz : ∀ k, k < n → -9223372036854775808 ≤ zs.getD k 0 ∧ zs.getD k 0 ≤ 9223372036854775807) (hs : s.size ≤ maxLen) :
    Calls Tryd.prog 6 #[.slice A n c, .string s] w fun e w' => e = .returned (.bool true) ∧ Old w w' := by
  have Hs := Lib.hid hs
  unfold maxLen at hn hs
  have Hzn := Lib.hid (show zs.length = n by simpa using hA.1)
  have HA := Lib.hid (fun w' (h : Old w w') => hA.old h)
  have HZ := Lib.hid hz
  clear hA hz
  by_cases c1 : 500 < n
  · clear hT
    go_enter Tryd.func6, Tryd.ntmps6
    go_wp2_with (go_at_call 16; (with_reducible refine (alive_any _).mono ?_); rintro e w1 ⟨he, ho1⟩; subst he)
    go_ret
    exact ⟨rfl, ho1⟩
  by_cases c2 : 2000 < s.size
  · clear hT
    go_enter Tryd.func6, Tryd.ntmps6
    go_wp2_with (go_at_call 16; (with_reducible refine (alive_any _).mono ?_); rintro e w1 ⟨he, ho1⟩; subst he)
    go_ret
    exact ⟨rfl, ho1⟩
  have HT := Lib.hid hT
  clear hT
  have hsl : s.data.toList.length = s.size := by simp
  rcases ofErr_le (l := zs) (by rw [Hzn.out]; omega) with ⟨ea, ta, ma⟩ | ea
  · have hzl : zs.length ≤ 500 := by rw [Hzn.out]; omega
    have hel := enc_length zs
    have hpt := pts_enc ma (by omega)
    have HP1 : Hid (pts (⟨(enc zs).toArray⟩ : ByteArray).data.toList = zs) := hpt.1
    have HP2 : Hid (ptsErr (⟨(enc zs).toArray⟩ : ByteArray).data.toList = 0) := hpt.2
    have Hsz : Hid ((⟨(enc zs).toArray⟩ : ByteArray).size ≤ maxLen) := by show _ ≤ maxLen; rw [Lib.size_eq]; simp [maxLen]; omega
    have EA := Lib.hid ea; have TA := Lib.hid ta
    clear ea ta ma hpt hel hzl
    rcases ptsErr_le (l := s.data.toList) (by omega) with ⟨eb, mb, tb⟩ | ⟨eb, tb⟩
    · have EB := Lib.hid eb; have MB := Lib.hid mb; have TB := Lib.hid tb
      obtain ⟨m, hm⟩ : ∃ m, pts s.data.toList = m := ⟨_, rfl⟩
      rw [hm] at mb tb
      have hml : m.length ≤ 2000 := by have h1 : (enc m).length = s.size := by rw [tb]; exact hsl
                                       have h2 : m.length ≤ (enc m).length := dec_length (dec_enc m mb)
                                       omega
      have hem : (enc m).length = s.size := by rw [tb]; exact hsl
      rcases ofErr_le (l := m) (by omega) with ⟨em, tm, _⟩ | em
      · have HM := Lib.hid hm; have EM := Lib.hid em; have TM : Hid (ofText m = s.data.toList) := tm.trans tb
        have Mm := Lib.hid mb; have Tm := Lib.hid tb; have Hem := Lib.hid hem
        have hq : (s.data.toList == s.toList) = true := by rw [toList_data]; simp
        have hmz : ∀ k, k < m.length → -9223372036854775808 ≤ m.getD k 0 ∧ m.getD k 0 ≤ 9223372036854775807 := fun k hk => by
          have hh := List.all_eq_true.1 mb (m[k]) (List.getElem_mem hk)
          have := may_range hh
          have e : m.getD k 0 = m[k] := by simp [List.getD_eq_getElem?_getD, hk]
          rw [e]; omega
        have Hmz := Lib.hid hmz
        clear eb mb tb hm em tm hem hsl hmz
        go_enter Tryd.func6, Tryd.ntmps6
        go_wp2_with fail
        with_reducible refine (alive_any _).mono ?_
        rintro e w1 ⟨he, ho1⟩; subst he
        go_wp2_with fail
        with_reducible refine (Of_any A n c zs _ (HA.out _ ho1) (by omega) HZ.out).mono ?_
        rintro e w2 ⟨he, ho2⟩; rw [EA.out, TA.out] at he; subst he
        go_wp2_with fail
        with_reducible refine (Points_any _ _ Hsz.out).mono ?_
        rintro e w3 ⟨A3, c3, he, hown3, ho3⟩; rw [HP1.out] at he hown3; rw [HP2.out] at he; rw [Hzn.out] at he hown3; subst he
        go_wp2_with fail
        with_reducible refine (Same_any A3 A n n c3 c zs zs _ (Sl.of_own hown3) (HA.out _ ((ho1.trans ho2).trans ho3)) (by unfold maxLen; omega) (by unfold maxLen; omega)).mono ?_
        rintro e w4 ⟨he, q4, hw4⟩
        rw [show (zs == zs) = true by simp] at he
        subst he hw4
        have ho : Old w (w3.drewN q4) := ((ho1.trans ho2).trans ho3).drewN q4
        clear hown3 ho1 ho2 ho3
        generalize w3.drewN q4 = wx at *
        go_wp2_with fail
        with_reducible refine (Points_any _ _ Hs.out).mono ?_
        rintro e w5 ⟨A5, c5, he, hown5, ho5⟩; rw [HM.out] at he hown5; rw [EB.out] at he; subst he
        have S5 := Lib.hid (fun w' (h : Old w5 w') => (Sl.of_own hown5).old h)
        clear hown5
        go_wp2_with fail
        with_reducible refine (Of_any A5 m.length c5 m _ (S5.out _ (Old.refl _)) (by omega) Hmz.out).mono ?_
        rintro e w6 ⟨he, ho6⟩; rw [EM.out, TM.out] at he; subst he
        go_wp2_with fail
        have hoB : Old w w6 := (ho.trans ho5).trans ho6
        go_loopg [14, 15] m.length (fun g s14 s15 wr => ∃ (i a : Nat), i ≤ m.length ∧ m.length - i ≤ g ∧ s15 = .int .i64 i ∧ s14 = .int .i64 a ∧ a ≤ s.size ∧ Hid (a = (enc (m.take i)).length) ∧ Old w6 wr)
        case atStart => exact ⟨0, 0, Nat.zero_le _, by omega, rfl, rfl, Nat.zero_le _, rfl, Old.refl _⟩
        case round =>
          obtain ⟨i, a, hi, hg, rfl, rfl, ha, hae, hor⟩ := hrel
          by_cases hlt : i < m.length
          · obtain ⟨n1, n2, n3⟩ := next_enc Mm.out hlt
            rw [← hae.out, Tm.out] at n1 n2 n3
            have hsucc := enc_take_succ hlt
            rw [← hae.out] at hsucc
            have hle := take_le m (i + 1)
            rw [Hem.out] at hle
            have hmi : may (m.getD i 0) = true := by
              have := List.all_eq_true.1 Mm.out (m[i]) (List.getElem_mem hlt)
              simpa [List.getD_eq_getElem?_getD, hlt] using this
            have hzr := Hmz.out i hlt
            obtain ⟨ad, hAd, g1⟩ := (S5.out _ (ho6.trans hor)).at1 hlt (u := .int .i64 (m.getD i 0)) (by simp [List.getD_eq_getElem?_getD, hlt])
            subst hAd
            have hk1 := (encodeRune_length (m.getD i 0)).1
            rw [hsucc] at hle
            have N1 := Lib.hid n1; have N2 := Lib.hid n2; have N3 := Lib.hid n3; have Hsu := Lib.hid hsucc
            clear n1 n2 n3 hsucc
            generalize m.getD i 0 = z at *
            generalize (encodeRune z).length = kk at *
            have hb : (z != z) = false := by simp
            have Hor := Lib.hid hor
            clear hor
            have g2 : ∀ w', Old wr w' → Hid (w'.cell? (ad.add i) = some (.int .i64 z)) := fun w' h => ((h.cell (lt_of_cell g1)).trans g1)
            have G2 := Lib.hid g2
            clear g1 g2
            go_wp2_with (first
              | (go_at_call 7; (with_reducible refine (Next_any s a _ (HT.out.old (hoB.trans Hor.out)) Hs.out (by omega) (by omega)).mono ?_); rintro e w7 ⟨he, ho7⟩; rw [N1.out, N2.out, N3.out] at he; subst he; have g3 := (G2.out _ ho7).out)
              | (go_at_call 14; (with_reducible refine (May_any z _ (by omega) (by omega)).mono ?_); rintro e w8 ⟨he, hw8⟩; rw [hmi] at he; subst he hw8))
            go_roundg (m.length - (i + 1))
            case measure => omega
            case rel => exact ⟨i + 1, a + kk, by omega, by omega, by go_num, by go_num, by omega, Hsu.out.symm, Hor.out.trans ho7⟩
          · have : i = m.length := by omega
            subst this
            have hfin : a = s.size := by rw [hae.out, List.take_of_length_le (Nat.le_refl _), Hem.out]
            subst hfin
            clear hae
            go_wp2
            go_ret
            exact ⟨by simp, hoB.trans hor⟩
      · exfalso
        unfold ofErr at em
        rw [if_pos mb] at em
        split at em <;> cases em
    · have EB := Lib.hid eb; have TB := Lib.hid tb
      clear eb tb hsl
      go_enter Tryd.func6, Tryd.ntmps6
      go_wp2_with fail
      with_reducible refine (alive_any _).mono ?_
      rintro e w1 ⟨he, ho1⟩; subst he
      go_wp2_with fail
      with_reducible refine (Of_any A n c zs _ (HA.out _ ho1) (by omega) HZ.out).mono ?_
      rintro e w2 ⟨he, ho2⟩; rw [EA.out, TA.out] at he; subst he
      go_wp2_with fail
      with_reducible refine (Points_any _ _ Hsz.out).mono ?_
      rintro e w3 ⟨A3, c3, he, hown3, ho3⟩; rw [HP1.out] at he hown3; rw [HP2.out] at he; rw [Hzn.out] at he hown3; subst he
      go_wp2_with fail
      with_reducible refine (Same_any A3 A n n c3 c zs zs _ (Sl.of_own hown3) (HA.out _ ((ho1.trans ho2).trans ho3)) (by unfold maxLen; omega) (by unfold maxLen; omega)).mono ?_
      rintro e w4 ⟨he, q4, hw4⟩
      rw [show (zs == zs) = true by simp] at he
      subst he hw4
      have ho : Old w (w3.drewN q4) := ((ho1.trans ho2).trans ho3).drewN q4
      clear hown3 ho1 ho2 ho3
      generalize w3.drewN q4 = wx at *
      go_wp2_with fail
      with_reducible refine (Points_any _ _ Hs.out).mono ?_
      rintro e w5 ⟨A5, c5, he, hown5, ho5⟩; rw [TB.out] at he; rw [EB.out] at he; subst he; clear hown5
      go_wp2_with fail
      with_reducible refine (Check_any _ _ Hs.out).mono ?_
      rintro e w6 ⟨he, ho6⟩; rw [EB.out] at he; subst he
      go_wp2
      go_ret
      exact ⟨rfl, (ho.trans ho5).trans ho6⟩
  · have EA := Lib.hid ea
    clear ea
    rcases ptsErr_le (l := s.data.toList) (by omega) with ⟨eb, mb, tb⟩ | ⟨eb, tb⟩
    · have EB := Lib.hid eb; have MB := Lib.hid mb; have TB := Lib.hid tb
      obtain ⟨m, hm⟩ : ∃ m, pts s.data.toList = m := ⟨_, rfl⟩
      rw [hm] at mb tb
      have hml : m.length ≤ 2000 := by have h1 : (enc m).length = s.size := by rw [tb]; exact hsl
                                       have h2 : m.length ≤ (enc m).length := dec_length (dec_enc m mb)
                                       omega
      have hem : (enc m).length = s.size := by rw [tb]; exact hsl
      rcases ofErr_le (l := m) (by omega) with ⟨em, tm, _⟩ | em
      · have HM := Lib.hid hm; have EM := Lib.hid em; have TM : Hid (ofText m = s.data.toList) := tm.trans tb
        have Mm := Lib.hid mb; have Tm := Lib.hid tb; have Hem := Lib.hid hem
        have hq : (s.data.toList == s.toList) = true := by rw [toList_data]; simp
        have hmz : ∀ k, k < m.length → -9223372036854775808 ≤ m.getD k 0 ∧ m.getD k 0 ≤ 9223372036854775807 := fun k hk => by
          have hh := List.all_eq_true.1 mb (m[k]) (List.getElem_mem hk)
          have := may_range hh
          have e : m.getD k 0 = m[k] := by simp [List.getD_eq_getElem?_getD, hk]
          rw [e]; omega
        have Hmz := Lib.hid hmz
        clear eb mb tb hm em tm hem hsl hmz
        go_enter Tryd.func6, Tryd.ntmps6
        go_wp2_with fail
        with_reducible refine (alive_any _).mono ?_
        rintro e w1 ⟨he, ho1⟩; subst he
        go_wp2_with fail
        with_reducible refine (Of_any A n c zs _ (HA.out _ ho1) (by omega) HZ.out).mono ?_
        rintro e wx ⟨he, ho2⟩; rw [EA.out] at he; subst he
        have ho : Old w wx := ho1.trans ho2
        clear ho1 ho2
        go_wp2_with fail
        with_reducible refine (Points_any _ _ Hs.out).mono ?_
        rintro e w5 ⟨A5, c5, he, hown5, ho5⟩; rw [HM.out] at he hown5; rw [EB.out] at he; subst he
        have S5 := Lib.hid (fun w' (h : Old w5 w') => (Sl.of_own hown5).old h)
        clear hown5
        go_wp2_with fail
        with_reducible refine (Of_any A5 m.length c5 m _ (S5.out _ (Old.refl _)) (by omega) Hmz.out).mono ?_
        rintro e w6 ⟨he, ho6⟩; rw [EM.out, TM.out] at he; subst he
        go_wp2_with fail
        have hoB : Old w w6 := (ho.trans ho5).trans ho6
        go_loopg [14, 15] m.length (fun g s14 s15 wr => ∃ (i a : Nat), i ≤ m.length ∧ m.length - i ≤ g ∧ s15 = .int .i64 i ∧ s14 = .int .i64 a ∧ a ≤ s.size ∧ Hid (a = (enc (m.take i)).length) ∧ Old w6 wr)
        case atStart => exact ⟨0, 0, Nat.zero_le _, by omega, rfl, rfl, Nat.zero_le _, rfl, Old.refl _⟩
        case round =>
          obtain ⟨i, a, hi, hg, rfl, rfl, ha, hae, hor⟩ := hrel
          by_cases hlt : i < m.length
          · obtain ⟨n1, n2, n3⟩ := next_enc Mm.out hlt
            rw [← hae.out, Tm.out] at n1 n2 n3
            have hsucc := enc_take_succ hlt
            rw [← hae.out] at hsucc
            have hle := take_le m (i + 1)
            rw [Hem.out] at hle
            have hmi : may (m.getD i 0) = true := by
              have := List.all_eq_true.1 Mm.out (m[i]) (List.getElem_mem hlt)
              simpa [List.getD_eq_getElem?_getD, hlt] using this
            have hzr := Hmz.out i hlt
            obtain ⟨ad, hAd, g1⟩ := (S5.out _ (ho6.trans hor)).at1 hlt (u := .int .i64 (m.getD i 0)) (by simp [List.getD_eq_getElem?_getD, hlt])
            subst hAd
            have hk1 := (encodeRune_length (m.getD i 0)).1
            rw [hsucc] at hle
            have N1 := Lib.hid n1; have N2 := Lib.hid n2; have N3 := Lib.hid n3; have Hsu := Lib.hid hsucc
            clear n1 n2 n3 hsucc
            generalize m.getD i 0 = z at *
            generalize (encodeRune z).length = kk at *
            have hb : (z != z) = false := by simp
            have Hor := Lib.hid hor
            clear hor
            have g2 : ∀ w', Old wr w' → Hid (w'.cell? (ad.add i) = some (.int .i64 z)) := fun w' h => ((h.cell (lt_of_cell g1)).trans g1)
            have G2 := Lib.hid g2
            clear g1 g2
            go_wp2_with (first
              | (go_at_call 7; (with_reducible refine (Next_any s a _ (HT.out.old (hoB.trans Hor.out)) Hs.out (by omega) (by omega)).mono ?_); rintro e w7 ⟨he, ho7⟩; rw [N1.out, N2.out, N3.out] at he; subst he; have g3 := (G2.out _ ho7).out)
              | (go_at_call 14; (with_reducible refine (May_any z _ (by omega) (by omega)).mono ?_); rintro e w8 ⟨he, hw8⟩; rw [hmi] at he; subst he hw8))
            go_roundg (m.length - (i + 1))
            case measure => omega
            case rel => exact ⟨i + 1, a + kk, by omega, by omega, by go_num, by go_num, by omega, Hsu.out.symm, Hor.out.trans ho7⟩
          · have : i = m.length := by omega
            subst this
            have hfin : a = s.size := by rw [hae.out, List.take_of_length_le (Nat.le_refl _), Hem.out]
            subst hfin
            clear hae
            go_wp2
            go_ret
            exact ⟨by simp, hoB.trans hor⟩
      · exfalso
        unfold ofErr at em
        rw [if_pos mb] at em
        split at em <;> cases em
    · have EB := Lib.hid eb; have TB := Lib.hid tb
      clear eb tb hsl
      go_enter Tryd.func6, Tryd.ntmps6
      go_wp2_with fail
      with_reducible refine (alive_any _).mono ?_
      rintro e w1 ⟨he, ho1⟩; subst he
      go_wp2_with fail
      with_reducible refine (Of_any A n c zs _ (HA.out _ ho1) (by omega) HZ.out).mono ?_
      rintro e wx ⟨he, ho2⟩; rw [EA.out] at he; subst he
      have ho : Old w wx := ho1.trans ho2
      clear ho1 ho2
      go_wp2_with fail
      with_reducible refine (Points_any _ _ Hs.out).mono ?_
      rintro e w5 ⟨A5, c5, he, hown5, ho5⟩; rw [TB.out] at he; rw [EB.out] at he; subst he; clear hown5
      go_wp2_with fail
      with_reducible refine (Check_any _ _ Hs.out).mono ?_
      rintro e w6 ⟨he, ho6⟩; rw [EB.out] at he; subst he
      go_wp2
      go_ret
      exact ⟨rfl, (ho.trans ho5).trans ho6⟩
end Go.Proofs.YtocoajmhdobagaaDoor
