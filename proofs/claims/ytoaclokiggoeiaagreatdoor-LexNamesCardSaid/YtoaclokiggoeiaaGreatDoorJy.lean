/-
  Texts joined: XLe, XLf.
-/
import Derived.Test.YtoaclokiggoeiaaGreatDoorJx
namespace Go.Proofs.YtoaclokiggoeiaaGreatDoor
set_option maxRecDepth 100000
set_option maxHeartbeats 32000000
set_option linter.unusedSimpArgs false
set_option linter.unusedVariables false
open Nat renaming reduceAdd → Ka, reduceMul → Kb, reduceEqDiff → Kc, reduceLeDiff → Kd, reduceSub → Ke, reduceLT → Kf, reduceBEq → Kr, reduceBNe → Ks, reducePow → Kt
open Int renaming reduceToNat → Kg, reduceLE → Kh, reduceLT → Ki, reduceAdd → Kj, reduceSub → Kk, reduceMul → Kl, reduceNeg → Km, reduceBEq → Kn, reduceBNe → Ko, reduceEq → Kp, reduceNe → Kq
open Go Go.RowKit Go.Proofs.YtoaclokiggoeiaaGreatDoor.Vm Go.Lib
theorem plain_tkR (a b c : V) (l : List Pr) : plainLL [[a, b, .sl false 2 (l.map prC), c]] = (a.plain && (b.plain && c.plain)) := by simp [plainLL,plainL,V.plain,plain_pr]
theorem check_good (t : Tk) (h : t.okTo lim) (ho : headOk t = true) (nm : Nat) : Ev cx 18 nm [.agg (tkC t)] Mem.nil (.int .i64 (if attrsL t.attrs = true then 0 else 8)) [] := by
  obtain ⟨hl, hnl, htl, hal⟩ := h
  have hl' := hl
  unfold lim at hl'
  have h16 : t.attrs.length ≤ 16 := by
    unfold headOk at ho
    simp only [Bool.and_eq_true,decide_eq_true_eq] at ho
    exact ho.2
  have hee : ((t.attrs.length : Int) == 0) = t.attrs.isEmpty := len_zero _
  have hne := isEmpty_beq t.name
  have hxe := isEmpty_beq t.text
  have hge : decide ((16 : Int) < (t.attrs.length : Int)) = decide (16 < t.attrs.length) := by
    rw [Bool.eq_iff_iff]; simp; omega
  have hfull := full_ev t.name hnl
  have hchk := tCheck_ev t.text htl
  rw [head_bools] at ho
  have hex := kind_excl t.kind
  generalize h1 : ((t.kind : Int) == 1) = k1 at ho hex
  generalize h3 : ((t.kind : Int) == 3) = k3 at ho hex
  generalize h2 : ((t.kind : Int) == 2) = k2 at ho hex
  generalize h4 : ((t.kind : Int) == 4) = k4 at ho hex
  generalize he : t.attrs.isEmpty = e at ho hee
  generalize hn : t.name.isEmpty = n at ho hne
  have hxb : (t.text != []) = !t.text.isEmpty := congrArg not hxe
  have hxz : t.text.isEmpty = true → (ptsErr t.text != 0) = false := fun h => by rw [List.isEmpty_iff.1 h]; rfl
  generalize hx : t.text.isEmpty = x at ho hxe hxb hxz
  generalize hf : fullL t.name = f at ho hfull
  generalize hg : decide (16 < t.attrs.length) = g at ho hge
  generalize hz : (ptsErr t.text != 0) = z at ho hxz
  rcases check_leaves k1 k3 k2 k4 e n x f g z hex with ⟨rfl, rfl, rfl, rfl, rfl⟩ | ⟨rfl, rfl, rfl, rfl, rfl, rfl⟩ | ⟨rfl, rfl, rfl, rfl, rfl, rfl, rfl⟩ | ⟨rfl, rfl, rfl, rfl, rfl, rfl, rfl, rfl⟩ | ⟨rfl, rfl, rfl, rfl, rfl, rfl, rfl, rfl⟩ | ⟨rfl, rfl, rfl, rfl, rfl⟩ | ⟨rfl, rfl, rfl, rfl, rfl, rfl⟩ | ⟨rfl, rfl, rfl, rfl, rfl, rfl, rfl⟩ | ⟨rfl, rfl, rfl, rfl, rfl, rfl, rfl, rfl⟩ | ⟨rfl, rfl, rfl, rfl, rfl, rfl, rfl, rfl⟩ | ⟨rfl, rfl, rfl, rfl, rfl⟩ | ⟨rfl, rfl, rfl, rfl, rfl, rfl⟩ | ⟨rfl, rfl, rfl, rfl, rfl, rfl, rfl⟩ | ⟨rfl, rfl, rfl, rfl, rfl, rfl, rfl, rfl⟩ | ⟨rfl, rfl, rfl, rfl, rfl, rfl, rfl, rfl, rfl⟩ | ⟨rfl, rfl, rfl, rfl, rfl, rfl, rfl, rfl, rfl⟩ | ⟨rfl, rfl, rfl, rfl, rfl⟩ | ⟨rfl, rfl, rfl, rfl, rfl, rfl⟩ | ⟨rfl, rfl, rfl, rfl, rfl, rfl, rfl⟩ | ⟨rfl, rfl, rfl, rfl, rfl, rfl, rfl, rfl⟩ | ⟨rfl, rfl, rfl, rfl, rfl, rfl, rfl, rfl, rfl⟩ | ⟨rfl, rfl, rfl, rfl, rfl, rfl, rfl, rfl, rfl⟩ | ⟨rfl, rfl, rfl, rfl⟩
  all_goals (try (exfalso; simp at ho; done))
  all_goals (try (exfalso; exact absurd (hxz rfl) (by decide)))
  all_goals (
    refine ev_go rfl (fun cargs w => Tryz.call18 cargs w) Tryz.func18 rfl mixed (by kernel_rfl) rfl ?_; intro b0 hb0
    repeat' first | simp only [fins,mems,Tryz.results18,Tryz.ntmps18,Kt,wks,tkC,hee,hne,hxe,hxb,Bool.not_true,Bool.not_false,hge,hz,h1,h2,h3,h4,List.length_map,vcs,Ka,Kb,Kc,Kd,Ke,Kf,Kg,Kh,Ki,Kj,Kk,Kl,Km,reduceCtorEq,reduceIte,Kn,Ko,Kp,Kq,Kr,Ks,tys] | exact rfl | refine call_off (v := .any) ?_ | (first | (refine call_fn ?_ (hfull _) ?_) | (refine call_fn_g ?_ (fun _ => hfull _) ?_) | (refine call_fn ?_ (hchk _) ?_) | (refine call_fn_g ?_ (fun _ => hchk _) ?_)) | (refine call_off (v := .any) ?_) | ((first | apply cond_bool | apply cond_bit) <;> intro hb) | refine And.intro (by omega) ?_ | refine And.intro (fun hb => ?_) (fun hb => ?_))
  all_goals (
    (refine loop_can2 cxG (fun x : Nat => t.attrs.length - x) (fun x => x ≤ t.attrs.length ∧ attrsTo t.attrs x) (b0 + 16) (fun x => [(1, .ptr b0 0 0), (76, .sl false 2 (t.attrs.map prC)), (77, .int .i64 t.attrs.length), (78, .int .i64 x)]) (fun x => [(b0, ⟨4, [tkC t]⟩)]) (0) [some b0] ?_ ?_ ?_ ?_; rotate_left 1; (focus (show b0 ≤ _; omega)); (focus (refine ⟨?_, ?_⟩ <;> (try simp only [cans,plain_pr,plain_tkR,tkC,List.length_map,vcs,Ka,Kb,Kc,Kd,Ke,Kf,Kg,Kh,Ki,Kj,Kk,Kl,Km,reduceCtorEq,reduceIte,Kn,Ko,Kp,Kq,Kr,Ks,tys,injs]) <;> (try omega))); rotate_left 1))
  all_goals (first | exact ⟨Nat.zero_le _, fun i a hi => by omega⟩ | skip)
  all_goals (
    rintro k ⟨hk, hn⟩
    by_cases hlt : k < t.attrs.length
    · obtain ⟨a, ha⟩ : ∃ a, t.attrs[k]? = some a := ⟨_, List.getElem?_eq_getElem hlt⟩
      obtain ⟨hs1, hs2⟩ := hal a (List.mem_of_getElem? ha)
      have hat := pr_at ha
      have hd : decide (k < t.attrs.length) = true := decide_eq_true hlt
      have hwk : IntKind.i64.wrap ((k : Int) + 1) = ((k + 1 : Nat) : Int) := wrap_in (by omega) (by omega)
      have hki : (k : Int) ≤ (t.attrs.length : Int) := by omega
      have htk : (t.attrs.map prC).take k = (t.attrs.take k).map prC := by rw [List.map_take]
      have hlen : (t.attrs.take k).length ≤ lim := by rw [List.length_take]; unfold lim; omega
      have hf2 := full_ev a.name hs1
      have hc2 := tCheck_ev a.value hs2
      have hh2 := containsprL_ev (t.attrs.take k) 32 [.rp (prC a)] (fun b => a.name == b.name) (fun b _ nm => check1_ev a b nm) hlen rfl
      have hok : okP (t.attrs.take k) a = (!((t.attrs.take k).any fun b => a.name == b.name) && fullL a.name && decide (ptsErr a.value = 0)) := rfl
      have hz2 : decide (ptsErr a.value = 0) = !(ptsErr a.value != 0) := by rw [Bool.eq_iff_iff]; simp
      rw [hz2] at hok
      generalize hb1 : ((t.attrs.take k).any fun b => a.name == b.name) = b1 at hh2 hok
      generalize hb2 : fullL a.name = b2 at hf2 hok
      generalize hb3 : (ptsErr a.value != 0) = b3 at hok
      cases ho2 : okP (t.attrs.take k) a with
      | false =>
        have hr := attrs_false ha ho2
        rw [ho2] at hok
        cases b1 <;> cases b2 <;> cases b3
        all_goals (try (exfalso; simp at hok; done))
        all_goals ((repeat' first | simp only [fins,mems,Tryz.results18,Tryz.ntmps18,Kt,wks,plain_pr,tkC,hat,prC,hd,hlt,hk,hki,htk,hb3,hr,Bool.not_true,Bool.not_false,List.length_map,Nat.zero_add,vcs,Ka,Kb,Kc,Kd,Ke,Kf,Kg,Kh,Ki,Kj,Kk,Kl,Km,reduceCtorEq,reduceIte,Kn,Ko,Kp,Kq,Kr,Ks,tys] | exact rfl | refine call_off (v := .any) ?_ | (first | (refine call_fn ?_ (hf2 _) ?_) | (refine call_fn_g ?_ (fun _ => hf2 _) ?_) | (refine call_fn ?_ (hc2 _) ?_) | (refine call_fn_g ?_ (fun _ => hc2 _) ?_)) | ((refine call_fn_vx (xs := ?_) [b0 + 80] ?_ ?_ ?_ rfl (hh2 _) ?_); rotate_left 1) | (refine call_off (v := .any) ?_) | omega | ((first | apply cond_bool | apply cond_bit) <;> intro hb) | refine And.intro (by omega) ?_ | refine And.intro (fun hb => ?_) (fun hb => ?_) | refine Fin.pure ?_ ?_ ?_ | simp only [injs]))
      | true =>
        have hn' := attrsTo_succ hn ha ho2
        rw [ho2] at hok
        cases b1 <;> cases b2 <;> cases b3
        all_goals (try (exfalso; simp at hok; done))
        all_goals (repeat' first | simp only [fins,mems,Tryz.results18,Tryz.ntmps18,Kt,wks,plain_pr,tkC,hat,prC,hd,hlt,hk,hki,htk,hb3,hwk,Bool.not_true,Bool.not_false,List.length_map,Nat.zero_add,vcs,Ka,Kb,Kc,Kd,Ke,Kf,Kg,Kh,Ki,Kj,Kk,Kl,Km,reduceCtorEq,reduceIte,Kn,Ko,Kp,Kq,Kr,Ks,tys] | exact rfl | refine call_off (v := .any) ?_ | (first | (refine call_fn ?_ (hf2 _) ?_) | (refine call_fn_g ?_ (fun _ => hf2 _) ?_) | (refine call_fn ?_ (hc2 _) ?_) | (refine call_fn_g ?_ (fun _ => hc2 _) ?_)) | ((refine call_fn_vx (xs := ?_) [b0 + 80] ?_ ?_ ?_ rfl (hh2 _) ?_); rotate_left 1) | omega | ((first | apply cond_bool | apply cond_bit) <;> intro hb) | refine And.intro (by omega) ?_ | refine And.intro (fun hb => ?_) (fun hb => ?_))
        all_goals ((refine again_can2 cxG (k + 1) [some b0] ?_ ?_ ?_ ?_; rotate_left 2; (focus (show b0 ≤ _; omega)); (focus (refine ⟨?_, ?_⟩ <;> (try simp only [cans,plain_pr,plain_tkR,tkC,hwk,vcs,Ka,Kb,Kc,Kd,Ke,Kf,Kg,Kh,Ki,Kj,Kk,Kl,Km,reduceCtorEq,reduceIte,Kn,Ko,Kp,Kq,Kr,Ks,tys,injs]) <;> (try omega)))))
        all_goals (first | (show t.attrs.length - (k + 1) < t.attrs.length - k; omega) | exact ⟨hlt, hn'⟩ | skip)
    · have hke : k = t.attrs.length := by omega
      subst hke
      have hd : decide (t.attrs.length < t.attrs.length) = false := decide_eq_false (by omega)
      have hr : attrsL t.attrs = true := attrs_iff.2 ⟨h16, hn⟩
      (repeat' first | simp only [fins,mems,Tryz.results18,Tryz.ntmps18,Kt,wks,hd,hr,List.length_map,vcs,Ka,Kb,Kc,Kd,Ke,Kf,Kg,Kh,Ki,Kj,Kk,Kl,Km,reduceCtorEq,reduceIte,Kn,Ko,Kp,Kq,Kr,Ks,tys] | exact rfl | refine call_off (v := .any) ?_ | ((first | apply cond_bool | apply cond_bit) <;> intro hb) | refine And.intro (by omega) ?_ | refine And.intro (fun hb => ?_) (fun hb => ?_) | refine Fin.pure ?_ ?_ ?_ | simp only [injs]))
end Go.Proofs.YtoaclokiggoeiaaGreatDoor
namespace Go.Proofs.YtoaclokiggoeiaaGreatDoor
set_option maxRecDepth 100000
set_option maxHeartbeats 32000000
set_option linter.unusedSimpArgs false
set_option linter.unusedVariables false
open Go Go.RowKit Go.Proofs.YtoaclokiggoeiaaGreatDoor.Vm Go.Lib
theorem check_ev (t : Tk) (h : t.okTo lim) (nm : Nat) : Ev cx 18 nm [.agg (tkC t)] Mem.nil (.int .i64 (tokE t)) [] := by
  unfold tokE
  rw [tok_head]
  cases ho : headOk t with
  | false => exact check_bad t h ho nm
  | true =>
    have := check_good t h ho nm
    simpa using this
end Go.Proofs.YtoaclokiggoeiaaGreatDoor
