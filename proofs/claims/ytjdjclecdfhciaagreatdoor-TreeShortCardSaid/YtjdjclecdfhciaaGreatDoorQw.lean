/-
  Texts joined: XSr,XSs,XSt.
-/
import Derived.Test.YtjdjclecdfhciaaGreatDoorQu
import Derived.Test.YtjdjclecdfhciaaGreatDoorQv
import Derived.Test.YtjdjclecdfhciaaGreatDoorQs
import Derived.Test.YtjdjclecdfhciaaGreatDoorQn
import Derived.Test.YtjdjclecdfhciaaGreatDoorQr
namespace Go.Proofs.YtjdjclecdfhciaaGreatDoor
set_option maxRecDepth 100000
set_option maxHeartbeats 32000000
set_option linter.unusedSimpArgs false
set_option linter.unusedVariables false
open Go Go.RowKit Vm Go.Lib Go.Proofs.Tryz
open Vm renaming cond_bool → Ca,cond_bit → Cb
open And renaming intro → Ai
open List renaming length_map → Lm,not_mem_nil → Ln,map_nil → Lo,map_cons → Lc,mem_cons → Lk
open Bool renaming not_false → Bf,not_true → Bt
theorem dps2 : (∀ M t s r v,dpLe M (.sl t s r) v = (V.sl t s r = v)) ∧ (∀ M t s r,dpOk M (.sl t s r) = (plainLL r = true)) ∧ (∀ M k n v,dpLe M (.int k n) v = (V.int k n = v)) ∧ (∀ M k n,dpOk M (.int k n) = True) :=
  ⟨fun M t s r v => by simp only [dpLe,V.fin],fun M t s r => by simp only [dpOk,V.finOk],fun M k n v => by simp only [dpLe,V.fin],fun M k n => by simp only [dpOk,V.finOk]⟩
def parseA (s : List UInt8) : List Nd × Int := if (lexA s).2.2 ≠ 0 then ([],(lexA s).2.2) else (parseT (lexA s).1,parseE (lexA s).1)
theorem toks_fit {s : List UInt8} (hs : s.length ≤ 16384) (h : (lexA s).2.2 = 0) : (lexA s).1.length ≤ 600 ∧ ∀ t ∈ (lexA s).1,t.okTo 1000000 ∧ t.attrs.length ≤ 30 := by
  obtain ⟨h1,_,h3,_⟩ := (lex_may s).1 h
  refine ⟨by omega,fun t ht => ⟨okTo_le (lex_okTo h t ht) (by omega),?_⟩⟩
  have := tok_attrs16 (h1 t ht)
  omega
theorem parse10_ev (s : List UInt8) (hs : s.length ≤ 16384) (nm : Nat) : Ev cx 27 nm [.str s] Mem.nil (treeV (parseA s).1 (parseA s).2) [] := by
  have hl := lex_ev s (by unfold lim; omega)
  unfold lexV at hl
  have hfit := fun h => toks_fit hs h
  have hA : parseA s = if (lexA s).2.2 ≠ 0 then ([],(lexA s).2.2) else (parseT (lexA s).1,parseE (lexA s).1) := rfl
  rw [hA]
  clear hA
  generalize (lexA s).1 = L at hl hfit ⊢
  generalize (lexA s).2.1 = A at hl ⊢
  generalize (lexA s).2.2 = E at hl hfit ⊢
  by_cases hE : E = 0
  · obtain ⟨f1, f2⟩ := hfit hE
    have hp := parse_fz L f1 f2
    rw [if_neg (by simpa using hE)]
    subst hE
    unfold treeV at hp ⊢
    have hpl := plain_nd (parseT L)
    refine ev_go rfl (fun cargs w => call27 cargs w) func27 rfl mixed (by kernel_rfl) rfl ?_; intro b0 hb0
    (repeat' first | simp only [fins,mems,results27,ntmps27,wks,hpl,plain_tk,vcs,seval,tys] | exact rfl | refine call_off (v := .any) ?_ | (first | (refine call_fn ?_ (hl _) ?_) | (refine call_fn_g ?_ (fun _ => hl _) ?_) | (refine call_fn ?_ (hp _) ?_) | (refine call_fn_g ?_ (fun _ => hp _) ?_)) | ((first | apply Ca | apply Cb) <;> intro hb) | refine Ai (by omega) ?_ | (apply Ai <;> intro hb) | refine Fin.pure ?_ ?_ ?_ | simp only [injs])
  · rw [if_pos hE]
    have q : (E != 0) = true := by simpa using hE
    unfold treeV
    refine ev_go rfl (fun cargs w => call27 cargs w) func27 rfl mixed (by kernel_rfl) rfl ?_; intro b0 hb0
    (repeat' first | simp only [fins,mems,results27,ntmps27,wks,q,plain_tk,Lo,Bt,Bf,vcs,seval,tys] | exact rfl | refine call_off (v := .any) ?_ | (first | (refine call_fn ?_ (hl _) ?_) | (refine call_fn_g ?_ (fun _ => hl _) ?_)) | ((first | apply Ca | apply Cb) <;> intro hb) | refine Ai (by omega) ?_ | (apply Ai <;> intro hb) | refine Fin.pure ?_ ?_ ?_ | simp only [injs])
theorem elem_ev (n : List UInt8) (m : Int) (nm : Nat) : Ev cx 32 nm [.str n,.int .i64 m] Mem.nil (.agg [.int .u8 1,.str [],.str n,.nils,.str [],.int .i64 m]) [] := by
  refine ev_go rfl (fun cargs w => call32 cargs w) func32 rfl mixed (by kernel_rfl) rfl ?_; intro b0 hb0
  (repeat' first | simp only [fins,mems,results32,ntmps32,wks,vcs,seval,tys] | exact rfl | refine call_off (v := .any) ?_ | ((first | apply Ca | apply Cb) <;> intro hb) | refine Ai (by omega) ?_ | (apply Ai <;> intro hb) | refine Fin.pure ?_ ?_ ?_ | simp only [injs])
def tex1 : List UInt8 := [60,97,62,116,60,98,47,62,60,47,97,62]
def tev1 : List Nd := [⟨1,[],[97],[],[],2⟩,⟨2,[],[],[],[116],0⟩,⟨1,[],[98],[],[],0⟩]
theorem tex1_is : parseA tex1 = (tev1,0) := by
  unfold parseA; rw [lexW_eq]; decide +kernel
theorem tev1_may : checkB tev1 = 0 := by decide +kernel
theorem alive10_ev (nm : Nat) : Ev cx 22 nm [] Mem.nil (.bool true) [] := by
  have hp := parse10_ev tex1 (by decide)
  rw [tex1_is] at hp
  unfold treeV tex1 at hp
  simp only at hp
  have hc := checkT_ev tev1 (by decide) (fun n hn => by simp only [tev1,Lk,Ln,or_false] at hn; rcases hn with rfl | rfl | rfl <;> simp [Nd.okTo,Nd.i64,lim])
  rw [tev1_may] at hc
  have hs := sameNd_ev tev1 tev1 (by decide) (by decide) (by decide +kernel) (by decide +kernel)
  rw [decide_eq_true rfl] at hs
  have hpl := plain_nd tev1
  have hel1 := elem_ev [97] 2
  have hel2 := elem_ev [98] 0
  have hT' : tev1.map ndC = [[.int .u8 1,.str [],.str [97],.sl false 3 [],.str [],.int .i64 2],[.int .u8 2,.str [],.str [],.sl false 3 [],.str [116],.int .i64 0],[.int .u8 1,.str [],.str [98],.sl false 3 [],.str [],.int .i64 0]] := rfl
  generalize hT : tev1.map ndC = T at hp hc hs hpl hT'
  refine ev_go rfl (fun cargs w => call22 cargs w) func22 rfl mixed (by kernel_rfl) rfl ?_; intro b0 hb0
  repeat' first | simp only [results22,ntmps22,wks,hpl,vcs,seval,tys] | exact rfl | ((first | (refine call_fn ?_ (hp _) ?_) | (refine call_fn_g ?_ (fun _ => hp _) ?_) | (refine call_fn ?_ (hc _) ?_) | (refine call_fn_g ?_ (fun _ => hc _) ?_) | (refine call_fn ?_ (hel1 _) ?_) | (refine call_fn_g ?_ (fun _ => hel1 _) ?_)); (focus (simp only [results22,ntmps22,wks,hpl,vcs,seval,tys] <;> exact rfl))) | ((first | (refine call_fn ?_ (hel2 _) ?_) | (refine call_fn_g ?_ (fun _ => hel2 _) ?_)); (focus (simp only [results22,ntmps22,wks,hpl,vcs,seval,tys] <;> exact rfl))) | ((first | apply Ca | apply Cb) <;> intro hb) | refine Ai (by omega) ?_ | (apply Ai <;> intro hb)
  refine call_fn_gvd (xs := ?_) [b0 + 224] ?_ (fun _ => hs _) (fun _ => ?_) (fun _ => ?_) rfl ?_
  rotate_left 1
  · simp only [mems,wks,vcs,seval,tys] <;> exact rfl
  · simp only [dps,dps2,fins,mems,wks,finLL_cons,finLL_nil,finLLOk_cons,finLLOk_nil,leLL_cons,hT',plainL,V.plain,hpl,le_nils_sl,Lc,Lo,Bool.and_self,Bool.true_and,vcs,seval,tys]
  · simp only [dps,dps2,fins,mems,wks,finLL_cons,finLL_nil,finLLOk_cons,finLLOk_nil,leLL_cons,plainL,V.plain,hT'.symm,hpl,Lc,Lo,Bool.and_self,Bool.true_and,vcs,seval,tys]
  (repeat' first | simp only [results22,ntmps22,wks,hpl,vcs,seval,tys] | exact rfl | ((first | (refine call_fn ?_ (hp _) ?_) | (refine call_fn_g ?_ (fun _ => hp _) ?_) | (refine call_fn ?_ (hc _) ?_) | (refine call_fn_g ?_ (fun _ => hc _) ?_)); (focus (simp only [results22,ntmps22,wks,hpl,vcs,seval,tys] <;> exact rfl))) | ((first | apply Ca | apply Cb) <;> intro hb) | refine Ai (by omega) ?_ | (apply Ai <;> intro hb) | refine Fin.pure ?_ ?_ ?_ | simp only [injs])
def At.fits (a : At) : Prop := a.space.length ≤ lim ∧ a.name.length ≤ lim ∧ a.value.length ≤ lim
theorem at_shape {n : Nat} {vs : List V} (h : Shape cx.P n 60 vs) : ∃ x : At,vs = atC x ∧ x.fits := by
  obtain ⟨n',h⟩ := shape_struct kind_60 h
  obtain ⟨_,_,rfl,h1,_,_,rfl,h2,_,_,rfl,h3,h7⟩ := h
  obtain ⟨a1,rfl,r1⟩ := shape_str kind_9 h1
  obtain ⟨a2,rfl,r2⟩ := shape_str kind_9 h2
  obtain ⟨a3,rfl,r3⟩ := shape_str kind_9 h3
  obtain rfl := shapeT_nil h7
  exact ⟨⟨a1,a2,a3⟩,rfl,Nat.le_trans r1 (by decide),Nat.le_trans r2 (by decide),Nat.le_trans r3 (by decide)⟩
theorem nd_shape {n : Nat} {vs : List V} (h : Shape cx.P n 43 vs) : ∃ x : Nd,vs = ndC x ∧ (x.okTo lim ∧ x.i64) := by
  obtain ⟨n',h⟩ := shape_struct kind_43 h
  obtain ⟨_,_,rfl,h1,_,_,rfl,h2,_,_,rfl,h3,_,_,rfl,h4,_,_,rfl,h5,_,_,rfl,h6,h7⟩ := h
  obtain ⟨a1,rfl,r1,_⟩ := shape_int kind_5 h1
  obtain ⟨a2,rfl,r2⟩ := shape_str kind_9 h2
  obtain ⟨a3,rfl,r3⟩ := shape_str kind_9 h3
  obtain ⟨_,rs,rfl,l1,m1,g1⟩ := shape_slice kind_41 h4
  obtain ⟨a5,rfl,r5⟩ := shape_str kind_9 h5
  obtain ⟨a6,rfl,r6,r6'⟩ := shape_int kind_3 h6
  obtain rfl := shapeT_nil h7
  obtain ⟨x1,rfl,f1⟩ := rows_map atC At.fits (fun r hr => at_shape (g1 r hr))
  rw [Lm] at m1
  have r1' : (0 : Int) ≤ a1 := r1
  obtain ⟨b1,rfl⟩ : ∃ b : Nat,a1 = b := ⟨a1.toNat,by omega⟩
  exact ⟨⟨b1,a2,a3,x1,a5,a6⟩,rfl,⟨by show x1.length ≤ lim; unfold lim; omega,Nat.le_trans r2 (by decide),Nat.le_trans r3 (by decide),Nat.le_trans r5 (by decide),f1⟩,r6,r6'⟩
theorem nds_shape {n : Nat} {vs : List V} (h : Shape cx.P n 22 vs) : ∃ l : List Nd,vs = [.sl false 6 (l.map ndC)] ∧ l.length ≤ lim ∧ ∀ x ∈ l,x.okTo lim ∧ x.i64 := by
  obtain ⟨_,rs,rfl,l1,m1,g1⟩ := shape_slice kind_22 h
  obtain ⟨x1,rfl,f1⟩ := rows_map ndC (fun x => x.okTo lim ∧ x.i64) (fun r hr => nd_shape (g1 r hr))
  rw [Lm] at m1
  exact ⟨x1,rfl,by unfold lim; omega,f1⟩
def tokV (T : List Tk) (e : Int) : V := .tup [.sl false 4 (T.map tkC),.int .i64 e]
def toksT (n : Nd) (k : Fo) : List Tk := if toksE n k = 0 then (Fo.cons n k .nil).toks else []
theorem tokens_fz (n : Nd) (k : Fo) (hk1 : n.kind = 1) (hg : (Fo.cons n k .nil).good 12 0 = true) (hl : k.size + 1 ≤ 512) (hok : ∀ x ∈ n :: k.flat,x.okTo lim ∧ x.i64) (nm : Nat) : Ev cx 23 nm [.sl false 6 ((n :: k.flat).map ndC)] Mem.nil (tokV (toksT n k) (toksE n k)) [] := by
  unfold toksT
  by_cases h : toksE n k = 0
  · have h3 := tokens_all n k hk1 hg hl hok _ _ nm (.inr ⟨h, rfl, rfl⟩)
    rw [if_pos h,h]
    generalize (Fo.cons n k .nil).toks = T at h3 ⊢
    have hpl := plain_tk T
    have htk : (T.map tkC).take T.length = T.map tkC := take_map_len _ _
    refine Ev.freeze h3 ?_ ?_
    · simp only [fins,mems,wks,hpl,htk,Lm,vcs,seval,tys] <;> omega
    · unfold tokV
      simp only [fins,mems,wks,hpl,htk,Lm,vcs,seval,tys]
  · have h3 := tokens_all n k hk1 hg hl hok _ _ nm (.inl ⟨h, rfl, rfl⟩)
    rw [if_neg h]
    refine Ev.res_le h3 ?_
    unfold tokV
    simp only [le_tup,leL_cons,leL_nil,le_nils_sl,le_int,Lo,and_self]
theorem tokens_nofz (v : List Nd) (hv : v.length ≤ lim) (hok : ∀ n ∈ v,n.okTo lim ∧ n.i64) (h : behindO v = none) (nm : Nat) : Ev cx 23 nm [.sl false 6 (v.map ndC)] Mem.nil (tokV [] 8) [] := by
  refine Ev.res_le (tokens_no v hv hok h nm) ?_
  unfold tokV
  simp only [le_tup,leL_cons,leL_nil,le_nils_sl,le_int,Lo,and_self]
theorem tree_of {v : List Nd} {en : List Nat} (h : behindO v = some en) : ∃ n k,n.kind = 1 ∧ v = n :: k.flat ∧ (Fo.cons n k .nil).good 12 0 = true ∧ k.size + 1 ≤ 512 ∧ v.length = k.size + 1 := by
  obtain ⟨n,k,h1,h2,h3,h4,_⟩ := behind_iff.1 h
  have hl : v.length = k.size + 1 := by rw [h2]; simp [Fo.flat_length]
  exact ⟨n,k,h1,h2,h3,by omega,hl⟩
theorem cnt_zero : (([] : List Nd).filter fun n => decide (0 < n.many)).length = 0 := rfl
theorem count_take {v : List Nd} {k : Nat} {x : Nd} (h : v[k]? = some x) : ((v.take (k + 1)).filter fun n => decide (0 < n.many)).length = ((v.take k).filter fun n => decide (0 < n.many)).length + (if 0 < x.many then 1 else 0) := by
  obtain ⟨hk,rfl⟩ := List.getElem?_eq_some_iff.1 h
  rw [List.take_succ_eq_append_getElem hk,List.filter_append,List.length_append,List.filter_cons]
  by_cases hm : 0 < (v[k]).many <;> simp [hm]
theorem treeShort_main (v : List Nd) (hv : v.length ≤ lim) (hok : ∀ x ∈ v, x.okTo lim ∧ x.i64) (nm : Nat) : Ev cx 4 nm [.sl false 6 (v.map ndC)] Mem.nil (.bool true) [] := by
  have hgr := great10_ev v 100 3000 (by omega) (by omega) hv (fun x hx => (hok x hx).1)
  have hal := alive10_ev
  cases hg : greatV v 100 3000 with
  | true =>
    rw [hg] at hgr
    refine ev_go rfl (fun cargs w => call4 cargs w) func4 rfl mixed (by kernel_rfl) rfl ?_; intro b0 hb0
    (repeat' first | simp only [fins,mems,results4,ntmps4,wks,plain_nd,vcs,seval,tys] | exact rfl | refine call_off (v := .any) ?_ | (first | (refine call_fn ?_ (hal _) ?_) | (refine call_fn_g ?_ (fun _ => hal _) ?_) | (refine call_fn ?_ (hgr _) ?_) | (refine call_fn_g ?_ (fun _ => hgr _) ?_)) | ((first | apply Ca | apply Cb) <;> intro hb) | refine Ai (by omega) ?_ | (apply Ai <;> intro hb) | refine Fin.pure ?_ ?_ ?_ | simp only [injs])
  | false =>
    rw [hg] at hgr
    obtain ⟨hv1,_⟩ := great_small10 (by omega) (by omega) hg
    cases hbo : behindO v with
    | none =>
      have ht := tokens_nofz v hv hok hbo
      unfold tokV at ht
      refine ev_go rfl (fun cargs w => call4 cargs w) func4 rfl mixed (by kernel_rfl) rfl ?_; intro b0 hb0
      (repeat' first | simp only [fins,mems,results4,ntmps4,wks,plain_nd,Lo,List.length_nil,Bt,vcs,seval,tys] | exact rfl | refine call_off (v := .any) ?_ | (first | (refine call_fn ?_ (hal _) ?_) | (refine call_fn_g ?_ (fun _ => hal _) ?_) | (refine call_fn ?_ (hgr _) ?_) | (refine call_fn_g ?_ (fun _ => hgr _) ?_) | (refine call_fn ?_ (ht _) ?_) | (refine call_fn_g ?_ (fun _ => ht _) ?_)) | ((first | apply Ca | apply Cb) <;> intro hb) | refine Ai (by omega) ?_ | (apply Ai <;> intro hb) | refine Fin.pure ?_ ?_ ?_ | simp only [injs])
    | some en =>
      obtain ⟨n,k,h1,h2,h3,h4,h5⟩ := tree_of hbo
      have ht := tokens_fz n k h1 h3 h4 (by rw [← h2]; exact hok)
      rw [← h2] at ht
      have hTL := Fo.toks_length h3
      simp only [Fo.size,Nat.add_zero] at hTL
      rw [show (Fo.cons n k .nil).flat = v by rw [h2]; simp [Fo.flat]] at hTL
      have hT0 : toksE n k ≠ 0 → toksT n k = [] := fun h => by unfold toksT; rw [if_neg h]
      have hT1 : toksE n k = 0 → (toksT n k).length = v.length + (v.filter fun n => decide (0 < n.many)).length := fun h => by
        unfold toksT; rw [if_pos h]; rw [hTL,h5]
      unfold tokV at ht
      generalize toksT n k = T at ht hT0 hT1
      generalize toksE n k = E at ht hT0 hT1
      by_cases hE : E = 0
      · have hT1 := hT1 hE
        subst hE
        refine ev_go rfl (fun cargs w => call4 cargs w) func4 rfl mixed (by kernel_rfl) rfl ?_; intro b0 hb0
        repeat' first | simp only [fins,mems,results4,ntmps4,wks,plain_nd,plain_tk,Lm,Bt,vcs,seval,tys] | exact rfl | refine call_off (v := .any) ?_ | (first | (refine call_fn ?_ (hal _) ?_) | (refine call_fn_g ?_ (fun _ => hal _) ?_) | (refine call_fn ?_ (hgr _) ?_) | (refine call_fn_g ?_ (fun _ => hgr _) ?_) | (refine call_fn ?_ (ht _) ?_) | (refine call_fn_g ?_ (fun _ => ht _) ?_)) | ((first | apply Ca | apply Cb) <;> intro hb) | refine Ai (by omega) ?_ | (apply Ai <;> intro hb)
        (refine loop_can2 cxG (fun x : Nat => v.length - x) (fun x => x ≤ v.length) (b0 + 16) (fun x => [(0,.sl false 6 (v.map ndC)),(3,.bool true),(4,.sl false 4 (T.map tkC)),(6,.int .i64 ((v.length + ((v.take x).filter fun n => decide (0 < n.many)).length : Nat) : Int)),(7,.int .i64 x)]) (fun x => []) (0) [] ?_ ?_ ?_ ?_; rotate_left 1; (focus (show b0 ≤ _; omega)); (focus (refine ⟨?_,?_⟩ <;> (try simp only [cans,plain_nd,plain_tk,cnt_zero,Nat.add_zero,Lm,vcs,seval,tys,injs]) <;> (try omega))); rotate_left 1)
        · exact Nat.zero_le _
        · intro k hk
          have hfl := List.length_filter_le (fun n : Nd => decide (0 < n.many)) (v.take k)
          rw [List.length_take] at hfl
          by_cases hlt : k < v.length
          · obtain ⟨x, hx⟩ : ∃ x, v[k]? = some x := ⟨_, List.getElem?_eq_getElem hlt⟩
            have hat := nd_at hx
            have d1 : decide ((k : Int) < (v.length : Int)) = true := decide_eq_true (by omega)
            have d2 : decide (k < v.length) = true := decide_eq_true hlt
            have hki : (k : Int) < (v.length : Int) := by omega
            have hwk : IntKind.i64.wrap ((k : Int) + 1) = ((k + 1 : Nat) : Int) := wrap_in (by omega) (by omega)
            have hct := count_take hx
            generalize ((v.take k).filter fun n => decide (0 < n.many)).length = c at hfl hct ⊢
            have hwc : IntKind.i64.wrap (((v.length + c : Nat) : Int) + 1) = ((v.length + (c + 1) : Nat) : Int) := by rw [wrap_in (by omega) (by omega)]; omega
            by_cases hm : 0 < x.many
            · have q1 : decide (0 < x.many) = true := decide_eq_true hm
              rw [if_pos hm] at hct
              repeat' first | simp only [fins,mems,results4,ntmps4,wks,hat,ndC,hlt,hki,d1,d2,q1,hwk,hwc,Lm,vcs,seval,tys] | exact rfl | refine call_off (v := .any) ?_ | ((first | apply Ca | apply Cb) <;> intro hb) | refine Ai (by omega) ?_ | (apply Ai <;> intro hb)
              all_goals ((refine again_can2 cxG (k + 1) [] ?_ ?_ ?_ ?_; rotate_left 2; (focus (show b0 ≤ _; omega)); (focus (refine ⟨?_,?_⟩ <;> (try simp only [cans,hwk,hct,plain_nd,plain_tk,Lm,vcs,seval,tys,injs]) <;> (try omega)))))
              all_goals (first | (show v.length - (k + 1) < v.length - k; omega) | exact hlt | skip)
            · have q1 : decide (0 < x.many) = false := decide_eq_false hm
              rw [if_neg hm] at hct
              repeat' first | simp only [fins,mems,results4,ntmps4,wks,hat,ndC,hlt,hki,d1,d2,q1,hwk,Lm,vcs,seval,tys] | exact rfl | refine call_off (v := .any) ?_ | ((first | apply Ca | apply Cb) <;> intro hb) | refine Ai (by omega) ?_ | (apply Ai <;> intro hb)
              all_goals ((refine again_can2 cxG (k + 1) [] ?_ ?_ ?_ ?_; rotate_left 2; (focus (show b0 ≤ _; omega)); (focus (refine ⟨?_,?_⟩ <;> (try simp only [cans,hwk,hct,Nat.add_zero,plain_nd,plain_tk,Lm,vcs,seval,tys,injs]) <;> (try omega)))))
              all_goals (first | (show v.length - (k + 1) < v.length - k; omega) | exact hlt | skip)
          · have hke : k = v.length := by omega
            subst hke
            have d1 : decide ((v.length : Int) < (v.length : Int)) = false := decide_eq_false (by omega)
            have d2 : decide (v.length < v.length) = false := decide_eq_false (by omega)
            rw [List.take_length,← hT1]
            (repeat' first | simp only [fins,mems,results4,ntmps4,wks,d1,d2,Lm,beq_self_eq_true,Bool.and_self,vcs,seval,tys] | exact rfl | refine call_off (v := .any) ?_ | ((first | apply Ca | apply Cb) <;> intro hb) | refine Ai (by omega) ?_ | (apply Ai <;> intro hb) | refine Fin.pure ?_ ?_ ?_ | simp only [injs])
      · have hT0 := hT0 hE
        subst hT0
        have q : (E != 0) = true := by simpa using hE
        refine ev_go rfl (fun cargs w => call4 cargs w) func4 rfl mixed (by kernel_rfl) rfl ?_; intro b0 hb0
        (repeat' first | simp only [fins,mems,results4,ntmps4,wks,q,plain_nd,Lo,List.length_nil,Bt,vcs,seval,tys] | exact rfl | refine call_off (v := .any) ?_ | (first | (refine call_fn ?_ (hal _) ?_) | (refine call_fn_g ?_ (fun _ => hal _) ?_) | (refine call_fn ?_ (hgr _) ?_) | (refine call_fn_g ?_ (fun _ => hgr _) ?_) | (refine call_fn ?_ (ht _) ?_) | (refine call_fn_g ?_ (fun _ => ht _) ?_)) | ((first | apply Ca | apply Cb) <;> intro hb) | refine Ai (by omega) ?_ | (apply Ai <;> intro hb) | refine Fin.pure ?_ ?_ ?_ | simp only [injs])
theorem treeShort_args (xs : List V) (h : ShapeArgs cx.P Tryz.f4.params.toList xs) : Ev cx 4 0 xs Mem.nil (.bool true) [] := by
  rw [Tryz.params4] at h
  obtain ⟨_,v1,_,rfl,h1,h2⟩ := h
  obtain rfl := args_nil h2
  obtain ⟨l,rfl,hl,hs⟩ := nds_shape h1
  rw [argV_one kind_22 (by simp)]
  exact treeShort_main l hl hs 0
end Go.Proofs.YtjdjclecdfhciaaGreatDoor
