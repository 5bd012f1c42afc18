/-
 Texts joined: XAe,XAh,XAl.
-/
import Derived.Test.YtjonibipieofcaaGreatDoorMt
import Derived.Test.YtjonibipieofcaaGreatDoorMe
set_option maxHeartbeats 16000000
set_option maxRecDepth 100000
set_option linter.all false
namespace Go.Proofs.YtjonibipieofcaaGreatDoor
open Go Go.RowKit Vm Go.Lib Tryz
open Vm renaming aI->Ca,aP->Cb
open And renaming intro->Ai
open List renaming length_map->Lm,not_mem_nil->Ln,map_nil->Lo,map_cons->Lc,mem_cons->Lk
open Bool renaming not_false->Bf,not_true->Bt
def Fi (a:Ak)(nm:Nat):Ev cx 12 nm [.rp (aQ a)] ao.nil (.agg (zI a).flatten) []:=by
 have hp:=be a
 have hd:=nG a
 have n0:=fun nm=>jQ (aQ a) nm hp [114,105,100]
 have w1:=fun nm=>iK ((aQ a).drop 1) nm (hd 1) [] [115,105,100] 30
 have w2:=fun nm=>iK ((aQ a).drop 2) nm (hd 2) [] [116,111] 30
 have w3:=fun nm=>iK ((aQ a).drop 3) nm (hd 3) [] [102,114,111,109] 30
 have w4:=fun nm=>iK ((aQ a).drop 4) nm (hd 4) [104,116,116,112,58,47,47,119,119,119,46,119,51,46,111,114,103,47,88,77,76,47,49,57,57,56,47,110,97,109,101,115,112,97,99,101] [108,97,110,103] 30
 have n5:=fun nm=>jQ ((aQ a).drop 5) nm (hd 5) [119,97,105,116]
 have n6:=fun nm=>jQ ((aQ a).drop 6) nm (hd 6) [104,111,108,100]
 have n7:=fun nm=>jQ ((aQ a).drop 9) nm (hd 9) [97,99,107]
 have n8:=fun nm=>jQ ((aQ a).drop 10) nm (hd 10) [112,97,117,115,101]
 have v9:=fun nm=>Ny (aQ a) nm hp
 have w10:=fun nm=>iK ((aQ a).drop 11) nm (hd 11) [] [107,101,121] 22
 have w11:=fun nm=>iK ((aQ a).drop 12) nm (hd 12) [] [110,101,119,107,101,121] 22
 have f1:=fun nm=>BV ((aQ a).drop 13) nm (hd 13) [] [116,121,112,101] [[116,101,114,109,105,110,97,116,101]] .nils (.inl rfl)
 have f2:=fun nm=>BV ((aQ a).drop 14) nm (hd 14) [117,114,110,58,120,109,112,112,58,120,98,111,115,104] [114,101,115,116,97,114,116] [[116,114,117,101],[49]] (.sl false 1 ([[102,97,108,115,101],[48]].map gS)) (.inr ⟨_,rfl⟩)
 simp only[Lc,Lo,gS]at f1 f2
 simp only[zI,Lc,Lo,gS,List.flatten_cons,List.flatten_nil,List.cons_append,List.nil_append]
 generalize aQ a=A at hp hd n0 w1 w2 w3 w4 n5 n6 n7 n8 v9 w10 w11 f1 f2 ⊢
 refine aX call12 func12 ?_;intro b0 hb0;have zF:=Ai results12 ntmps12
 (repeat' first|simp only[zF,am,hp,hd,cA,bO,List.cons_append,List.nil_append,List.drop_zero,aj,ai,seval]|exact rfl|((first|(refine ah ?_ (n0 _) ?_)|(refine ac ?_ (fun _=>n0 _) ?_)|(refine ah ?_ (w1 _) ?_)|(refine ac ?_ (fun _=>w1 _) ?_)|(refine ah ?_ (v9 _) ?_)|(refine ac ?_ (fun _=>v9 _) ?_));(focus (simp only[zF,am,hp,hd,cA,bO,List.cons_append,List.nil_append,List.drop_zero,aj,ai,seval]<;>exact rfl)))|((first|(refine ah ?_ (w2 _) ?_)|(refine ac ?_ (fun _=>w2 _) ?_)|(refine ah ?_ (n5 _) ?_)|(refine ac ?_ (fun _=>n5 _) ?_));(focus (simp only[zF,am,hp,hd,cA,bO,List.cons_append,List.nil_append,List.drop_zero,aj,ai,seval]<;>exact rfl)))|((first|(refine ah ?_ (w3 _) ?_)|(refine ac ?_ (fun _=>w3 _) ?_)|(refine ah ?_ (n6 _) ?_)|(refine ac ?_ (fun _=>n6 _) ?_));(focus (simp only[zF,am,hp,hd,cA,bO,List.cons_append,List.nil_append,List.drop_zero,aj,ai,seval]<;>exact rfl)))|((first|(refine ah ?_ (w4 _) ?_)|(refine ac ?_ (fun _=>w4 _) ?_)|(refine ah ?_ (n7 _) ?_)|(refine ac ?_ (fun _=>n7 _) ?_));(focus (simp only[zF,am,hp,hd,cA,bO,List.cons_append,List.nil_append,List.drop_zero,aj,ai,seval]<;>exact rfl)))|((first|(refine ah ?_ (n8 _) ?_)|(refine ac ?_ (fun _=>n8 _) ?_)|(refine ah ?_ (w10 _) ?_)|(refine ac ?_ (fun _=>w10 _) ?_));(focus (simp only[zF,am,hp,hd,cA,bO,List.cons_append,List.nil_append,List.drop_zero,aj,ai,seval]<;>exact rfl)))|((first|(refine ah ?_ (w11 _) ?_)|(refine ac ?_ (fun _=>w11 _) ?_));(focus (simp only[zF,am,hp,hd,cA,bO,List.cons_append,List.nil_append,List.drop_zero,aj,ai,seval]<;>exact rfl)))|((refine dA (xs:=?_) [b0+800] ?_ ?_ ?_ ?_ (f1 _) ?_ ?_);rotate_left 1;iterate 3 (focus (simp only[au,ap,zF,am,hp,hd,cA,bO,List.cons_append,List.nil_append,List.drop_zero,aj,ai,seval]<;>(first|exact rfl|omega))))|((refine dA (xs:=?_) [b0+880,b0+896] ?_ ?_ ?_ ?_ (f2 _) ?_ ?_);rotate_left 1;iterate 3 (focus (simp only[au,ap,zF,am,hp,hd,cA,bO,List.cons_append,List.nil_append,List.drop_zero,aj,ai,seval]<;>(first|exact rfl|omega))))|refine ag (ps:=[(3,49),(7,49),(11,49),(15,49),(19,49),(23,49),(27,49),(31,49),(35,49),(37,49),(41,49),(45,49),(3,54),(7,54),(11,54),(15,54),(19,54),(23,54),(27,54),(31,54),(35,54),(37,54),(41,54),(45,54),(49,54),(50,54),(3,55),(7,55),(11,55),(15,55),(19,55),(23,55),(27,55),(31,55),(35,55),(37,55),(41,55),(45,55),(49,55),(50,55),(54,55)]) (by decide +kernel) (by simp only[List.forall_mem_cons,List.getD_cons_zero,List.getD_cons_succ,zF,am,hp,hd,cA,bO,List.cons_append,List.nil_append,List.drop_zero,aj,ai,seval]<;>(try simp)<;>(try omega)) ?_|refine av (by decide +kernel) ?_|((first|apply Ca|apply Cb)<;>intro hb)|refine Ai (by omega) ?_|(apply Ai<;>intro hb)|apply Fin.pure|simp only[aq])
 ·intro x hx;simp only[List.mem_singleton]at hx;subst hx;simp
 ·intro x hx;cases hx
 ·intro x hx
  simp only[Lk,Ln,or_false]at hx
  rcases hx with rfl|rfl<;>simp
 ·intro x hx;cases hx
def gj (a:Ak):Bool:=(a.great == -1&&a.small == -1)||(decide (0<=min a.great a.small)&&decide (max a.great a.small<=99))
def dF (a:Ak):Bool:=(a.key==[]||jl a.key 40)&&(a.fresh==[]||jl a.fresh 40)
def FC (a:Ak):Bool:=!([a.rid,a.wait,a.hold,a.ack,a.pause].any fy)
def E1 (a:Ak):Bool:=!([a.sid,a.dst,a.src,a.lang].any fc)
def uj (a:Ak):Bool:=decide (0<=a.rid)&&FC a&&gj a&&dF a&&E1 a&&decide (a.load.length<=16) && !(a.load.any qP)
def K4 (a:Ak)(h:a.ok)(nm:Nat):Ev cx 11 nm [.agg (aQ a)] ao.nil (.bool (uj a)) []:=by
 have hk1:=xK a.key h.s5
 have hk2:=xK a.fresh h.s6
 have hc:=FD [a.rid,a.wait,a.hold,a.ack,a.pause] (by simp[aT])
 have ht:=HZ [a.sid,a.dst,a.src,a.lang] (by simp[aT]) (fun s hs=>by
  simp only[Lk,Ln,or_false]at hs
  rcases hs with rfl|rfl|rfl|rfl
  ·exact h.s1
  ·exact h.s2
  ·exact h.s3
  ·exact h.s4)
 have ho:=mQ a.load 23 [] qP (fun v hv nm=>JQ v (h.l2 v hv).1 (h.l2 v hv).2 nm) h.l1 rfl
 have q16:decide ((a.load.length:Int)<=16)=decide (a.load.length<=16):=by rw[Bool.eq_iff_iff];simp;omega
 unfold uj
 change ∀ nm,Ev _ _ _ _ _ (.bool (FC a)) _ at hc
 change ∀ nm,Ev _ _ _ _ _ (.bool (E1 a)) _ at ht
 simp only[Lc,Lo,cH,gS]at hc ht
 generalize FC a=C at hc ⊢
 generalize E1 a=T at ht ⊢
 generalize a.load.any qP=O at ho ⊢
 refine iP rfl call11 func11 rfl mixed (by kernel_rfl) rfl ?_;intro b0 hb0;have zF:=Ai results11 ntmps11
 repeat' first|simp only[au,ap,zF,am,aQ,aV,ad,Bool.false_and,Bool.true_and,Bool.and_false,Bool.and_true,Bool.true_or,Bool.false_or,Bt,Bf,Bool.or_self,Bool.and_self,Lm,aj,ai,seval]|exact rfl|refine aa (v:=.any) ?_|((first|apply Ca|apply Cb)<;>intro hb)|refine Ai (by omega) ?_|(apply Ai<;>intro hb)
 refine bj ?_
 refine(fun tail:True -> ?T=>?main) ?rest
 case main =>
  cases e1:(a.great == -1&&a.small == -1) with
  | false =>
   cases e2:decide (0<=min a.great a.small) with
   | false =>
    have hw:gj a=false:=by unfold gj;simp only[e1,e2,Bool.false_and,Bool.true_and,Bool.and_false,Bool.and_true,Bool.true_or,Bool.false_or,Bt,Bf,Bool.or_self,Bool.and_self]
    repeat' first|simp only[au,ap,zF,am,e1,e2,ge_iff_le,aQ,aV,ad,Bool.false_and,Bool.true_and,Bool.and_false,Bool.and_true,Bool.true_or,Bool.false_or,Bt,Bf,Bool.or_self,Bool.and_self,Lm,aj,ai,seval]|exact rfl|refine aa (v:=.any) ?_|((first|apply Ca|apply Cb)<;>intro hb)|refine Ai (by omega) ?_|(apply Ai<;>intro hb)
    (refine aY jI (b0+16) ([(1,.ptr b0 0 0),(3,.bool (gj a))]) ([(b0,⟨16,[aV a (.sl false 1 (a.load.map aR))]⟩)]) [some b0] ?_ ?_ ?_;(focus (show b0<=_;omega));(focus (refine⟨?_,?_⟩<;>(try simp only[aE,cL,e1,e2,hw,Bool.false_and,Bool.true_and,Bool.and_false,Bool.and_true,Bool.true_or,Bool.false_or,Bt,Bf,Bool.or_self,Bool.and_self,aV,aQ,ad,al,az,Nat.le_refl,or_true,Lm,aj,ai,aq,seval])<;>(try omega))))
    all_goals (first|exact Nat.le_add_right _ _|exact tail trivial)
   | true =>
    cases e3:decide (max a.great a.small<=99) with
    | false =>
     have hw:gj a=false:=by unfold gj;simp only[e1,e2,e3,Bool.false_and,Bool.true_and,Bool.and_false,Bool.and_true,Bool.true_or,Bool.false_or,Bt,Bf,Bool.or_self,Bool.and_self]
     repeat' first|simp only[au,ap,zF,am,e1,e2,e3,ge_iff_le,aQ,aV,ad,Bool.false_and,Bool.true_and,Bool.and_false,Bool.and_true,Bool.true_or,Bool.false_or,Bt,Bf,Bool.or_self,Bool.and_self,Lm,aj,ai,seval]|exact rfl|refine aa (v:=.any) ?_|((first|apply Ca|apply Cb)<;>intro hb)|refine Ai (by omega) ?_|(apply Ai<;>intro hb)
     (refine aY jI (b0+16) ([(1,.ptr b0 0 0),(3,.bool (gj a))]) ([(b0,⟨16,[aV a (.sl false 1 (a.load.map aR))]⟩)]) [some b0] ?_ ?_ ?_;(focus (show b0<=_;omega));(focus (refine⟨?_,?_⟩<;>(try simp only[aE,cL,e1,e2,e3,hw,Bool.false_and,Bool.true_and,Bool.and_false,Bool.and_true,Bool.true_or,Bool.false_or,Bt,Bf,Bool.or_self,Bool.and_self,aV,aQ,ad,al,az,Nat.le_refl,or_true,Lm,aj,ai,aq,seval])<;>(try omega))))
     all_goals (first|exact Nat.le_add_right _ _|exact tail trivial)
    | true =>
     have hw:gj a=true:=by unfold gj;simp only[e1,e2,e3,Bool.false_and,Bool.true_and,Bool.and_false,Bool.and_true,Bool.true_or,Bool.false_or,Bt,Bf,Bool.or_self,Bool.and_self]
     repeat' first|simp only[au,ap,zF,am,e1,e2,e3,ge_iff_le,aQ,aV,ad,Bool.false_and,Bool.true_and,Bool.and_false,Bool.and_true,Bool.true_or,Bool.false_or,Bt,Bf,Bool.or_self,Bool.and_self,Lm,aj,ai,seval]|exact rfl|refine aa (v:=.any) ?_|((first|apply Ca|apply Cb)<;>intro hb)|refine Ai (by omega) ?_|(apply Ai<;>intro hb)
     (refine aY jI (b0+16) ([(1,.ptr b0 0 0),(3,.bool (gj a))]) ([(b0,⟨16,[aV a (.sl false 1 (a.load.map aR))]⟩)]) [some b0] ?_ ?_ ?_;(focus (show b0<=_;omega));(focus (refine⟨?_,?_⟩<;>(try simp only[aE,cL,e1,e2,e3,hw,Bool.false_and,Bool.true_and,Bool.and_false,Bool.and_true,Bool.true_or,Bool.false_or,Bt,Bf,Bool.or_self,Bool.and_self,aV,aQ,ad,al,az,Nat.le_refl,or_true,Lm,aj,ai,aq,seval])<;>(try omega))))
     all_goals (first|exact Nat.le_add_right _ _|exact tail trivial)
  | true =>
   have hw:gj a=true:=by unfold gj;simp only[e1,Bool.false_and,Bool.true_and,Bool.and_false,Bool.and_true,Bool.true_or,Bool.false_or,Bt,Bf,Bool.or_self,Bool.and_self]
   repeat' first|simp only[au,ap,zF,am,e1,ge_iff_le,aQ,aV,ad,Bool.false_and,Bool.true_and,Bool.and_false,Bool.and_true,Bool.true_or,Bool.false_or,Bt,Bf,Bool.or_self,Bool.and_self,Lm,aj,ai,seval]|exact rfl|refine aa (v:=.any) ?_|((first|apply Ca|apply Cb)<;>intro hb)|refine Ai (by omega) ?_|(apply Ai<;>intro hb)
   (refine aY jI (b0+16) ([(1,.ptr b0 0 0),(3,.bool (gj a))]) ([(b0,⟨16,[aV a (.sl false 1 (a.load.map aR))]⟩)]) [some b0] ?_ ?_ ?_;(focus (show b0<=_;omega));(focus (refine⟨?_,?_⟩<;>(try simp only[aE,cL,e1,hw,Bool.false_and,Bool.true_and,Bool.and_false,Bool.and_true,Bool.true_or,Bool.false_or,Bt,Bf,Bool.or_self,Bool.and_self,aV,aQ,ad,al,az,Nat.le_refl,or_true,Lm,aj,ai,aq,seval])<;>(try omega))))
   all_goals (first|exact Nat.le_add_right _ _|exact tail trivial)
 case rest =>
  intro _
  generalize gj a=V3
  refine(fun tail2:True -> ?T2=>?main2) ?rest2
  case main2 =>
   cases k1:(a.key==[]||jl a.key 40) with
   | false =>
    have hw:dF a=false:=by unfold dF;simp only[k1,Bool.false_and,Bool.true_and,Bool.and_false,Bool.and_true,Bool.true_or,Bool.false_or,Bt,Bf,Bool.or_self,Bool.and_self]
    repeat' first|simp only[au,ap,zF,am,k1,ge_iff_le,aQ,aV,ad,Bool.false_and,Bool.true_and,Bool.and_false,Bool.and_true,Bool.true_or,Bool.false_or,Bt,Bf,Bool.or_self,Bool.and_self,Lm,aj,ai,seval]|exact rfl|refine aa (v:=.any) ?_|((first|(refine ah ?_ (hk1 _) ?_)|(refine ac ?_ (fun _=>hk1 _) ?_));(focus (simp only[zF,am,k1,ge_iff_le,aQ,aV,ad,Bool.false_and,Bool.true_and,Bool.and_false,Bool.and_true,Bool.true_or,Bool.false_or,Bt,Bf,Bool.or_self,Bool.and_self,Lm,aj,ai,seval]<;>exact rfl)))|((first|(refine ah ?_ (hk2 _) ?_)|(refine ac ?_ (fun _=>hk2 _) ?_));(focus (simp only[zF,am,k1,ge_iff_le,aQ,aV,ad,Bool.false_and,Bool.true_and,Bool.and_false,Bool.and_true,Bool.true_or,Bool.false_or,Bt,Bf,Bool.or_self,Bool.and_self,Lm,aj,ai,seval]<;>exact rfl)))|((first|apply Ca|apply Cb)<;>intro hb)|refine Ai (by omega) ?_|(apply Ai<;>intro hb)
    (refine aY jI (b0+16) ([(1,.ptr b0 0 0),(3,.bool V3),(4,.bool (dF a))]) ([(b0,⟨16,[aV a (.sl false 1 (a.load.map aR))]⟩)]) [some b0] ?_ ?_ ?_;(focus (show b0<=_;omega));(focus (refine⟨?_,?_⟩<;>(try simp only[aE,cL,k1,hw,Bool.false_and,Bool.true_and,Bool.and_false,Bool.and_true,Bool.true_or,Bool.false_or,Bt,Bf,Bool.or_self,Bool.and_self,aV,aQ,ad,al,az,Nat.le_refl,or_true,Lm,aj,ai,aq,seval])<;>(try omega))))
    all_goals (first|exact Nat.le_add_right _ _|exact tail2 trivial)
   | true =>
    cases k2:(a.fresh==[]) with
    | false =>
     cases k3:jl a.fresh 40 with
     | false =>
      rw[k3]at hk2
      have hw:dF a=false:=by unfold dF;simp only[k1,k2,k3,Bool.false_and,Bool.true_and,Bool.and_false,Bool.and_true,Bool.true_or,Bool.false_or,Bt,Bf,Bool.or_self,Bool.and_self]
      repeat' first|simp only[au,ap,zF,am,k1,k2,k3,ge_iff_le,aQ,aV,ad,Bool.false_and,Bool.true_and,Bool.and_false,Bool.and_true,Bool.true_or,Bool.false_or,Bt,Bf,Bool.or_self,Bool.and_self,Lm,aj,ai,seval]|exact rfl|refine aa (v:=.any) ?_|((first|(refine ah ?_ (hk1 _) ?_)|(refine ac ?_ (fun _=>hk1 _) ?_));(focus (simp only[zF,am,k1,k2,k3,ge_iff_le,aQ,aV,ad,Bool.false_and,Bool.true_and,Bool.and_false,Bool.and_true,Bool.true_or,Bool.false_or,Bt,Bf,Bool.or_self,Bool.and_self,Lm,aj,ai,seval]<;>exact rfl)))|((first|(refine ah ?_ (hk2 _) ?_)|(refine ac ?_ (fun _=>hk2 _) ?_));(focus (simp only[zF,am,k1,k2,k3,ge_iff_le,aQ,aV,ad,Bool.false_and,Bool.true_and,Bool.and_false,Bool.and_true,Bool.true_or,Bool.false_or,Bt,Bf,Bool.or_self,Bool.and_self,Lm,aj,ai,seval]<;>exact rfl)))|((first|apply Ca|apply Cb)<;>intro hb)|refine Ai (by omega) ?_|(apply Ai<;>intro hb)
      (refine aY jI (b0+16) ([(1,.ptr b0 0 0),(3,.bool V3),(4,.bool (dF a))]) ([(b0,⟨16,[aV a (.sl false 1 (a.load.map aR))]⟩)]) [some b0] ?_ ?_ ?_;(focus (show b0<=_;omega));(focus (refine⟨?_,?_⟩<;>(try simp only[aE,cL,k1,k2,k3,hw,Bool.false_and,Bool.true_and,Bool.and_false,Bool.and_true,Bool.true_or,Bool.false_or,Bt,Bf,Bool.or_self,Bool.and_self,aV,aQ,ad,al,az,Nat.le_refl,or_true,Lm,aj,ai,aq,seval])<;>(try omega))))
      all_goals (first|exact Nat.le_add_right _ _|exact tail2 trivial)
     | true =>
      rw[k3]at hk2
      have hw:dF a=true:=by unfold dF;simp only[k1,k2,k3,Bool.false_and,Bool.true_and,Bool.and_false,Bool.and_true,Bool.true_or,Bool.false_or,Bt,Bf,Bool.or_self,Bool.and_self]
      repeat' first|simp only[au,ap,zF,am,k1,k2,k3,ge_iff_le,aQ,aV,ad,Bool.false_and,Bool.true_and,Bool.and_false,Bool.and_true,Bool.true_or,Bool.false_or,Bt,Bf,Bool.or_self,Bool.and_self,Lm,aj,ai,seval]|exact rfl|refine aa (v:=.any) ?_|((first|(refine ah ?_ (hk1 _) ?_)|(refine ac ?_ (fun _=>hk1 _) ?_));(focus (simp only[zF,am,k1,k2,k3,ge_iff_le,aQ,aV,ad,Bool.false_and,Bool.true_and,Bool.and_false,Bool.and_true,Bool.true_or,Bool.false_or,Bt,Bf,Bool.or_self,Bool.and_self,Lm,aj,ai,seval]<;>exact rfl)))|((first|(refine ah ?_ (hk2 _) ?_)|(refine ac ?_ (fun _=>hk2 _) ?_));(focus (simp only[zF,am,k1,k2,k3,ge_iff_le,aQ,aV,ad,Bool.false_and,Bool.true_and,Bool.and_false,Bool.and_true,Bool.true_or,Bool.false_or,Bt,Bf,Bool.or_self,Bool.and_self,Lm,aj,ai,seval]<;>exact rfl)))|((first|apply Ca|apply Cb)<;>intro hb)|refine Ai (by omega) ?_|(apply Ai<;>intro hb)
      (refine aY jI (b0+16) ([(1,.ptr b0 0 0),(3,.bool V3),(4,.bool (dF a))]) ([(b0,⟨16,[aV a (.sl false 1 (a.load.map aR))]⟩)]) [some b0] ?_ ?_ ?_;(focus (show b0<=_;omega));(focus (refine⟨?_,?_⟩<;>(try simp only[aE,cL,k1,k2,k3,hw,Bool.false_and,Bool.true_and,Bool.and_false,Bool.and_true,Bool.true_or,Bool.false_or,Bt,Bf,Bool.or_self,Bool.and_self,aV,aQ,ad,al,az,Nat.le_refl,or_true,Lm,aj,ai,aq,seval])<;>(try omega))))
      all_goals (first|exact Nat.le_add_right _ _|exact tail2 trivial)
    | true =>
     have hw:dF a=true:=by unfold dF;simp only[k1,k2,Bool.false_and,Bool.true_and,Bool.and_false,Bool.and_true,Bool.true_or,Bool.false_or,Bt,Bf,Bool.or_self,Bool.and_self]
     repeat' first|simp only[au,ap,zF,am,k1,k2,ge_iff_le,aQ,aV,ad,Bool.false_and,Bool.true_and,Bool.and_false,Bool.and_true,Bool.true_or,Bool.false_or,Bt,Bf,Bool.or_self,Bool.and_self,Lm,aj,ai,seval]|exact rfl|refine aa (v:=.any) ?_|((first|(refine ah ?_ (hk1 _) ?_)|(refine ac ?_ (fun _=>hk1 _) ?_));(focus (simp only[zF,am,k1,k2,ge_iff_le,aQ,aV,ad,Bool.false_and,Bool.true_and,Bool.and_false,Bool.and_true,Bool.true_or,Bool.false_or,Bt,Bf,Bool.or_self,Bool.and_self,Lm,aj,ai,seval]<;>exact rfl)))|((first|(refine ah ?_ (hk2 _) ?_)|(refine ac ?_ (fun _=>hk2 _) ?_));(focus (simp only[zF,am,k1,k2,ge_iff_le,aQ,aV,ad,Bool.false_and,Bool.true_and,Bool.and_false,Bool.and_true,Bool.true_or,Bool.false_or,Bt,Bf,Bool.or_self,Bool.and_self,Lm,aj,ai,seval]<;>exact rfl)))|((first|apply Ca|apply Cb)<;>intro hb)|refine Ai (by omega) ?_|(apply Ai<;>intro hb)
     (refine aY jI (b0+16) ([(1,.ptr b0 0 0),(3,.bool V3),(4,.bool (dF a))]) ([(b0,⟨16,[aV a (.sl false 1 (a.load.map aR))]⟩)]) [some b0] ?_ ?_ ?_;(focus (show b0<=_;omega));(focus (refine⟨?_,?_⟩<;>(try simp only[aE,cL,k1,k2,hw,Bool.false_and,Bool.true_and,Bool.and_false,Bool.and_true,Bool.true_or,Bool.false_or,Bt,Bf,Bool.or_self,Bool.and_self,aV,aQ,ad,al,az,Nat.le_refl,or_true,Lm,aj,ai,aq,seval])<;>(try omega))))
     all_goals (first|exact Nat.le_add_right _ _|exact tail2 trivial)
  case rest2 =>
   intro _
   generalize dF a=V4
   cases r1:decide (0<=a.rid) with
   | false =>
    (repeat' first|simp only[au,ap,zF,am,r1,ge_iff_le,aQ,aV,ad,Bool.false_and,Bool.true_and,Bool.and_false,Bool.and_true,Bool.true_or,Bool.false_or,Bt,Bf,Bool.or_self,Bool.and_self,Lm,aj,ai,seval]|exact rfl|refine aa (v:=.any) ?_|refine bj ?_|refine ee ?_|(refine aa (v:=.any) ?_)|((first|apply Ca|apply Cb)<;>intro hb)|refine Ai (by omega) ?_|(apply Ai<;>intro hb)|apply Fin.pure|simp only[aq])
   | true =>
     cases C with
     | false =>
      (repeat' first|simp only[au,ap,zF,am,r1,ge_iff_le,aQ,aV,ad,Bool.false_and,Bool.true_and,Bool.and_false,Bool.and_true,Bool.true_or,Bool.false_or,Bt,Bf,Bool.or_self,Bool.and_self,Lm,aj,ai,seval]|exact rfl|refine aa (v:=.any) ?_|((refine cX (xs:=?_) [b0+256] ?_ (fun _=>?_) (fun _=>?_) rfl ((fun _=>hc _)) ?_);rotate_left 1)|refine bj ?_|refine ee ?_|(refine aa (v:=.any) ?_)|omega|((first|apply Ca|apply Cb)<;>intro hb)|refine Ai (by omega) ?_|(apply Ai<;>intro hb)|apply Fin.pure|simp only[aq])
     | true =>
      cases V3 with
      | false =>
       (repeat' first|simp only[au,ap,zF,am,r1,ge_iff_le,aQ,aV,ad,Bool.false_and,Bool.true_and,Bool.and_false,Bool.and_true,Bool.true_or,Bool.false_or,Bt,Bf,Bool.or_self,Bool.and_self,Lm,aj,ai,seval]|exact rfl|refine aa (v:=.any) ?_|((refine cX (xs:=?_) [b0+256] ?_ (fun _=>?_) (fun _=>?_) rfl ((fun _=>hc _)) ?_);rotate_left 1)|refine bj ?_|refine ee ?_|(refine aa (v:=.any) ?_)|omega|((first|apply Ca|apply Cb)<;>intro hb)|refine Ai (by omega) ?_|(apply Ai<;>intro hb)|apply Fin.pure|simp only[aq])
      | true =>
       cases V4 with
       | false =>
        (repeat' first|simp only[au,ap,zF,am,r1,ge_iff_le,aQ,aV,ad,Bool.false_and,Bool.true_and,Bool.and_false,Bool.and_true,Bool.true_or,Bool.false_or,Bt,Bf,Bool.or_self,Bool.and_self,Lm,aj,ai,seval]|exact rfl|refine aa (v:=.any) ?_|((refine cX (xs:=?_) [b0+256] ?_ (fun _=>?_) (fun _=>?_) rfl ((fun _=>hc _)) ?_);rotate_left 1)|refine bj ?_|refine ee ?_|(refine aa (v:=.any) ?_)|omega|((first|apply Ca|apply Cb)<;>intro hb)|refine Ai (by omega) ?_|(apply Ai<;>intro hb)|apply Fin.pure|simp only[aq])
       | true =>
        (repeat' first|simp only[au,ap,zF,am,r1,q16,ge_iff_le,aQ,aV,ad,Bool.false_and,Bool.true_and,Bool.and_false,Bool.and_true,Bool.true_or,Bool.false_or,Bt,Bf,Bool.or_self,Bool.and_self,Lm,aj,ai,seval]|exact rfl|refine aa (v:=.any) ?_|(first|(refine ah ?_ (ho _) ?_)|(refine ac ?_ (fun _=>ho _) ?_))|((refine cX (xs:=?_) [b0+256] ?_ (fun _=>?_) (fun _=>?_) rfl ((fun _=>hc _)) ?_);rotate_left 1)|((refine cX (xs:=?_) [b0+544] ?_ (fun _=>?_) (fun _=>?_) rfl ((fun _=>ht _)) ?_);rotate_left 1)|refine bj ?_|refine ee ?_|(refine aa (v:=.any) ?_)|omega|((first|apply Ca|apply Cb)<;>intro hb)|refine Ai (by omega) ?_|(apply Ai<;>intro hb)|apply Fin.pure|simp only[aq])
def oQ (a:Ak):List UInt8×Int:=if uj a=true then (if ck (dM a) a.load≠0 then ([],ck (dM a) a.load) else eR (ef (dM a) a.load) []) else ([],8)
structure Ak.fit (a:Ak):Prop where
 s1:a.sid.length<=1000
 s2:a.dst.length<=1000
 s3:a.src.length<=1000
 s4:a.lang.length<=1000
 s5:a.key.length<=1000
 s6:a.fresh.length<=1000
 l1:a.load.length<=20
 l2:∀ v∈a.load,v.length<=40 /\ ∀ n∈v,n.okTo 20000/\n.i64/\n.attrs.length<=30
def Hw {a:Ak}(h:a.fit):∀ r∈qx a,r.1.length<=100/\r.2.1.length<=100/\r.2.2.length<=1000:=by
 intro r hr
 have d:=fun n=>Nat.le_trans (iM n) (show 16<=1000 by decide)
 have hv:(Bz a).length<=1000:=by
  unfold Bz
  have h1:=iM a.great
  have h2:=iM a.small
  split
  ·simp
  ·simp only[List.length_append,List.length_cons,List.length_nil];omega
 have hf:∀(b:Bool) (s:List UInt8),s.length<=1000->(sj b s).length<=1000:=fun b s hs=>by
  unfold sj
  split
  ·exact hs
  ·simp
 simp only[qx,Lk,Ln,or_false]at hr
 rcases hr with rfl|rfl|rfl|rfl|rfl|rfl|rfl|rfl|rfl|rfl|rfl|rfl|rfl|rfl
 all_goals refine⟨Nat.le_of_ble_eq_true rfl,Nat.le_of_ble_eq_true rfl,?_⟩
 all_goals first|exact d _|exact hv|exact h.s1|exact h.s2|exact h.s3|exact h.s4|exact h.s5|exact h.s6|exact hf _ _ (Nat.le_of_ble_eq_true rfl)
def pu {a:Ak}(h:a.fit):(dM a).okTo 20000:=by
 have hl:=qW a 14
 rw[BL]at hl
 refine⟨by omega,?_,?_,?_,fun x hx=>?_⟩
 ·show([104,116,116,112,58,47,47,106,97,98,98,101,114,46,111,114,103,47,112,114,111,116,111,99,111,108,47,104,116,116,112,98,105,110,100]:List UInt8).length<=20000
  decide
 ·show([98,111,100,121]:List UInt8).length<=20000
  decide
 ·show([]:List UInt8).length<=20000
  decide
 ·obtain⟨r,hr,hx⟩:=List.mem_flatMap.1 hx
  obtain⟨h1,h2,h3⟩:=Hw h r hr
  unfold lU at hx
  split at hx
  ·cases hx
  ·rw[List.mem_singleton]at hx
   subst hx
   exact⟨by simp only;omega,by simp only;omega,by simp only;omega⟩
def bX (a:Ak):(aQ a).all V.one=true:=rfl
def bW (a:Ak):(aQ a).length=16:=rfl
def vf {a:Ak}(h:a.fit):(ef (dM a) a.load).length<=900 /\ ∀ n∈ef (dM a) a.load,n.okTo 20000/\n.i64:=by
 unfold ef
 split
 ·have hl:=h.l1
  refine⟨?_,fun n hn=>?_⟩
  ·have hs:∀ l:List (List Nd),(∀ v∈l,v.length<=40)->l.flatten.length<=40*l.length:=by
    intro l
    induction l with
    | nil=>intro _;simp
    | cons v r ih =>
     intro hv
     have h1:=hv v (List.mem_cons_self ..)
     have h2:=ih (fun x hx=>hv x (List.mem_cons_of_mem _ hx))
     rw[List.flatten_cons,List.length_append,List.length_cons]
     omega
   have:=hs a.load (fun v hv=>(h.l2 v hv).1)
   rw[List.length_cons];omega
  ·rcases List.mem_cons.1 hn with rfl|hn
   ·exact⟨pu h,by simp only[Nd.i64,Nd.to];omega⟩
   ·obtain⟨v,hv,hnv⟩:=List.mem_flatten.1 hn
    exact⟨((h.l2 v hv).2 n hnv).1,((h.l2 v hv).2 n hnv).2.1⟩
 ·exact⟨by simp,fun n hn=>by cases hn⟩
def K5 (a:Ak)(h:a.ok)(hf:a.fit)(nm:Nat):Ev cx 6 nm [.agg (aQ a)] ao.nil (.tup [.str (oQ a).1,.int .i64 (oQ a).2]) []:=by
 have hm:=K4 a h
 have ha:=Fi a
 cases hmay:uj a with
 | false =>
  have hp:oQ a=([],8):=by unfold oQ;rw[hmay];rfl
  rw[hp]
  rw[hmay]at hm
  simp only
  refine iP rfl call6 func6 rfl mixed (by kernel_rfl) rfl ?_;intro b0 hb0
  (repeat' first|simp only[au,ap,results6,ntmps6,am,be,bX,bW,Bf,Lm,aj,ai,seval]|exact rfl|refine aa (v:=.any) ?_|(first|(refine ah ?_ (hm _) ?_)|(refine ac ?_ (fun _=>hm _) ?_))|refine bj ?_|refine ee ?_|((first|apply Ca|apply Cb)<;>intro hb)|refine Ai (by omega) ?_|(apply Ai<;>intro hb)|apply Fin.pure|simp only[aq])
 | true =>
  rw[hmay]at hm
  have hpe:oQ a=if ck (dM a) a.load≠0 then ([],ck (dM a) a.load) else eR (ef (dM a) a.load) []:=by unfold oQ;rw[if_pos hmay]
  rw[hpe]
  clear hpe
  have hlen:(zI a).flatten.length=56:=rfl
  have hpl:=Ec a
  have hrow:=MY a
  have hke:∀ k,(o9 a k).length<=k:=qW a
  have hz:o9 a 0=[]:=rfl
  have hnd:V.agg (aD (dM a)) = .agg [.int .u8 1,.str [104,116,116,112,58,47,47,106,97,98,98,101,114,46,111,114,103,47,112,114,111,116,111,99,111,108,47,104,116,116,112,98,105,110,100],.str [98,111,100,121],.sl false 3 ((o9 a 14).map bf),.str [],.int .i64 0]:=rfl
  have hput:=Hk (dM a) a.load (cW (pu hf) (by decide)) h.l1 (fun v hv=>⟨(h.l2 v hv).1,(h.l2 v hv).2⟩)
  rw[hnd]at hput
  have htr:=vf hf
  have hwr:=Ii (ef (dM a) a.load) [] (by have:=htr.1;unfold aT;omega) (fun n hn=>⟨cW (htr.2 n hn).1 (by decide),(htr.2 n hn).2⟩) (by simp)
  generalize ef (dM a) a.load=TR at hput hwr htr ⊢
  generalize ck (dM a) a.load=E at hput ⊢
  clear hnd
  refine iP rfl call6 func6 rfl mixed (by kernel_rfl) rfl ?_;intro b0 hb0
  refine wR (a5 results6 ntmps6 @be @bX @bW) trivial ?_
  refine bj ?_
  refine wR (a5 results6 ntmps6 @be @bX @bW) hm ?_
  (refine aY jI (b0+16) ([(1,.rp (aQ a))]) ([]) [] ?_ ?_ ?_;(focus (show b0<=_;omega));(focus (refine⟨?_,?_⟩<;>(try simp only[aE,cL,be,bX,bW,al,az,List.drop_zero,aj,ai,aq,seval])<;>(try omega))))
  refine wR (a5 results6 ntmps6 @be @bX @bW) trivial ?_
  refine bj ?_
  generalize (zI a).flatten=A at ha hlen hpl hrow
  refine wR (a5 results6 ntmps6 @be @bX @bW) ha ?_
  have hle:leL A A=True:=eq_true (leL_refl A)
  (refine ew (fun x:Nat=>14-x) (fun x=>x<=14) (b0+16) (fun x=>[(1,.rp (aQ a)),(4,.ptr b0 0 0),(14,.agg A),(15,.int .i64 x)]) (fun x=>[(b0,⟨6,[[.int .u8 1,.str [104,116,116,112,58,47,47,106,97,98,98,101,114,46,111,114,103,47,112,114,111,116,111,99,111,108,47,104,116,116,112,98,105,110,100],.str [98,111,100,121],.own (b0+1) 0 (o9 a x).length,.str [],.int .i64 0]]⟩),(b0+1,⟨3,(o9 a x).map bf⟩)]) (0) [some (b0+32),none] ?_ ?_ ?_;(focus (refine⟨?_,?_⟩<;>(try simp only[aE,hz,Lo,List.length_nil,be,bX,bW,ab,bd hpl,aU hpl,hle,al,az,Lm,aj,ai,aq,seval])<;>(try omega))))
  ·exact Nat.zero_le _
  ·intro k hk
   by_cases hlt:k<14
   ·obtain⟨r,g0,cg,f,caps,hr,hrw,hev⟩:=hrow k hlt
    have d1:decide ((k:Int)<14)=true:=dh
    have d2:decide (k<14)=true:=decide_eq_true hlt
    have hwk:=eD k
    have hx1:k*4+4<=A.length:=by omega
    have hsc:=xu hr
    have hkl:=hke k
    have f1:(o9 a k).length+1<=9223372036854775807:=by omega
    have f2:((o9 a k).length+1)*48<=140737488355328:=by omega
    have htk:((o9 a k).map bf).take (o9 a k).length=(o9 a k).map bf:=ba _ _
    by_cases hv:r.2.2=[]
    ·have q:(r.2.2==[])=true:=by rw[hv];rfl
     have hs2:o9 a (k+1)=o9 a k:=by rw[hsc,hv];simp[lU]
     repeat' first|simp only[au,ap,results6,ntmps6,am,hlt,d1,d2,hwk,hx1,hrw,q,be,bX,bW,ab,bd hpl,aU hpl,hle,al,az,Lm,Bt,aj,ai,seval]|exact rfl|refine aa (v:=.any) ?_|refine bw (g:=f) (caps:=caps) (by simp only[results6,ntmps6,am,hlt,d1,d2,hwk,hx1,hrw,q,be,bX,bW,ab,bd hpl,aU hpl,hle,al,az,Lm,Bt,aj,ai,seval]<;>exact rfl) (by simp only[results6,ntmps6,am,hlt,d1,d2,hwk,hx1,hrw,q,be,bX,bW,ab,bd hpl,aU hpl,hle,al,az,Lm,Bt,aj,ai,seval]<;>exact rfl) (hev _) ?_|((first|apply Ca|apply Cb)<;>intro hb)|refine Ai (by omega) ?_|(apply Ai<;>intro hb)
     all_goals ((refine de (k+1) [some b0,some (b0+1)] ?_ ?_ ?_;(focus (refine⟨?_,?_⟩<;>(try simp only[aE,hwk,hs2,be,bX,bW,ab,bd hpl,aU hpl,hle,al,az,Lm,aj,ai,aq,seval])<;>(try omega)))))
     all_goals (first|(show 14-(k+1)<14-k;omega)|exact hlt|skip)
    ·have q:(r.2.2==[])=false:=by
      cases h2:r.2.2 with
      | nil=>exact absurd h2 hv
      | cons c t=>rfl
     have hs2:(o9 a (k+1)).length=(o9 a k).length+1:=by rw[hsc];simp[lU,hv]
     have hs3:(o9 a k).map bf++[[.str r.1,.str r.2.1,.str r.2.2]]=(o9 a (k+1)).map bf:=by rw[hsc];simp[lU,hv,bf]
     clear hsc
     repeat' first|simp only[au,ap,results6,ntmps6,am,hlt,d1,d2,hwk,hx1,hrw,q,f1,f2,htk,hs3,be,bX,bW,ab,bd hpl,aU hpl,hle,al,az,Lm,Bf,aj,ai,seval]|exact rfl|refine aa (v:=.any) ?_|refine bw (g:=f) (caps:=caps) (by simp only[results6,ntmps6,am,hlt,d1,d2,hwk,hx1,hrw,q,f1,f2,htk,hs3,be,bX,bW,ab,bd hpl,aU hpl,hle,al,az,Lm,Bf,aj,ai,seval]<;>exact rfl) (by simp only[results6,ntmps6,am,hlt,d1,d2,hwk,hx1,hrw,q,f1,f2,htk,hs3,be,bX,bW,ab,bd hpl,aU hpl,hle,al,az,Lm,Bf,aj,ai,seval]<;>exact rfl) (hev _) ?_|((first|apply Ca|apply Cb)<;>intro hb)|refine Ai (by omega) ?_|(apply Ai<;>intro hb)
     all_goals ((refine de (k+1) [some b0,some (b0+320)] ?_ ?_ ?_;(focus (refine⟨?_,?_⟩<;>(try simp only[aE,hwk,hs2,hs3,be,bX,bW,ab,bd hpl,aU hpl,hle,al,az,Lm,aj,ai,aq,seval])<;>(try omega)))))
     all_goals (first|(show 14-(k+1)<14-k;omega)|exact hlt|skip)
   ·have hke14:k=14:=by omega
    subst hke14
    have htk:((o9 a 14).map bf).take (o9 a 14).length=(o9 a 14).map bf:=ba _ _
    refine wR (a4 results6 ntmps6 htk (a9 @be @bX @bW @ab (bd hpl) (aU hpl) hle @al @az)) trivial ?_
    refine bj ?_
    have hd15:(aQ a).drop 15=[.sl false 1 (a.load.map aR)]:=rfl
    have htk2:(TR.map aD).take TR.length=TR.map aD:=ba _ _
    by_cases hE:E=0
    ·subst hE
     have hp:=fun nm=>hput _ _ nm (.inr ⟨rfl,rfl,rfl⟩)
     rw[if_neg (by simp)]
     (repeat' first|simp only[au,ap,results6,ntmps6,am,hd15,cA,bO,List.cons_append,List.nil_append,htk,htk2,ae,ad,be,bX,bW,ab,Lm,aj,ai,seval]|exact rfl|refine aa (v:=.any) ?_|((refine dA (xs:=?_) [b0+1] ?_ ?_ ?_ ?_ (hp _) ?_ ?_);rotate_left 1)|((refine bg (xs:=?_) [b0+80] ?_ ?_ ?_ rfl (hwr _) ?_);rotate_left 1)|refine bj ?_|refine ee ?_|omega|((first|apply Ca|apply Cb)<;>intro hb)|refine Ai (by omega) ?_|(apply Ai<;>intro hb)|apply Fin.pure|simp only[aq])
    ·have hp:=fun nm=>hput _ _ nm (.inl ⟨hE,rfl,rfl⟩)
     have q:(E != 0)=true:=by simpa using hE
     rw[if_pos hE]
     (repeat' first|simp only[au,ap,results6,ntmps6,am,q,hd15,cA,bO,List.cons_append,List.nil_append,htk,ae,ad,be,bX,bW,ab,Lm,aj,ai,seval]|exact rfl|refine aa (v:=.any) ?_|((refine dA (xs:=?_) [b0+1] ?_ ?_ ?_ ?_ (hp _) ?_ ?_);rotate_left 1)|refine bj ?_|refine ee ?_|omega|((first|apply Ca|apply Cb)<;>intro hb)|refine Ai (by omega) ?_|(apply Ai<;>intro hb)|apply Fin.pure|simp only[aq])
end Go.Proofs.YtjonibipieofcaaGreatDoor
