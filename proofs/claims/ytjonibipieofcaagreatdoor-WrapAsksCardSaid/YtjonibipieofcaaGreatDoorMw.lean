/-
 Texts joined: XAg,XAj,XAk,XAm,XAn.
-/
import Derived.Test.YtjonibipieofcaaGreatDoorMu
import Derived.Test.YtjonibipieofcaaGreatDoorQz
import Derived.Test.YtjonibipieofcaaGreatDoorMr
import Derived.Test.YtjonibipieofcaaGreatDoorMv
set_option maxHeartbeats 16000000
set_option maxRecDepth 100000
set_option linter.all false
namespace Go.Proofs.YtjonibipieofcaaGreatDoor
open Go Go.RowKit Vm Go.Lib Tryz
open Vm renaming aI->Ca,aP->Cb
open And renaming intro->Ai
open List renaming length_map->Lm,not_mem_nil->Ln,map_nil->Lo,map_cons->Lc,mem_cons->Lk
open Bool renaming not_false->Bf,not_true->Bt
def wL (l:List At)(s n v:List UInt8):List At:=l++lU s n v
def eZ {l:List At}{k:Nat}{s n v:List UInt8}(h:l.length<=k):(wL l s n v).length<=k+1:=by
 unfold wL lU
 rw[List.length_append]
 split<;>simp<;>omega
def dZ (n:Int)(h:n<=9007199254740991)(nm:Nat):Ev cx 50 nm [.int .i64 n] ao.nil (.str (ep n)) []:=by
 unfold ep
 by_cases h0:n<0
 ·have d:=decide_eq_true h0
  rw[if_neg (by omega)]
  refine aX call50 func50 ?_;intro b0 hb0
  exact wP (a3 results50 ntmps50 d) trivial
 ·have d:=decide_eq_false h0
  obtain⟨k,rfl⟩:=Int.eq_ofNat_of_zero_le (show 0<=n by omega)
  have hr:=iZ k (Nat.lt_of_le_of_lt (by omega:k<=9007199254740991) (by decide))
  rw[if_pos (by omega),Int.toNat_natCast]
  refine aX call50 func50 ?_;intro b0 hb0
  exact wP (a3 results50 ntmps50 d) hr
def Ic (s n v:List UInt8)(hv:v≠[])(nm:Nat):Ev cx 49 nm [.nils,.str s,.str n,.str v] ao.nil (.own nm 0 1) [(nm,some ⟨3,[bf ⟨s,n,v⟩]⟩)]:=by
 have q:(v==[])=false:=by cases v with|nil=>exact absurd rfl hv|cons c r=>rfl
 refine aX call49 func49 ?_;intro b0 hb0
 exact wO (a4 results49 ntmps49 q @bf.eq_1) trivial
def eY (l:List At)(s n v:List UInt8)(x:Nat)(M:ao)(nm:Nat)(hM:M x=some ⟨3,l.map bf⟩)(ho:∀ z,(M z).isSome=true->z∈[x])(hx:x<nm)(hl:l.length<=100) :
  Ev cx 49 nm [.own x 0 l.length,.str s,.str n,.str v] M (.own nm 0 (wL l s n v).length) [(x,none),(nm,some ⟨3,(wL l s n v).map bf⟩)]:=by
 have htk:(l.map bf).take l.length=l.map bf:=ba _ _
 by_cases hv:v=[]
 ·subst hv
  have e:wL l s n []=l:=by simp[wL,lU]
  rw[e]
  refine aX call49 func49 ?_;intro b0 hb0
  have lx:=bp hb0 hM
  have y0:=qt lx;have y1:=fM lx;have y2:=lR lx;have y3:=eK lx
  refine wR (a8 results49 ntmps49 hM htk y0 y1 y2 y3) trivial ?_
  all_goals ((refine Fin.give [(x,some 0)] [x] ?_ ?_ ?_ ?_ ?_ (bA ho (by simp[bt,tgt]))<;>(try simp only[results49,ntmps49,am,ab,hM,htk,y0,y1,y2,y3,aA,jK,aj,ai,seval])<;>(try simp only[aq])<;>(try omega)))
 ·have q:(v==[])=false:=by cases v with|nil=>exact absurd rfl hv|cons c r=>rfl
  have e:(wL l s n v).map bf=l.map bf++[bf ⟨s,n,v⟩]:=by simp[wL,lU,hv]
  have e2:(wL l s n v).length=l.length+1:=by simp[wL,lU,hv]
  have f1:l.length+1<=9223372036854775807:=by omega
  have f2:(l.length+1)*48<=140737488355328:=by omega
  have hpl:=ab (wL l s n v)
  rw[e]at hpl
  rw[e,e2]
  unfold bf at hM htk hpl ⊢
  refine aX call49 func49 ?_;intro b0 hb0
  have lx:=bp hb0 hM
  have y0:=qt lx;have y1:=fM lx;have y2:=lR lx;have y3:=eK lx
  refine wR (a3 results49 ntmps49 (a9 q hM htk f1 f2 y0 y1 y2 y3)) trivial ?_
  all_goals ((refine Fin.give [(b0+144,some 0)] [x] ?_ ?_ ?_ ?_ ?_ (bA ho (by simp[bt,tgt]))<;>(try simp only[results49,ntmps49,am,hpl,Bool.true_or,if_true,hM,htk,y0,y1,y2,y3,aA,List.length_append,List.length_cons,List.length_nil,jK,aj,ai,seval])<;>(try simp only[aq])<;>(try omega)))
def gA (a:Ak):Bool:=fy a.rid||decide (a.rid<0)||fy a.wait||fy a.hold||fy a.ack||fy a.pause || !gj a||decide (16<a.load.length)
def DQ (a:Ak):uj a=(!gA a&&(!(a.load.any qP)&&(dF a&&E1 a))):=by
 have e1:decide (0<=a.rid) = !decide (a.rid<0):=by rw[Bool.eq_iff_iff];simp
 have e2:decide (a.load.length<=16) = !decide (16<a.load.length):=by rw[Bool.eq_iff_iff];simp
 unfold uj gA FC
 rw[e1,e2]
 simp only[List.any_cons,List.any_nil,Bool.or_false,Bool.not_or,Bool.not_not]
 ac_rfl
def Cf (v:List Nd):qP v = !decide (cn v=0):=by
 unfold qP
 by_cases h:cn v=0<;>simp[h]
def Cv (a:Ak):gj a=((a.great == -1&&a.small == -1)||(decide (0<=a.great)&&decide (a.great<=99)&&decide (0<=a.small)&&decide (a.small<=99))):=by
 unfold gj
 congr 1
 rw[Bool.eq_iff_iff]
 simp only[Bool.and_eq_true,decide_eq_true_eq]
 omega
def Eo (a:Ak)(h:a.ok)(hn:∀ v∈a.load,v.length<=1000)(nm:Nat):Ev cx 15 nm [.agg (aQ a)] ao.nil (.bool (uj a)) []:=by
  have c1:=jY a.rid
  have c2:=jY a.wait
  have c3:=jY a.hold
  have c4:=jY a.ack
  have c5:=jY a.pause
  have t1:=oW a.sid h.s1
  have t2:=oW a.dst h.s2
  have t3:=oW a.src h.s3
  have t4:=oW a.lang h.s4
  have k1:=yU a.key 40 h.s5
  have k2:=yU a.fresh 40 h.s6
  have hl:=h.l1
  unfold aT at hl
  have q16:decide ((16:Int)<(a.load.length:Int))=decide (16<a.load.length):=by rw[Bool.eq_iff_iff];simp;omega
  have hv:=Cv a
  rw[DQ]
  have hg:gA a=gA a:=rfl
  unfold gA at hg
  have htx:E1 a=(!fc a.sid&&(!fc a.dst&&(!fc a.src && !fc a.lang))):=by
    unfold E1
    simp only[List.any_cons,List.any_nil,Bool.or_false,Bool.not_or]
  rw[htx]
  clear htx
  refine iP rfl call15 func15 rfl mixed (by kernel_rfl) rfl ?_;intro b0 hb0
  refine wR (a6 results15 ntmps15 @aQ.eq_1 @aV.eq_1 @ad @Bool.not_not) trivial ?_
  refine bj ?_
  refine(fun tail:True -> ?T=>?main) ?rest
  case main =>
    cases e1:(a.great == -1&&a.small == -1) with
    | false =>
      cases v1:decide (0<=a.great) with
      | false =>
        have hw:gj a=false:=by rw[hv,e1,v1];rfl
        refine wR (a8 results15 ntmps15 e1 v1 @aQ.eq_1 @aV.eq_1 @ad @Bool.not_not) trivial ?_
        (refine aY jI (b0+16) ([(1,.ptr b0 0 0),(3,.bool (gj a))]) ([(b0,⟨16,[aV a (.sl false 1 (a.load.map aR))]⟩)]) [some b0] ?_ ?_ ?_;(focus (show b0<=_;omega));(focus (refine⟨?_,?_⟩<;>(try simp only[aE,cL,e1,v1,hw,Bool.false_and,Bool.true_and,Bool.and_false,Bool.and_true,Bool.true_or,Bool.false_or,aV,aQ,ad,al,az,Nat.le_refl,or_true,Lm,aj,ai,aq,seval])<;>(try omega))))
        all_goals (first|exact Nat.le_add_right _ _|exact tail trivial)
      | true =>
        cases v2:decide (a.great<=99) with
        | false =>
          have hw:gj a=false:=by rw[hv,e1,v1,v2];rfl
          refine wR (a9 results15 ntmps15 e1 v1 v2 @aQ.eq_1 @aV.eq_1 @ad @Bool.not_not) trivial ?_
          (refine aY jI (b0+16) ([(1,.ptr b0 0 0),(3,.bool (gj a))]) ([(b0,⟨16,[aV a (.sl false 1 (a.load.map aR))]⟩)]) [some b0] ?_ ?_ ?_;(focus (show b0<=_;omega));(focus (refine⟨?_,?_⟩<;>(try simp only[aE,cL,e1,v1,v2,hw,Bool.false_and,Bool.true_and,Bool.and_false,Bool.and_true,Bool.true_or,Bool.false_or,aV,aQ,ad,al,az,Nat.le_refl,or_true,Lm,aj,ai,aq,seval])<;>(try omega))))
          all_goals (first|exact Nat.le_add_right _ _|exact tail trivial)
        | true =>
          cases v3:decide (0<=a.small) with
          | false =>
            have hw:gj a=false:=by rw[hv,e1,v1,v2,v3];rfl
            refine wR (a2 results15 (a9 ntmps15 e1 v1 v2 v3 @aQ.eq_1 @aV.eq_1 @ad @Bool.not_not)) trivial ?_
            (refine aY jI (b0+16) ([(1,.ptr b0 0 0),(3,.bool (gj a))]) ([(b0,⟨16,[aV a (.sl false 1 (a.load.map aR))]⟩)]) [some b0] ?_ ?_ ?_;(focus (show b0<=_;omega));(focus (refine⟨?_,?_⟩<;>(try simp only[aE,cL,e1,v1,v2,v3,hw,Bool.false_and,Bool.true_and,Bool.and_false,Bool.and_true,Bool.true_or,Bool.false_or,aV,aQ,ad,al,az,Nat.le_refl,or_true,Lm,aj,ai,aq,seval])<;>(try omega))))
            all_goals (first|exact Nat.le_add_right _ _|exact tail trivial)
          | true =>
            cases v4:decide (a.small<=99) with
            | false =>
              have hw:gj a=false:=by rw[hv,e1,v1,v2,v3,v4];rfl
              refine wR (a3 results15 ntmps15 (a9 e1 v1 v2 v3 v4 @aQ.eq_1 @aV.eq_1 @ad @Bool.not_not)) trivial ?_
              (refine aY jI (b0+16) ([(1,.ptr b0 0 0),(3,.bool (gj a))]) ([(b0,⟨16,[aV a (.sl false 1 (a.load.map aR))]⟩)]) [some b0] ?_ ?_ ?_;(focus (show b0<=_;omega));(focus (refine⟨?_,?_⟩<;>(try simp only[aE,cL,e1,v1,v2,v3,v4,hw,Bool.false_and,Bool.true_and,Bool.and_false,Bool.and_true,Bool.true_or,Bool.false_or,aV,aQ,ad,al,az,Nat.le_refl,or_true,Lm,aj,ai,aq,seval])<;>(try omega))))
              all_goals (first|exact Nat.le_add_right _ _|exact tail trivial)
            | true =>
              have hw:gj a=true:=by rw[hv,e1,v1,v2,v3,v4];rfl
              refine wR (a3 results15 ntmps15 (a9 e1 v1 v2 v3 v4 @aQ.eq_1 @aV.eq_1 @ad @Bool.not_not)) trivial ?_
              (refine aY jI (b0+16) ([(1,.ptr b0 0 0),(3,.bool (gj a))]) ([(b0,⟨16,[aV a (.sl false 1 (a.load.map aR))]⟩)]) [some b0] ?_ ?_ ?_;(focus (show b0<=_;omega));(focus (refine⟨?_,?_⟩<;>(try simp only[aE,cL,e1,v1,v2,v3,v4,hw,Bool.false_and,Bool.true_and,Bool.and_false,Bool.and_true,Bool.true_or,Bool.false_or,aV,aQ,ad,al,az,Nat.le_refl,or_true,Lm,aj,ai,aq,seval])<;>(try omega))))
              all_goals (first|exact Nat.le_add_right _ _|exact tail trivial)
    | true =>
      have hw:gj a=true:=by rw[hv,e1];rfl
      refine wR (a7 results15 ntmps15 e1 @aQ.eq_1 @aV.eq_1 @ad @Bool.not_not) trivial ?_
      (refine aY jI (b0+16) ([(1,.ptr b0 0 0),(3,.bool (gj a))]) ([(b0,⟨16,[aV a (.sl false 1 (a.load.map aR))]⟩)]) [some b0] ?_ ?_ ?_;(focus (show b0<=_;omega));(focus (refine⟨?_,?_⟩<;>(try simp only[aE,cL,e1,hw,Bool.false_and,Bool.true_and,Bool.and_false,Bool.and_true,Bool.true_or,Bool.false_or,aV,aQ,ad,al,az,Nat.le_refl,or_true,Lm,aj,ai,aq,seval])<;>(try omega))))
      all_goals (first|exact Nat.le_add_right _ _|exact tail trivial)
  case rest =>
    intro _
    cases hb:gA a with
    | true =>
      unfold gA at hb
      (repeat' first|simp only[results15,ntmps15,am,q16,hb,aQ,aV,ad,Bool.false_and,Bool.true_and,Bool.and_false,Bool.and_true,Bool.true_or,Bool.false_or,Bt,Bf,Bool.not_not,Lm,aj,ai,seval]|exact rfl|((first|(refine ah ?_ (c1 _) ?_)|(refine ac ?_ (fun _=>c1 _) ?_));(focus (simp only[results15,ntmps15,am,q16,hb,aQ,aV,ad,Bool.false_and,Bool.true_and,Bool.and_false,Bool.and_true,Bool.true_or,Bool.false_or,Bt,Bf,Bool.not_not,Lm,aj,ai,seval]<;>exact rfl)))|((first|(refine ah ?_ (c2 _) ?_)|(refine ac ?_ (fun _=>c2 _) ?_));(focus (simp only[results15,ntmps15,am,q16,hb,aQ,aV,ad,Bool.false_and,Bool.true_and,Bool.and_false,Bool.and_true,Bool.true_or,Bool.false_or,Bt,Bf,Bool.not_not,Lm,aj,ai,seval]<;>exact rfl)))|((first|(refine ah ?_ (c3 _) ?_)|(refine ac ?_ (fun _=>c3 _) ?_));(focus (simp only[results15,ntmps15,am,q16,hb,aQ,aV,ad,Bool.false_and,Bool.true_and,Bool.and_false,Bool.and_true,Bool.true_or,Bool.false_or,Bt,Bf,Bool.not_not,Lm,aj,ai,seval]<;>exact rfl)))|((first|(refine ah ?_ (c4 _) ?_)|(refine ac ?_ (fun _=>c4 _) ?_));(focus (simp only[results15,ntmps15,am,q16,hb,aQ,aV,ad,Bool.false_and,Bool.true_and,Bool.and_false,Bool.and_true,Bool.true_or,Bool.false_or,Bt,Bf,Bool.not_not,Lm,aj,ai,seval]<;>exact rfl)))|((first|(refine ah ?_ (c5 _) ?_)|(refine ac ?_ (fun _=>c5 _) ?_));(focus (simp only[results15,ntmps15,am,q16,hb,aQ,aV,ad,Bool.false_and,Bool.true_and,Bool.and_false,Bool.and_true,Bool.true_or,Bool.false_or,Bt,Bf,Bool.not_not,Lm,aj,ai,seval]<;>exact rfl)))|refine bj ?_|refine ee ?_|((first|apply Ca|apply Cb)<;>intro hb)|refine Ai (by omega) ?_|(apply Ai<;>intro hb)|apply Fin.pure|simp only[aq])
    | false =>
      have hl16:a.load.length<=16:=by
        unfold gA at hb
        simp only[Bool.or_eq_false_iff,decide_eq_false_iff_not]at hb;omega
      unfold gA at hb
      refine wR (a8 results15 ntmps15 q16 hb @aQ.eq_1 @aV.eq_1 @ad @Bool.not_not) (a5 c1 c2 c3 c4 c5) ?_
      refine bj ?_
      refine wR (a6 results15 ntmps15 @aQ.eq_1 @aV.eq_1 @ad @Bool.not_not) trivial ?_
      (refine ew (fun x:Nat=>a.load.length-x) (fun x=>x<=a.load.length/\(a.load.take x).any qP=false) (b0+16) (fun x=>[(1,.ptr b0 0 0),(4,.int .i64 x)]) (fun x=>[(b0,⟨16,[aV a (.sl false 1 (a.load.map aR))]⟩)]) (0) [some b0] ?_ ?_ ?_;(focus (refine⟨?_,?_⟩<;>(try simp only[aE,aV,aQ,ad,al,Lm,aj,ai,aq,seval])<;>(try omega))))
      · exact⟨Nat.zero_le _,rfl⟩
      · rintro k ⟨hk,hno⟩
        by_cases hlt:k<a.load.length
        · obtain⟨v,hvv⟩:=ic hlt
          have hvm:=List.mem_of_getElem? hvv
          have hat:=lW hvv
          have d1:=sC k a.load.length
          have d2:=decide_eq_true hlt
          have hki:=jB k a.load.length
          have hwk:=eD k
          have hmu:=yW v (hn v hvm) (fun x hx=>((h.l2 v hvm).2 x hx).1)
          cases ho:qP v with
          | true =>
            have hm:decide (cn v=0)=false:=by rw[Cf]at ho;simpa using ho
            have hA:a.load.any qP=true:=List.any_eq_true.2 ⟨v,hvm,ho⟩
            rw[hm]at hmu
            rw[hA]
            (repeat' first|simp only[au,ap,results15,ntmps15,am,hat,aR,ae,hlt,hki,d1,d2,hwk,aQ,aV,ad,Bool.false_and,Bool.true_and,Bool.and_false,Bool.and_true,Bool.true_or,Bool.false_or,Bt,Bf,Bool.not_not,Lm,aj,ai,seval]|exact rfl|refine aa (v:=.any) ?_|(first|(refine ah ?_ (hmu _) ?_)|(refine ac ?_ (fun _=>hmu _) ?_))|refine bj ?_|refine ee ?_|((first|apply Ca|apply Cb)<;>intro hb)|refine Ai (by omega) ?_|(apply Ai<;>intro hb)|apply Fin.pure|simp only[aq])
          | false =>
            have hm:decide (cn v=0)=true:=by rw[Cf]at ho;simpa using ho
            have hn':=cB (p:=qP) hno hvv ho
            rw[hm]at hmu
            refine wR (a6 results15 ntmps15 hat @aR.eq_1 @ae (a9 hlt hki d1 d2 hwk @aQ.eq_1 @aV.eq_1 @ad @Bool.not_not)) hmu ?_
            all_goals ((refine de (k+1) [some b0] ?_ ?_ ?_;(focus (refine⟨?_,?_⟩<;>(try simp only[aE,aV,hwk,ad,al,Lm,aj,ai,aq,seval])<;>(try omega)))))
            all_goals (first|(show a.load.length-(k+1)<a.load.length-k;omega)|exact⟨hlt,hn'⟩|skip)
        · have hke:k=a.load.length:=by omega
          subst hke
          rw[List.take_length]at hno
          have d1:=nu a.load.length a.load.length
          have d2:decide (a.load.length<a.load.length)=false:=bi
          rw[hno]
          refine wR (a8 results15 ntmps15 d1 d2 @aQ.eq_1 @aV.eq_1 @ad @Bool.not_not) trivial ?_
          refine bj ?_
          refine(fun tail2:True -> ?T2=>?main2) ?rest2
          case main2 =>
            cases x1:(a.key==[]||jl a.key 40) with
            | false =>
              have hw:dF a=false:=by unfold dF;simp only[x1,Bool.false_and,Bool.true_and,Bool.and_false,Bool.and_true,Bool.true_or,Bool.false_or,Bt,Bf,Bool.or_self,Bool.and_self]
              refine wR (a7 results15 ntmps15 x1 @aQ.eq_1 @aV.eq_1 @ad @Bool.not_not) (a2 k1 k2) ?_
              (refine aY jI (b0+16) ([(1,.ptr b0 0 0),(5,.bool (dF a))]) ([(b0,⟨16,[aV a (.sl false 1 (a.load.map aR))]⟩)]) [some b0] ?_ ?_ ?_;(focus (show b0<=_;omega));(focus (refine⟨?_,?_⟩<;>(try simp only[aE,cL,x1,hw,Bool.false_and,Bool.true_and,Bool.and_false,Bool.and_true,Bool.true_or,Bool.false_or,Bt,Bf,Bool.or_self,Bool.and_self,aV,aQ,ad,al,az,Nat.le_refl,or_true,Lm,aj,ai,aq,seval])<;>(try omega))))
              all_goals (first|exact Nat.le_add_right _ _|exact tail2 trivial)
            | true =>
              cases x2:(a.fresh==[]) with
              | false =>
                cases x3:jl a.fresh 40 with
                | false =>
                  rw[x3]at k2
                  have hw:dF a=false:=by unfold dF;simp only[x1,x2,x3,Bool.false_and,Bool.true_and,Bool.and_false,Bool.and_true,Bool.true_or,Bool.false_or,Bt,Bf,Bool.or_self,Bool.and_self]
                  refine wR (a9 results15 ntmps15 x1 x2 x3 @aQ.eq_1 @aV.eq_1 @ad @Bool.not_not) (a2 k1 k2) ?_
                  (refine aY jI (b0+16) ([(1,.ptr b0 0 0),(5,.bool (dF a))]) ([(b0,⟨16,[aV a (.sl false 1 (a.load.map aR))]⟩)]) [some b0] ?_ ?_ ?_;(focus (show b0<=_;omega));(focus (refine⟨?_,?_⟩<;>(try simp only[aE,cL,x1,x2,x3,hw,Bool.false_and,Bool.true_and,Bool.and_false,Bool.and_true,Bool.true_or,Bool.false_or,Bt,Bf,Bool.or_self,Bool.and_self,aV,aQ,ad,al,az,Nat.le_refl,or_true,Lm,aj,ai,aq,seval])<;>(try omega))))
                  all_goals (first|exact Nat.le_add_right _ _|exact tail2 trivial)
                | true =>
                  rw[x3]at k2
                  have hw:dF a=true:=by unfold dF;simp only[x1,x2,x3,Bool.false_and,Bool.true_and,Bool.and_false,Bool.and_true,Bool.true_or,Bool.false_or,Bt,Bf,Bool.or_self,Bool.and_self]
                  refine wR (a9 results15 ntmps15 x1 x2 x3 @aQ.eq_1 @aV.eq_1 @ad @Bool.not_not) (a2 k1 k2) ?_
                  (refine aY jI (b0+16) ([(1,.ptr b0 0 0),(5,.bool (dF a))]) ([(b0,⟨16,[aV a (.sl false 1 (a.load.map aR))]⟩)]) [some b0] ?_ ?_ ?_;(focus (show b0<=_;omega));(focus (refine⟨?_,?_⟩<;>(try simp only[aE,cL,x1,x2,x3,hw,Bool.false_and,Bool.true_and,Bool.and_false,Bool.and_true,Bool.true_or,Bool.false_or,Bt,Bf,Bool.or_self,Bool.and_self,aV,aQ,ad,al,az,Nat.le_refl,or_true,Lm,aj,ai,aq,seval])<;>(try omega))))
                  all_goals (first|exact Nat.le_add_right _ _|exact tail2 trivial)
              | true =>
                have hw:dF a=true:=by unfold dF;simp only[x1,x2,Bool.false_and,Bool.true_and,Bool.and_false,Bool.and_true,Bool.true_or,Bool.false_or,Bt,Bf,Bool.or_self,Bool.and_self]
                refine wR (a8 results15 ntmps15 x1 x2 @aQ.eq_1 @aV.eq_1 @ad @Bool.not_not) (a2 k1 k2) ?_
                (refine aY jI (b0+16) ([(1,.ptr b0 0 0),(5,.bool (dF a))]) ([(b0,⟨16,[aV a (.sl false 1 (a.load.map aR))]⟩)]) [some b0] ?_ ?_ ?_;(focus (show b0<=_;omega));(focus (refine⟨?_,?_⟩<;>(try simp only[aE,cL,x1,x2,hw,Bool.false_and,Bool.true_and,Bool.and_false,Bool.and_true,Bool.true_or,Bool.false_or,Bt,Bf,Bool.or_self,Bool.and_self,aV,aQ,ad,al,az,Nat.le_refl,or_true,Lm,aj,ai,aq,seval])<;>(try omega))))
                all_goals (first|exact Nat.le_add_right _ _|exact tail2 trivial)
          case rest2 =>
            intro _
            generalize dF a=V5
            generalize fc a.sid=b1 at t1 ⊢
            generalize fc a.dst=b2 at t2 ⊢
            generalize fc a.src=b3 at t3 ⊢
            generalize fc a.lang=b4 at t4 ⊢
            (repeat' first|simp only[results15,ntmps15,am,Bool.and_assoc,aQ,aV,ad,Bool.false_and,Bool.true_and,Bool.and_false,Bool.and_true,Bool.true_or,Bool.false_or,Bt,Bf,Bool.not_not,Lm,aj,ai,seval]|exact rfl|((first|(refine ah ?_ (t1 _) ?_)|(refine ac ?_ (fun _=>t1 _) ?_));(focus (simp only[results15,ntmps15,am,Bool.and_assoc,aQ,aV,ad,Bool.false_and,Bool.true_and,Bool.and_false,Bool.and_true,Bool.true_or,Bool.false_or,Bt,Bf,Bool.not_not,Lm,aj,ai,seval]<;>exact rfl)))|((first|(refine ah ?_ (t2 _) ?_)|(refine ac ?_ (fun _=>t2 _) ?_));(focus (simp only[results15,ntmps15,am,Bool.and_assoc,aQ,aV,ad,Bool.false_and,Bool.true_and,Bool.and_false,Bool.and_true,Bool.true_or,Bool.false_or,Bt,Bf,Bool.not_not,Lm,aj,ai,seval]<;>exact rfl)))|((first|(refine ah ?_ (t3 _) ?_)|(refine ac ?_ (fun _=>t3 _) ?_));(focus (simp only[results15,ntmps15,am,Bool.and_assoc,aQ,aV,ad,Bool.false_and,Bool.true_and,Bool.and_false,Bool.and_true,Bool.true_or,Bool.false_or,Bt,Bf,Bool.not_not,Lm,aj,ai,seval]<;>exact rfl)))|((first|(refine ah ?_ (t4 _) ?_)|(refine ac ?_ (fun _=>t4 _) ?_));(focus (simp only[results15,ntmps15,am,Bool.and_assoc,aQ,aV,ad,Bool.false_and,Bool.true_and,Bool.and_false,Bool.and_true,Bool.true_or,Bool.false_or,Bt,Bf,Bool.not_not,Lm,aj,ai,seval]<;>exact rfl)))|refine bj ?_|refine ee ?_|((first|apply Ca|apply Cb)<;>intro hb)|refine Ai (by omega) ?_|(apply Ai<;>intro hb)|apply Fin.pure|simp only[aq])
structure Ak.low (a:Ak):Prop where
 r0:0<=a.rid
 r:a.rid<=9007199254740991
 w:a.wait<=9007199254740991
 h:a.hold<=9007199254740991
 k:a.ack<=9007199254740991
 p:a.pause<=9007199254740991
 g:a.great<=9007199254740991
 s:a.small<=9007199254740991
def CZ (a:Ak)(hm:a.low)(nm:Nat):Ev cx 17 nm [.agg (aQ a)] ao.nil (.agg (aD (dM a))) []:=by
 have d1:=dZ a.rid hm.r
 have d2:=dZ a.wait hm.w
 have d3:=dZ a.hold hm.h
 have d4:=dZ a.ack hm.k
 have d5:=dZ a.pause hm.p
 have d6:=dZ a.great hm.g
 have d7:=dZ a.small hm.s
 have e1:ep a.rid≠[]:=by unfold ep;rw[if_pos ⟨hm.r0,hm.r⟩];exact CW _
 have f6:=iM a.great
 have f7:=iM a.small
 have w0:=Ic [] [114,105,100] (ep a.rid) e1
 obtain⟨L1,h1⟩:∃ l:List At,l=[⟨[],[114,105,100],ep a.rid⟩]:=⟨_,rfl⟩
 obtain⟨L2,h2⟩:∃ l:List At,l=(wL L1 [] [115,105,100] a.sid):=⟨_,rfl⟩
 obtain⟨L3,h3⟩:∃ l:List At,l=(wL L2 [] [116,111] a.dst):=⟨_,rfl⟩
 obtain⟨L4,h4⟩:∃ l:List At,l=(wL L3 [] [102,114,111,109] a.src):=⟨_,rfl⟩
 obtain⟨L5,h5⟩:∃ l:List At,l=(wL L4 [104,116,116,112,58,47,47,119,119,119,46,119,51,46,111,114,103,47,88,77,76,47,49,57,57,56,47,110,97,109,101,115,112,97,99,101] [108,97,110,103] a.lang):=⟨_,rfl⟩
 obtain⟨L6,h6⟩:∃ l:List At,l=(wL L5 [] [119,97,105,116] (ep a.wait)):=⟨_,rfl⟩
 obtain⟨L7,h7⟩:∃ l:List At,l=(wL L6 [] [104,111,108,100] (ep a.hold)):=⟨_,rfl⟩
 obtain⟨L8,h8⟩:∃ l:List At,l=(wL L7 [] [97,99,107] (ep a.ack)):=⟨_,rfl⟩
 obtain⟨L9,h9⟩:∃ l:List At,l=(wL L8 [] [112,97,117,115,101] (ep a.pause)):=⟨_,rfl⟩
 obtain⟨L10,h10⟩:∃ l:List At,l=(bif decide (0<=a.great) then wL L9 [] [118,101,114] (ep a.great++[46]++ep a.small) else L9):=⟨_,rfl⟩
 obtain⟨L11,h11⟩:∃ l:List At,l=(wL L10 [] [107,101,121] a.key):=⟨_,rfl⟩
 obtain⟨L12,h12⟩:∃ l:List At,l=(wL L11 [] [110,101,119,107,101,121] a.fresh):=⟨_,rfl⟩
 obtain⟨L13,h13⟩:∃ l:List At,l=(bif a.fin then wL L12 [] [116,121,112,101] [116,101,114,109,105,110,97,116,101] else L12):=⟨_,rfl⟩
 obtain⟨L14,h14⟩:∃ l:List At,l=(bif a.rst then wL L13 [117,114,110,58,120,109,112,112,58,120,98,111,115,104] [114,101,115,116,97,114,116] [116,114,117,101] else L13):=⟨_,rfl⟩
 have hE:dM a=⟨1,[104,116,116,112,58,47,47,106,97,98,98,101,114,46,111,114,103,47,112,114,111,116,111,99,111,108,47,104,116,116,112,98,105,110,100],[98,111,100,121],L14,[],0⟩:=by
  have hv:Bz a=bif decide (0<=a.great) then ep a.great++[46]++ep a.small else []:=by
   unfold Bz
   by_cases h:a.great<0
   ·rw[if_pos h,decide_eq_false (show ¬ 0<=a.great by omega)];rfl
   ·rw[if_neg h,decide_eq_true (show 0<=a.great by omega)];rfl
  have h0:[⟨[],[114,105,100],ep a.rid⟩]=lU [] [114,105,100] (ep a.rid):=by unfold lU;rw[if_neg e1]
  rw[h0]at h1
  unfold dM
  congr 1
  rw[h14,h13,h12,h11,h10,h9,h8,h7,h6,h5,h4,h3,h2,h1]
  simp only[qx,hv,sj,wL,List.flatMap_cons,List.flatMap_nil,List.append_nil,List.append_assoc]
  cases decide (0<=a.great)<;>cases a.fin<;>cases a.rst<;>simp[lU]
 have k1:L1.length<=1:=by rw[h1];simp
 have k2:L2.length<=2:=by rw[h2];exact eZ k1
 have k3:L3.length<=3:=by rw[h3];exact eZ k2
 have k4:L4.length<=4:=by rw[h4];exact eZ k3
 have k5:L5.length<=5:=by rw[h5];exact eZ k4
 have k6:L6.length<=6:=by rw[h6];exact eZ k5
 have k7:L7.length<=7:=by rw[h7];exact eZ k6
 have k8:L8.length<=8:=by rw[h8];exact eZ k7
 have k9:L9.length<=9:=by rw[h9];exact eZ k8
 have k10:L10.length<=10:=by
  rw[h10]
  cases decide (0<=a.great)
  ·exact Nat.le_succ_of_le k9
  ·exact eZ k9
 have k11:L11.length<=11:=by rw[h11];exact eZ k10
 have k12:L12.length<=12:=by rw[h12];exact eZ k11
 have k13:L13.length<=13:=by
  rw[h13]
  cases a.fin
  ·exact Nat.le_succ_of_le k12
  ·exact eZ k12
 have k14:L14.length<=14:=by
  rw[h14]
  cases a.rst
  ·exact Nat.le_succ_of_le k13
  ·exact eZ k13
 have m1:L1.length=1:=by rw[h1];rfl
 have m2:[bf ⟨[],[114,105,100],ep a.rid⟩]=L1.map bf:=by rw[h1];rfl
 simp only[bf]at m2 w0
 clear h1
 rw[hE]
 clear hE
 refine iP rfl call17 func17 rfl mixed (by kernel_rfl) rfl ?_;intro b0 hb0;have zF:=Ai results17 ntmps17
 repeat' first|simp only[au,ap,zF,am,aQ,aV,ab,ad,aj,ai,seval]|exact rfl|refine aa (v:=.any) ?_|refine ag (ps:=[(3,5),(3,8),(6,8)]) (by decide +kernel) (by simp only[List.forall_mem_cons,List.getD_cons_zero,List.getD_cons_succ,zF,am,aQ,aV,ab,ad,aj,ai,seval]<;>(try simp)<;>(try omega)) ?_|refine ag (ps:=[(3,6),(4,6)]) (by decide +kernel) (by simp only[List.forall_mem_cons,List.getD_cons_zero,List.getD_cons_succ,zF,am,aQ,aV,ab,ad,aj,ai,seval]<;>(try simp)<;>(try omega)) ?_|refine ag (ps:=[(3,6)]) (by decide +kernel) (by simp only[List.forall_mem_cons,List.getD_cons_zero,List.getD_cons_succ,zF,am,aQ,aV,ab,ad,aj,ai,seval]<;>(try simp)<;>(try omega)) ?_|refine ag (ps:=[(3,5)]) (by decide +kernel) (by simp only[List.forall_mem_cons,List.getD_cons_zero,List.getD_cons_succ,zF,am,aQ,aV,ab,ad,aj,ai,seval]<;>(try simp)<;>(try omega)) ?_|refine av (by decide +kernel) ?_|((first|apply Ca|apply Cb)<;>intro hb)|refine Ai (by omega) ?_|(apply Ai<;>intro hb)
 refine bj ?_
 repeat' first|simp only[au,ap,zF,am,aQ,aV,ab,ad,aj,ai,seval]|exact rfl|refine aa (v:=.any) ?_|(first|(refine ah ?_ (d1 _) ?_)|(refine ac ?_ (fun _=>d1 _) ?_))|refine ag (ps:=[(3,5),(3,8),(6,8)]) (by decide +kernel) (by simp only[List.forall_mem_cons,List.getD_cons_zero,List.getD_cons_succ,zF,am,aQ,aV,ab,ad,aj,ai,seval]<;>(try simp)<;>(try omega)) ?_|refine ag (ps:=[(3,6),(4,6)]) (by decide +kernel) (by simp only[List.forall_mem_cons,List.getD_cons_zero,List.getD_cons_succ,zF,am,aQ,aV,ab,ad,aj,ai,seval]<;>(try simp)<;>(try omega)) ?_|refine ag (ps:=[(3,6)]) (by decide +kernel) (by simp only[List.forall_mem_cons,List.getD_cons_zero,List.getD_cons_succ,zF,am,aQ,aV,ab,ad,aj,ai,seval]<;>(try simp)<;>(try omega)) ?_|refine ag (ps:=[(3,5)]) (by decide +kernel) (by simp only[List.forall_mem_cons,List.getD_cons_zero,List.getD_cons_succ,zF,am,aQ,aV,ab,ad,aj,ai,seval]<;>(try simp)<;>(try omega)) ?_|refine av (by decide +kernel) ?_|((first|apply Ca|apply Cb)<;>intro hb)|refine Ai (by omega) ?_|(apply Ai<;>intro hb)
 refine ay ?_ (w0 _) ?_ ?_
 ·simp only[aj,ai,seval]
 ·simp only[aj,ai,seval]
  intro x hx
  simp only[List.mem_singleton]at hx
  subst hx
  omega
 simp only[aj,ai,seval]
 (refine aY jI (b0+16) ([(1,.ptr b0 0 0),(2,.ptr (b0+1) 0 0),(3,.own (b0+2) 0 L1.length)]) ([(b0,⟨16,[aV a (.sl false 1 (a.load.map aR))]⟩),(b0+1,⟨6,[[.int .u8 0,.str [],.str [],.nils,.str [],.int .i64 0]]⟩),(b0+2,⟨3,L1.map bf⟩)]) [some b0,some (b0+16),some (b0+80)] ?_ ?_ ?_;(focus (show b0<=_;omega));(focus (refine⟨?_,?_⟩<;>(try simp only[aE,cL,m1,m2.symm,aQ,aV,ab,ad,al,az,Nat.le_refl,or_true,Lm,aj,ai,aq,seval])<;>(try omega))))
 repeat' first|simp only[au,ap,zF,am,aQ,aV,ab,ad,aj,ai,seval]|exact rfl|refine aa (v:=.any) ?_|refine ag (ps:=[(3,5),(3,8),(6,8)]) (by decide +kernel) (by simp only[List.forall_mem_cons,List.getD_cons_zero,List.getD_cons_succ,zF,am,aQ,aV,ab,ad,aj,ai,seval]<;>(try simp)<;>(try omega)) ?_|refine ag (ps:=[(3,6),(4,6)]) (by decide +kernel) (by simp only[List.forall_mem_cons,List.getD_cons_zero,List.getD_cons_succ,zF,am,aQ,aV,ab,ad,aj,ai,seval]<;>(try simp)<;>(try omega)) ?_|refine ag (ps:=[(3,6)]) (by decide +kernel) (by simp only[List.forall_mem_cons,List.getD_cons_zero,List.getD_cons_succ,zF,am,aQ,aV,ab,ad,aj,ai,seval]<;>(try simp)<;>(try omega)) ?_|refine ag (ps:=[(3,5)]) (by decide +kernel) (by simp only[List.forall_mem_cons,List.getD_cons_zero,List.getD_cons_succ,zF,am,aQ,aV,ab,ad,aj,ai,seval]<;>(try simp)<;>(try omega)) ?_|refine av (by decide +kernel) ?_|((first|apply Ca|apply Cb)<;>intro hb)|refine Ai (by omega) ?_|(apply Ai<;>intro hb)
 refine aB ?_ [b0+2] (eY L1 [] [115,105,100] a.sid (b0+2) _ _ ?_ aN (by omega) (by omega)) ?_ ?_
 ·simp only[aj,ai,seval]
 ·simp only[ap,aH,aO,aj,ai,seval]
 ·simp only[ap,aH,aO,Lk,Ln,or_false,true_or,or_true,forall_eq,forall_eq_or_imp,and_true,aA,aj,ai,seval]
 repeat' first|simp only[au,ap,zF,am,<- h2,aQ,aV,ab,ad,aj,ai,seval]|exact rfl|refine aa (v:=.any) ?_|refine ag (ps:=[(3,5),(3,8),(6,8)]) (by decide +kernel) (by simp only[List.forall_mem_cons,List.getD_cons_zero,List.getD_cons_succ,zF,am,<- h2,aQ,aV,ab,ad,aj,ai,seval]<;>(try simp)<;>(try omega)) ?_|refine ag (ps:=[(3,6),(4,6)]) (by decide +kernel) (by simp only[List.forall_mem_cons,List.getD_cons_zero,List.getD_cons_succ,zF,am,<- h2,aQ,aV,ab,ad,aj,ai,seval]<;>(try simp)<;>(try omega)) ?_|refine ag (ps:=[(3,6)]) (by decide +kernel) (by simp only[List.forall_mem_cons,List.getD_cons_zero,List.getD_cons_succ,zF,am,<- h2,aQ,aV,ab,ad,aj,ai,seval]<;>(try simp)<;>(try omega)) ?_|refine ag (ps:=[(3,5)]) (by decide +kernel) (by simp only[List.forall_mem_cons,List.getD_cons_zero,List.getD_cons_succ,zF,am,<- h2,aQ,aV,ab,ad,aj,ai,seval]<;>(try simp)<;>(try omega)) ?_|refine av (by decide +kernel) ?_|((first|apply Ca|apply Cb)<;>intro hb)|refine Ai (by omega) ?_|(apply Ai<;>intro hb)
 refine aB ?_ [b0+64] (eY L2 [] [116,111] a.dst (b0+64) _ _ ?_ aN (by omega) (by omega)) ?_ ?_
 ·simp only[aj,ai,seval]
 ·simp only[ap,aH,aO,aj,ai,seval]
 ·simp only[ap,aH,aO,Lk,Ln,or_false,true_or,or_true,forall_eq,forall_eq_or_imp,and_true,aA,aj,ai,seval]
 repeat' first|simp only[au,ap,zF,am,<- h3,aQ,aV,ab,ad,aj,ai,seval]|exact rfl|refine aa (v:=.any) ?_|refine ag (ps:=[(3,5),(3,8),(6,8)]) (by decide +kernel) (by simp only[List.forall_mem_cons,List.getD_cons_zero,List.getD_cons_succ,zF,am,<- h3,aQ,aV,ab,ad,aj,ai,seval]<;>(try simp)<;>(try omega)) ?_|refine ag (ps:=[(3,6),(4,6)]) (by decide +kernel) (by simp only[List.forall_mem_cons,List.getD_cons_zero,List.getD_cons_succ,zF,am,<- h3,aQ,aV,ab,ad,aj,ai,seval]<;>(try simp)<;>(try omega)) ?_|refine ag (ps:=[(3,6)]) (by decide +kernel) (by simp only[List.forall_mem_cons,List.getD_cons_zero,List.getD_cons_succ,zF,am,<- h3,aQ,aV,ab,ad,aj,ai,seval]<;>(try simp)<;>(try omega)) ?_|refine ag (ps:=[(3,5)]) (by decide +kernel) (by simp only[List.forall_mem_cons,List.getD_cons_zero,List.getD_cons_succ,zF,am,<- h3,aQ,aV,ab,ad,aj,ai,seval]<;>(try simp)<;>(try omega)) ?_|refine av (by decide +kernel) ?_|((first|apply Ca|apply Cb)<;>intro hb)|refine Ai (by omega) ?_|(apply Ai<;>intro hb)
 refine aB ?_ [b0+112] (eY L3 [] [102,114,111,109] a.src (b0+112) _ _ ?_ aN (by omega) (by omega)) ?_ ?_
 ·simp only[aj,ai,seval]
 ·simp only[ap,aH,aO,aj,ai,seval]
 ·simp only[ap,aH,aO,Lk,Ln,or_false,true_or,or_true,forall_eq,forall_eq_or_imp,and_true,aA,aj,ai,seval]
 repeat' first|simp only[au,ap,zF,am,<- h4,aQ,aV,ab,ad,aj,ai,seval]|exact rfl|refine aa (v:=.any) ?_|refine ag (ps:=[(3,5),(3,8),(6,8)]) (by decide +kernel) (by simp only[List.forall_mem_cons,List.getD_cons_zero,List.getD_cons_succ,zF,am,<- h4,aQ,aV,ab,ad,aj,ai,seval]<;>(try simp)<;>(try omega)) ?_|refine ag (ps:=[(3,6),(4,6)]) (by decide +kernel) (by simp only[List.forall_mem_cons,List.getD_cons_zero,List.getD_cons_succ,zF,am,<- h4,aQ,aV,ab,ad,aj,ai,seval]<;>(try simp)<;>(try omega)) ?_|refine ag (ps:=[(3,6)]) (by decide +kernel) (by simp only[List.forall_mem_cons,List.getD_cons_zero,List.getD_cons_succ,zF,am,<- h4,aQ,aV,ab,ad,aj,ai,seval]<;>(try simp)<;>(try omega)) ?_|refine ag (ps:=[(3,5)]) (by decide +kernel) (by simp only[List.forall_mem_cons,List.getD_cons_zero,List.getD_cons_succ,zF,am,<- h4,aQ,aV,ab,ad,aj,ai,seval]<;>(try simp)<;>(try omega)) ?_|refine av (by decide +kernel) ?_|((first|apply Ca|apply Cb)<;>intro hb)|refine Ai (by omega) ?_|(apply Ai<;>intro hb)
 refine bj ?_
 repeat' first|simp only[au,ap,zF,am,aQ,aV,ab,ad,aj,ai,seval]|exact rfl|refine aa (v:=.any) ?_|refine ag (ps:=[(3,5),(3,8),(6,8)]) (by decide +kernel) (by simp only[List.forall_mem_cons,List.getD_cons_zero,List.getD_cons_succ,zF,am,aQ,aV,ab,ad,aj,ai,seval]<;>(try simp)<;>(try omega)) ?_|refine ag (ps:=[(3,6),(4,6)]) (by decide +kernel) (by simp only[List.forall_mem_cons,List.getD_cons_zero,List.getD_cons_succ,zF,am,aQ,aV,ab,ad,aj,ai,seval]<;>(try simp)<;>(try omega)) ?_|refine ag (ps:=[(3,6)]) (by decide +kernel) (by simp only[List.forall_mem_cons,List.getD_cons_zero,List.getD_cons_succ,zF,am,aQ,aV,ab,ad,aj,ai,seval]<;>(try simp)<;>(try omega)) ?_|refine ag (ps:=[(3,5)]) (by decide +kernel) (by simp only[List.forall_mem_cons,List.getD_cons_zero,List.getD_cons_succ,zF,am,aQ,aV,ab,ad,aj,ai,seval]<;>(try simp)<;>(try omega)) ?_|refine av (by decide +kernel) ?_|((first|apply Ca|apply Cb)<;>intro hb)|refine Ai (by omega) ?_|(apply Ai<;>intro hb)
 refine aB ?_ [b0+160] (eY L4 [104,116,116,112,58,47,47,119,119,119,46,119,51,46,111,114,103,47,88,77,76,47,49,57,57,56,47,110,97,109,101,115,112,97,99,101] [108,97,110,103] a.lang (b0+160) _ _ ?_ aN (by omega) (by omega)) ?_ ?_
 ·simp only[aj,ai,seval]
 ·simp only[ap,aH,aO,aj,ai,seval]
 ·simp only[ap,aH,aO,Lk,Ln,or_false,true_or,or_true,forall_eq,forall_eq_or_imp,and_true,aA,aj,ai,seval]
 repeat' first|simp only[au,ap,zF,am,<- h5,aQ,aV,ab,ad,aj,ai,seval]|exact rfl|refine aa (v:=.any) ?_|refine ag (ps:=[(3,5),(3,8),(6,8)]) (by decide +kernel) (by simp only[List.forall_mem_cons,List.getD_cons_zero,List.getD_cons_succ,zF,am,<- h5,aQ,aV,ab,ad,aj,ai,seval]<;>(try simp)<;>(try omega)) ?_|refine ag (ps:=[(3,6),(4,6)]) (by decide +kernel) (by simp only[List.forall_mem_cons,List.getD_cons_zero,List.getD_cons_succ,zF,am,<- h5,aQ,aV,ab,ad,aj,ai,seval]<;>(try simp)<;>(try omega)) ?_|refine ag (ps:=[(3,6)]) (by decide +kernel) (by simp only[List.forall_mem_cons,List.getD_cons_zero,List.getD_cons_succ,zF,am,<- h5,aQ,aV,ab,ad,aj,ai,seval]<;>(try simp)<;>(try omega)) ?_|refine ag (ps:=[(3,5)]) (by decide +kernel) (by simp only[List.forall_mem_cons,List.getD_cons_zero,List.getD_cons_succ,zF,am,<- h5,aQ,aV,ab,ad,aj,ai,seval]<;>(try simp)<;>(try omega)) ?_|refine av (by decide +kernel) ?_|((first|apply Ca|apply Cb)<;>intro hb)|refine Ai (by omega) ?_|(apply Ai<;>intro hb)
 refine bj ?_
 repeat' first|simp only[au,ap,zF,am,aQ,aV,ab,ad,aj,ai,seval]|exact rfl|refine aa (v:=.any) ?_|(first|(refine ah ?_ (d2 _) ?_)|(refine ac ?_ (fun _=>d2 _) ?_))|refine ag (ps:=[(3,5),(3,8),(6,8)]) (by decide +kernel) (by simp only[List.forall_mem_cons,List.getD_cons_zero,List.getD_cons_succ,zF,am,aQ,aV,ab,ad,aj,ai,seval]<;>(try simp)<;>(try omega)) ?_|refine ag (ps:=[(3,6),(4,6)]) (by decide +kernel) (by simp only[List.forall_mem_cons,List.getD_cons_zero,List.getD_cons_succ,zF,am,aQ,aV,ab,ad,aj,ai,seval]<;>(try simp)<;>(try omega)) ?_|refine ag (ps:=[(3,6)]) (by decide +kernel) (by simp only[List.forall_mem_cons,List.getD_cons_zero,List.getD_cons_succ,zF,am,aQ,aV,ab,ad,aj,ai,seval]<;>(try simp)<;>(try omega)) ?_|refine ag (ps:=[(3,5)]) (by decide +kernel) (by simp only[List.forall_mem_cons,List.getD_cons_zero,List.getD_cons_succ,zF,am,aQ,aV,ab,ad,aj,ai,seval]<;>(try simp)<;>(try omega)) ?_|refine av (by decide +kernel) ?_|((first|apply Ca|apply Cb)<;>intro hb)|refine Ai (by omega) ?_|(apply Ai<;>intro hb)
 refine aB ?_ [b0+240] (eY L5 [] [119,97,105,116] (ep a.wait) (b0+240) _ _ ?_ aN (by omega) (by omega)) ?_ ?_
 ·simp only[aj,ai,seval]
 ·simp only[ap,aH,aO,aj,ai,seval]
 ·simp only[ap,aH,aO,Lk,Ln,or_false,true_or,or_true,forall_eq,forall_eq_or_imp,and_true,aA,aj,ai,seval]
 repeat' first|simp only[au,ap,zF,am,<- h6,aQ,aV,ab,ad,aj,ai,seval]|exact rfl|refine aa (v:=.any) ?_|(first|(refine ah ?_ (d3 _) ?_)|(refine ac ?_ (fun _=>d3 _) ?_))|refine ag (ps:=[(3,5),(3,8),(6,8)]) (by decide +kernel) (by simp only[List.forall_mem_cons,List.getD_cons_zero,List.getD_cons_succ,zF,am,<- h6,aQ,aV,ab,ad,aj,ai,seval]<;>(try simp)<;>(try omega)) ?_|refine ag (ps:=[(3,6),(4,6)]) (by decide +kernel) (by simp only[List.forall_mem_cons,List.getD_cons_zero,List.getD_cons_succ,zF,am,<- h6,aQ,aV,ab,ad,aj,ai,seval]<;>(try simp)<;>(try omega)) ?_|refine ag (ps:=[(3,6)]) (by decide +kernel) (by simp only[List.forall_mem_cons,List.getD_cons_zero,List.getD_cons_succ,zF,am,<- h6,aQ,aV,ab,ad,aj,ai,seval]<;>(try simp)<;>(try omega)) ?_|refine ag (ps:=[(3,5)]) (by decide +kernel) (by simp only[List.forall_mem_cons,List.getD_cons_zero,List.getD_cons_succ,zF,am,<- h6,aQ,aV,ab,ad,aj,ai,seval]<;>(try simp)<;>(try omega)) ?_|refine av (by decide +kernel) ?_|((first|apply Ca|apply Cb)<;>intro hb)|refine Ai (by omega) ?_|(apply Ai<;>intro hb)
 refine aB ?_ [b0+336] (eY L6 [] [104,111,108,100] (ep a.hold) (b0+336) _ _ ?_ aN (by omega) (by omega)) ?_ ?_
 ·simp only[aj,ai,seval]
 ·simp only[ap,aH,aO,aj,ai,seval]
 ·simp only[ap,aH,aO,Lk,Ln,or_false,true_or,or_true,forall_eq,forall_eq_or_imp,and_true,aA,aj,ai,seval]
 repeat' first|simp only[au,ap,zF,am,<- h7,aQ,aV,ab,ad,aj,ai,seval]|exact rfl|refine aa (v:=.any) ?_|refine ag (ps:=[(3,5),(3,8),(6,8)]) (by decide +kernel) (by simp only[List.forall_mem_cons,List.getD_cons_zero,List.getD_cons_succ,zF,am,<- h7,aQ,aV,ab,ad,aj,ai,seval]<;>(try simp)<;>(try omega)) ?_|refine ag (ps:=[(3,6),(4,6)]) (by decide +kernel) (by simp only[List.forall_mem_cons,List.getD_cons_zero,List.getD_cons_succ,zF,am,<- h7,aQ,aV,ab,ad,aj,ai,seval]<;>(try simp)<;>(try omega)) ?_|refine ag (ps:=[(3,6)]) (by decide +kernel) (by simp only[List.forall_mem_cons,List.getD_cons_zero,List.getD_cons_succ,zF,am,<- h7,aQ,aV,ab,ad,aj,ai,seval]<;>(try simp)<;>(try omega)) ?_|refine ag (ps:=[(3,5)]) (by decide +kernel) (by simp only[List.forall_mem_cons,List.getD_cons_zero,List.getD_cons_succ,zF,am,<- h7,aQ,aV,ab,ad,aj,ai,seval]<;>(try simp)<;>(try omega)) ?_|refine av (by decide +kernel) ?_|((first|apply Ca|apply Cb)<;>intro hb)|refine Ai (by omega) ?_|(apply Ai<;>intro hb)
 refine bj ?_
 repeat' first|simp only[au,ap,zF,am,aQ,aV,ab,ad,aj,ai,seval]|exact rfl|refine aa (v:=.any) ?_|(first|(refine ah ?_ (d4 _) ?_)|(refine ac ?_ (fun _=>d4 _) ?_))|refine ag (ps:=[(3,5),(3,8),(6,8)]) (by decide +kernel) (by simp only[List.forall_mem_cons,List.getD_cons_zero,List.getD_cons_succ,zF,am,aQ,aV,ab,ad,aj,ai,seval]<;>(try simp)<;>(try omega)) ?_|refine ag (ps:=[(3,6),(4,6)]) (by decide +kernel) (by simp only[List.forall_mem_cons,List.getD_cons_zero,List.getD_cons_succ,zF,am,aQ,aV,ab,ad,aj,ai,seval]<;>(try simp)<;>(try omega)) ?_|refine ag (ps:=[(3,6)]) (by decide +kernel) (by simp only[List.forall_mem_cons,List.getD_cons_zero,List.getD_cons_succ,zF,am,aQ,aV,ab,ad,aj,ai,seval]<;>(try simp)<;>(try omega)) ?_|refine ag (ps:=[(3,5)]) (by decide +kernel) (by simp only[List.forall_mem_cons,List.getD_cons_zero,List.getD_cons_succ,zF,am,aQ,aV,ab,ad,aj,ai,seval]<;>(try simp)<;>(try omega)) ?_|refine av (by decide +kernel) ?_|((first|apply Ca|apply Cb)<;>intro hb)|refine Ai (by omega) ?_|(apply Ai<;>intro hb)
 refine aB ?_ [b0+400] (eY L7 [] [97,99,107] (ep a.ack) (b0+400) _ _ ?_ aN (by omega) (by omega)) ?_ ?_
 ·simp only[aj,ai,seval]
 ·simp only[ap,aH,aO,aj,ai,seval]
 ·simp only[ap,aH,aO,Lk,Ln,or_false,true_or,or_true,forall_eq,forall_eq_or_imp,and_true,aA,aj,ai,seval]
 repeat' first|simp only[au,ap,zF,am,<- h8,aQ,aV,ab,ad,aj,ai,seval]|exact rfl|refine aa (v:=.any) ?_|(first|(refine ah ?_ (d5 _) ?_)|(refine ac ?_ (fun _=>d5 _) ?_))|refine ag (ps:=[(3,5),(3,8),(6,8)]) (by decide +kernel) (by simp only[List.forall_mem_cons,List.getD_cons_zero,List.getD_cons_succ,zF,am,<- h8,aQ,aV,ab,ad,aj,ai,seval]<;>(try simp)<;>(try omega)) ?_|refine ag (ps:=[(3,6),(4,6)]) (by decide +kernel) (by simp only[List.forall_mem_cons,List.getD_cons_zero,List.getD_cons_succ,zF,am,<- h8,aQ,aV,ab,ad,aj,ai,seval]<;>(try simp)<;>(try omega)) ?_|refine ag (ps:=[(3,6)]) (by decide +kernel) (by simp only[List.forall_mem_cons,List.getD_cons_zero,List.getD_cons_succ,zF,am,<- h8,aQ,aV,ab,ad,aj,ai,seval]<;>(try simp)<;>(try omega)) ?_|refine ag (ps:=[(3,5)]) (by decide +kernel) (by simp only[List.forall_mem_cons,List.getD_cons_zero,List.getD_cons_succ,zF,am,<- h8,aQ,aV,ab,ad,aj,ai,seval]<;>(try simp)<;>(try omega)) ?_|refine av (by decide +kernel) ?_|((first|apply Ca|apply Cb)<;>intro hb)|refine Ai (by omega) ?_|(apply Ai<;>intro hb)
 refine aB ?_ [b0+496] (eY L8 [] [112,97,117,115,101] (ep a.pause) (b0+496) _ _ ?_ aN (by omega) (by omega)) ?_ ?_
 ·simp only[aj,ai,seval]
 ·simp only[ap,aH,aO,aj,ai,seval]
 ·simp only[ap,aH,aO,Lk,Ln,or_false,true_or,or_true,forall_eq,forall_eq_or_imp,and_true,aA,aj,ai,seval]
 repeat' first|simp only[au,ap,zF,am,<- h9,aQ,aV,ab,ad,aj,ai,seval]|exact rfl|refine aa (v:=.any) ?_|refine ag (ps:=[(3,5),(3,8),(6,8)]) (by decide +kernel) (by simp only[List.forall_mem_cons,List.getD_cons_zero,List.getD_cons_succ,zF,am,<- h9,aQ,aV,ab,ad,aj,ai,seval]<;>(try simp)<;>(try omega)) ?_|refine ag (ps:=[(3,6),(4,6)]) (by decide +kernel) (by simp only[List.forall_mem_cons,List.getD_cons_zero,List.getD_cons_succ,zF,am,<- h9,aQ,aV,ab,ad,aj,ai,seval]<;>(try simp)<;>(try omega)) ?_|refine ag (ps:=[(3,6)]) (by decide +kernel) (by simp only[List.forall_mem_cons,List.getD_cons_zero,List.getD_cons_succ,zF,am,<- h9,aQ,aV,ab,ad,aj,ai,seval]<;>(try simp)<;>(try omega)) ?_|refine ag (ps:=[(3,5)]) (by decide +kernel) (by simp only[List.forall_mem_cons,List.getD_cons_zero,List.getD_cons_succ,zF,am,<- h9,aQ,aV,ab,ad,aj,ai,seval]<;>(try simp)<;>(try omega)) ?_|refine av (by decide +kernel) ?_|((first|apply Ca|apply Cb)<;>intro hb)|refine Ai (by omega) ?_|(apply Ai<;>intro hb)
 (refine aY jI (b0+16) ([(1,.ptr b0 0 0),(2,.ptr (b0+1) 0 0),(3,.own (b0+2) 0 L9.length)]) ([(b0,⟨16,[aV a (.sl false 1 (a.load.map aR))]⟩),(b0+1,⟨6,[[.int .u8 0,.str [],.str [],.nils,.str [],.int .i64 0]]⟩),(b0+2,⟨3,L9.map bf⟩)]) [some b0,some (b0+1),some (b0+560)] ?_ ?_ ?_;(focus (show b0<=_;omega));(focus (refine⟨?_,?_⟩<;>(try simp only[aE,cL,aQ,aV,ab,ad,al,az,Nat.le_refl,or_true,Lm,aj,ai,aq,seval])<;>(try omega))))
 cases hd:decide (0<=a.great)
 case' false =>
  rw[hd]at h10
  simp only[cond_false]at h10
  repeat' first|simp only[au,ap,zF,am,hd,ge_iff_le,aQ,aV,ab,ad,aj,ai,seval]|exact rfl|refine aa (v:=.any) ?_|refine ag (ps:=[(3,5),(3,8),(6,8)]) (by decide +kernel) (by simp only[List.forall_mem_cons,List.getD_cons_zero,List.getD_cons_succ,zF,am,hd,ge_iff_le,aQ,aV,ab,ad,aj,ai,seval]<;>(try simp)<;>(try omega)) ?_|refine ag (ps:=[(3,6),(4,6)]) (by decide +kernel) (by simp only[List.forall_mem_cons,List.getD_cons_zero,List.getD_cons_succ,zF,am,hd,ge_iff_le,aQ,aV,ab,ad,aj,ai,seval]<;>(try simp)<;>(try omega)) ?_|refine ag (ps:=[(3,6)]) (by decide +kernel) (by simp only[List.forall_mem_cons,List.getD_cons_zero,List.getD_cons_succ,zF,am,hd,ge_iff_le,aQ,aV,ab,ad,aj,ai,seval]<;>(try simp)<;>(try omega)) ?_|refine ag (ps:=[(3,5)]) (by decide +kernel) (by simp only[List.forall_mem_cons,List.getD_cons_zero,List.getD_cons_succ,zF,am,hd,ge_iff_le,aQ,aV,ab,ad,aj,ai,seval]<;>(try simp)<;>(try omega)) ?_|refine av (by decide +kernel) ?_|((first|apply Ca|apply Cb)<;>intro hb)|refine Ai (by omega) ?_|(apply Ai<;>intro hb)
  (refine aY jI (b0+16) ([(1,.ptr b0 0 0),(2,.ptr (b0+1) 0 0),(3,.own (b0+2) 0 L10.length)]) ([(b0,⟨16,[aV a (.sl false 1 (a.load.map aR))]⟩),(b0+1,⟨6,[[.int .u8 0,.str [],.str [],.nils,.str [],.int .i64 0]]⟩),(b0+2,⟨3,L10.map bf⟩)]) [some b0,some (b0+1),some (b0+2)] ?_ ?_ ?_;(focus (show b0<=_;omega));(focus (refine⟨?_,?_⟩<;>(try simp only[aE,cL,h10,aQ,aV,ab,ad,al,az,Nat.le_refl,or_true,Lm,aj,ai,aq,seval])<;>(try omega))))
 case' true =>
  rw[hd]at h10
  simp only[cond_true]at h10
  repeat' first|simp only[au,ap,zF,am,hd,ge_iff_le,List.length_append,List.length_cons,List.length_nil,aQ,aV,ab,ad,aj,ai,seval]|exact rfl|refine aa (v:=.any) ?_|((first|(refine ah ?_ (d6 _) ?_)|(refine ac ?_ (fun _=>d6 _) ?_));(focus (simp only[zF,am,hd,ge_iff_le,List.length_append,List.length_cons,List.length_nil,aQ,aV,ab,ad,aj,ai,seval]<;>exact rfl)))|((first|(refine ah ?_ (d7 _) ?_)|(refine ac ?_ (fun _=>d7 _) ?_));(focus (simp only[zF,am,hd,ge_iff_le,List.length_append,List.length_cons,List.length_nil,aQ,aV,ab,ad,aj,ai,seval]<;>exact rfl)))|refine ag (ps:=[(3,5),(3,8),(6,8)]) (by decide +kernel) (by simp only[List.forall_mem_cons,List.getD_cons_zero,List.getD_cons_succ,zF,am,hd,ge_iff_le,List.length_append,List.length_cons,List.length_nil,aQ,aV,ab,ad,aj,ai,seval]<;>(try simp)<;>(try omega)) ?_|refine ag (ps:=[(3,6),(4,6)]) (by decide +kernel) (by simp only[List.forall_mem_cons,List.getD_cons_zero,List.getD_cons_succ,zF,am,hd,ge_iff_le,List.length_append,List.length_cons,List.length_nil,aQ,aV,ab,ad,aj,ai,seval]<;>(try simp)<;>(try omega)) ?_|refine ag (ps:=[(3,6)]) (by decide +kernel) (by simp only[List.forall_mem_cons,List.getD_cons_zero,List.getD_cons_succ,zF,am,hd,ge_iff_le,List.length_append,List.length_cons,List.length_nil,aQ,aV,ab,ad,aj,ai,seval]<;>(try simp)<;>(try omega)) ?_|refine ag (ps:=[(3,5)]) (by decide +kernel) (by simp only[List.forall_mem_cons,List.getD_cons_zero,List.getD_cons_succ,zF,am,hd,ge_iff_le,List.length_append,List.length_cons,List.length_nil,aQ,aV,ab,ad,aj,ai,seval]<;>(try simp)<;>(try omega)) ?_|refine av (by decide +kernel) ?_|((first|apply Ca|apply Cb)<;>intro hb)|refine Ai (by omega) ?_|(apply Ai<;>intro hb)
  refine aB ?_ [b0+2] (eY L9 [] [118,101,114] (ep a.great++[46]++ep a.small) (b0+2) _ _ ?_ aN (by omega) (by omega)) ?_ ?_
  ·simp only[aj,ai,seval]
  ·simp only[ap,aH,aO,aj,ai,seval]
  ·simp only[ap,aH,aO,Lk,Ln,or_false,true_or,or_true,forall_eq,forall_eq_or_imp,and_true,aA,aj,ai,seval]
  repeat' first|simp only[au,ap,zF,am,<- h10,aQ,aV,ab,ad,aj,ai,seval]|exact rfl|refine aa (v:=.any) ?_|refine ag (ps:=[(3,5),(3,8),(6,8)]) (by decide +kernel) (by simp only[List.forall_mem_cons,List.getD_cons_zero,List.getD_cons_succ,zF,am,<- h10,aQ,aV,ab,ad,aj,ai,seval]<;>(try simp)<;>(try omega)) ?_|refine ag (ps:=[(3,6),(4,6)]) (by decide +kernel) (by simp only[List.forall_mem_cons,List.getD_cons_zero,List.getD_cons_succ,zF,am,<- h10,aQ,aV,ab,ad,aj,ai,seval]<;>(try simp)<;>(try omega)) ?_|refine ag (ps:=[(3,6)]) (by decide +kernel) (by simp only[List.forall_mem_cons,List.getD_cons_zero,List.getD_cons_succ,zF,am,<- h10,aQ,aV,ab,ad,aj,ai,seval]<;>(try simp)<;>(try omega)) ?_|refine ag (ps:=[(3,5)]) (by decide +kernel) (by simp only[List.forall_mem_cons,List.getD_cons_zero,List.getD_cons_succ,zF,am,<- h10,aQ,aV,ab,ad,aj,ai,seval]<;>(try simp)<;>(try omega)) ?_|refine av (by decide +kernel) ?_|((first|apply Ca|apply Cb)<;>intro hb)|refine Ai (by omega) ?_|(apply Ai<;>intro hb)
  (refine aY jI (b0+16) ([(1,.ptr b0 0 0),(2,.ptr (b0+1) 0 0),(3,.own (b0+2) 0 L10.length)]) ([(b0,⟨16,[aV a (.sl false 1 (a.load.map aR))]⟩),(b0+1,⟨6,[[.int .u8 0,.str [],.str [],.nils,.str [],.int .i64 0]]⟩),(b0+2,⟨3,L10.map bf⟩)]) [some b0,some (b0+1),some (b0+208)] ?_ ?_ ?_;(focus (show b0<=_;omega));(focus (refine⟨?_,?_⟩<;>(try simp only[aE,cL,aQ,aV,ab,ad,al,az,Nat.le_refl,or_true,Lm,aj,ai,aq,seval])<;>(try omega))))
 all_goals
  repeat' first|simp only[au,ap,zF,am,aQ,aV,ab,ad,aj,ai,seval]|exact rfl|refine aa (v:=.any) ?_|refine ag (ps:=[(3,5),(3,8),(6,8)]) (by decide +kernel) (by simp only[List.forall_mem_cons,List.getD_cons_zero,List.getD_cons_succ,zF,am,aQ,aV,ab,ad,aj,ai,seval]<;>(try simp)<;>(try omega)) ?_|refine ag (ps:=[(3,6),(4,6)]) (by decide +kernel) (by simp only[List.forall_mem_cons,List.getD_cons_zero,List.getD_cons_succ,zF,am,aQ,aV,ab,ad,aj,ai,seval]<;>(try simp)<;>(try omega)) ?_|refine ag (ps:=[(3,6)]) (by decide +kernel) (by simp only[List.forall_mem_cons,List.getD_cons_zero,List.getD_cons_succ,zF,am,aQ,aV,ab,ad,aj,ai,seval]<;>(try simp)<;>(try omega)) ?_|refine ag (ps:=[(3,5)]) (by decide +kernel) (by simp only[List.forall_mem_cons,List.getD_cons_zero,List.getD_cons_succ,zF,am,aQ,aV,ab,ad,aj,ai,seval]<;>(try simp)<;>(try omega)) ?_|refine av (by decide +kernel) ?_|((first|apply Ca|apply Cb)<;>intro hb)|refine Ai (by omega) ?_|(apply Ai<;>intro hb)
  refine aB ?_ [b0+2] (eY L10 [] [107,101,121] a.key (b0+2) _ _ ?_ aN (by omega) (by omega)) ?_ ?_
  ·simp only[aj,ai,seval]
  ·simp only[ap,aH,aO,aj,ai,seval]
  ·simp only[ap,aH,aO,Lk,Ln,or_false,true_or,or_true,forall_eq,forall_eq_or_imp,and_true,aA,aj,ai,seval]
  repeat' first|simp only[au,ap,zF,am,<- h11,aQ,aV,ab,ad,aj,ai,seval]|exact rfl|refine aa (v:=.any) ?_|refine ag (ps:=[(3,5),(3,8),(6,8)]) (by decide +kernel) (by simp only[List.forall_mem_cons,List.getD_cons_zero,List.getD_cons_succ,zF,am,<- h11,aQ,aV,ab,ad,aj,ai,seval]<;>(try simp)<;>(try omega)) ?_|refine ag (ps:=[(3,6),(4,6)]) (by decide +kernel) (by simp only[List.forall_mem_cons,List.getD_cons_zero,List.getD_cons_succ,zF,am,<- h11,aQ,aV,ab,ad,aj,ai,seval]<;>(try simp)<;>(try omega)) ?_|refine ag (ps:=[(3,6)]) (by decide +kernel) (by simp only[List.forall_mem_cons,List.getD_cons_zero,List.getD_cons_succ,zF,am,<- h11,aQ,aV,ab,ad,aj,ai,seval]<;>(try simp)<;>(try omega)) ?_|refine ag (ps:=[(3,5)]) (by decide +kernel) (by simp only[List.forall_mem_cons,List.getD_cons_zero,List.getD_cons_succ,zF,am,<- h11,aQ,aV,ab,ad,aj,ai,seval]<;>(try simp)<;>(try omega)) ?_|refine av (by decide +kernel) ?_|((first|apply Ca|apply Cb)<;>intro hb)|refine Ai (by omega) ?_|(apply Ai<;>intro hb)
  refine aB ?_ [b0+64] (eY L11 [] [110,101,119,107,101,121] a.fresh (b0+64) _ _ ?_ aN (by omega) (by omega)) ?_ ?_
  ·simp only[aj,ai,seval]
  ·simp only[ap,aH,aO,aj,ai,seval]
  ·simp only[ap,aH,aO,Lk,Ln,or_false,true_or,or_true,forall_eq,forall_eq_or_imp,and_true,aA,aj,ai,seval]
  repeat' first|simp only[au,ap,zF,am,<- h12,aQ,aV,ab,ad,aj,ai,seval]|exact rfl|refine aa (v:=.any) ?_|refine ag (ps:=[(3,5),(3,8),(6,8)]) (by decide +kernel) (by simp only[List.forall_mem_cons,List.getD_cons_zero,List.getD_cons_succ,zF,am,<- h12,aQ,aV,ab,ad,aj,ai,seval]<;>(try simp)<;>(try omega)) ?_|refine ag (ps:=[(3,6),(4,6)]) (by decide +kernel) (by simp only[List.forall_mem_cons,List.getD_cons_zero,List.getD_cons_succ,zF,am,<- h12,aQ,aV,ab,ad,aj,ai,seval]<;>(try simp)<;>(try omega)) ?_|refine ag (ps:=[(3,6)]) (by decide +kernel) (by simp only[List.forall_mem_cons,List.getD_cons_zero,List.getD_cons_succ,zF,am,<- h12,aQ,aV,ab,ad,aj,ai,seval]<;>(try simp)<;>(try omega)) ?_|refine ag (ps:=[(3,5)]) (by decide +kernel) (by simp only[List.forall_mem_cons,List.getD_cons_zero,List.getD_cons_succ,zF,am,<- h12,aQ,aV,ab,ad,aj,ai,seval]<;>(try simp)<;>(try omega)) ?_|refine av (by decide +kernel) ?_|((first|apply Ca|apply Cb)<;>intro hb)|refine Ai (by omega) ?_|(apply Ai<;>intro hb)
  refine bj ?_
  cases hf:a.fin
  case' false =>
   rw[hf]at h13
   simp only[cond_false]at h13
   repeat' first|simp only[au,ap,zF,am,hf,aQ,aV,ab,ad,aj,ai,seval]|exact rfl|refine aa (v:=.any) ?_|refine ag (ps:=[(3,5),(3,8),(6,8)]) (by decide +kernel) (by simp only[List.forall_mem_cons,List.getD_cons_zero,List.getD_cons_succ,zF,am,hf,aQ,aV,ab,ad,aj,ai,seval]<;>(try simp)<;>(try omega)) ?_|refine ag (ps:=[(3,6),(4,6)]) (by decide +kernel) (by simp only[List.forall_mem_cons,List.getD_cons_zero,List.getD_cons_succ,zF,am,hf,aQ,aV,ab,ad,aj,ai,seval]<;>(try simp)<;>(try omega)) ?_|refine ag (ps:=[(3,6)]) (by decide +kernel) (by simp only[List.forall_mem_cons,List.getD_cons_zero,List.getD_cons_succ,zF,am,hf,aQ,aV,ab,ad,aj,ai,seval]<;>(try simp)<;>(try omega)) ?_|refine ag (ps:=[(3,5)]) (by decide +kernel) (by simp only[List.forall_mem_cons,List.getD_cons_zero,List.getD_cons_succ,zF,am,hf,aQ,aV,ab,ad,aj,ai,seval]<;>(try simp)<;>(try omega)) ?_|refine av (by decide +kernel) ?_|((first|apply Ca|apply Cb)<;>intro hb)|refine Ai (by omega) ?_|(apply Ai<;>intro hb)
   (refine aY jI (b0+16) ([(1,.ptr b0 0 0),(2,.ptr (b0+1) 0 0),(3,.own (b0+2) 0 L13.length)]) ([(b0,⟨16,[aV a (.sl false 1 (a.load.map aR))]⟩),(b0+1,⟨6,[[.int .u8 0,.str [],.str [],.nils,.str [],.int .i64 0]]⟩),(b0+2,⟨3,L13.map bf⟩)]) [some b0,some (b0+1),some (b0+112)] ?_ ?_ ?_;(focus (show b0<=_;omega));(focus (refine⟨?_,?_⟩<;>(try simp only[aE,cL,h13,hf,aQ,aV,ab,ad,al,az,Nat.le_refl,or_true,Lm,aj,ai,aq,seval])<;>(try omega))))
  case' true =>
   rw[hf]at h13
   simp only[cond_true]at h13
   repeat' first|simp only[au,ap,zF,am,hf,aQ,aV,ab,ad,aj,ai,seval]|exact rfl|refine aa (v:=.any) ?_|refine ag (ps:=[(3,5),(3,8),(6,8)]) (by decide +kernel) (by simp only[List.forall_mem_cons,List.getD_cons_zero,List.getD_cons_succ,zF,am,hf,aQ,aV,ab,ad,aj,ai,seval]<;>(try simp)<;>(try omega)) ?_|refine ag (ps:=[(3,6),(4,6)]) (by decide +kernel) (by simp only[List.forall_mem_cons,List.getD_cons_zero,List.getD_cons_succ,zF,am,hf,aQ,aV,ab,ad,aj,ai,seval]<;>(try simp)<;>(try omega)) ?_|refine ag (ps:=[(3,6)]) (by decide +kernel) (by simp only[List.forall_mem_cons,List.getD_cons_zero,List.getD_cons_succ,zF,am,hf,aQ,aV,ab,ad,aj,ai,seval]<;>(try simp)<;>(try omega)) ?_|refine ag (ps:=[(3,5)]) (by decide +kernel) (by simp only[List.forall_mem_cons,List.getD_cons_zero,List.getD_cons_succ,zF,am,hf,aQ,aV,ab,ad,aj,ai,seval]<;>(try simp)<;>(try omega)) ?_|refine av (by decide +kernel) ?_|((first|apply Ca|apply Cb)<;>intro hb)|refine Ai (by omega) ?_|(apply Ai<;>intro hb)
   refine aB ?_ [b0+112] (eY L12 [] [116,121,112,101] [116,101,114,109,105,110,97,116,101] (b0+112) _ _ ?_ aN (by omega) (by omega)) ?_ ?_
   ·simp only[aj,ai,seval]
   ·simp only[ap,aH,aO,aj,ai,seval]
   ·simp only[ap,aH,aO,Lk,Ln,or_false,true_or,or_true,forall_eq,forall_eq_or_imp,and_true,aA,aj,ai,seval]
   repeat' first|simp only[au,ap,zF,am,<- h13,aQ,aV,ab,ad,aj,ai,seval]|exact rfl|refine aa (v:=.any) ?_|refine ag (ps:=[(3,5),(3,8),(6,8)]) (by decide +kernel) (by simp only[List.forall_mem_cons,List.getD_cons_zero,List.getD_cons_succ,zF,am,<- h13,aQ,aV,ab,ad,aj,ai,seval]<;>(try simp)<;>(try omega)) ?_|refine ag (ps:=[(3,6),(4,6)]) (by decide +kernel) (by simp only[List.forall_mem_cons,List.getD_cons_zero,List.getD_cons_succ,zF,am,<- h13,aQ,aV,ab,ad,aj,ai,seval]<;>(try simp)<;>(try omega)) ?_|refine ag (ps:=[(3,6)]) (by decide +kernel) (by simp only[List.forall_mem_cons,List.getD_cons_zero,List.getD_cons_succ,zF,am,<- h13,aQ,aV,ab,ad,aj,ai,seval]<;>(try simp)<;>(try omega)) ?_|refine ag (ps:=[(3,5)]) (by decide +kernel) (by simp only[List.forall_mem_cons,List.getD_cons_zero,List.getD_cons_succ,zF,am,<- h13,aQ,aV,ab,ad,aj,ai,seval]<;>(try simp)<;>(try omega)) ?_|refine av (by decide +kernel) ?_|((first|apply Ca|apply Cb)<;>intro hb)|refine Ai (by omega) ?_|(apply Ai<;>intro hb)
   (refine aY jI (b0+16) ([(1,.ptr b0 0 0),(2,.ptr (b0+1) 0 0),(3,.own (b0+2) 0 L13.length)]) ([(b0,⟨16,[aV a (.sl false 1 (a.load.map aR))]⟩),(b0+1,⟨6,[[.int .u8 0,.str [],.str [],.nils,.str [],.int .i64 0]]⟩),(b0+2,⟨3,L13.map bf⟩)]) [some b0,some (b0+1),some (b0+192)] ?_ ?_ ?_;(focus (show b0<=_;omega));(focus (refine⟨?_,?_⟩<;>(try simp only[aE,cL,hf,aQ,aV,ab,ad,al,az,Nat.le_refl,or_true,Lm,aj,ai,aq,seval])<;>(try omega))))
  all_goals
   cases hr:a.rst
   case' false =>
    rw[hr]at h14
    simp only[cond_false]at h14
    repeat' first|simp only[au,ap,zF,am,hr,aQ,aV,ab,ad,aj,ai,seval]|exact rfl|refine aa (v:=.any) ?_|refine ag (ps:=[(3,5),(3,8),(6,8)]) (by decide +kernel) (by simp only[List.forall_mem_cons,List.getD_cons_zero,List.getD_cons_succ,zF,am,hr,aQ,aV,ab,ad,aj,ai,seval]<;>(try simp)<;>(try omega)) ?_|refine ag (ps:=[(3,6),(4,6)]) (by decide +kernel) (by simp only[List.forall_mem_cons,List.getD_cons_zero,List.getD_cons_succ,zF,am,hr,aQ,aV,ab,ad,aj,ai,seval]<;>(try simp)<;>(try omega)) ?_|refine ag (ps:=[(3,6)]) (by decide +kernel) (by simp only[List.forall_mem_cons,List.getD_cons_zero,List.getD_cons_succ,zF,am,hr,aQ,aV,ab,ad,aj,ai,seval]<;>(try simp)<;>(try omega)) ?_|refine ag (ps:=[(3,5)]) (by decide +kernel) (by simp only[List.forall_mem_cons,List.getD_cons_zero,List.getD_cons_succ,zF,am,hr,aQ,aV,ab,ad,aj,ai,seval]<;>(try simp)<;>(try omega)) ?_|refine av (by decide +kernel) ?_|((first|apply Ca|apply Cb)<;>intro hb)|refine Ai (by omega) ?_|(apply Ai<;>intro hb)
    (refine aY jI (b0+16) ([(1,.ptr b0 0 0),(2,.ptr (b0+1) 0 0),(3,.own (b0+2) 0 L14.length)]) ([(b0,⟨16,[aV a (.sl false 1 (a.load.map aR))]⟩),(b0+1,⟨6,[[.int .u8 0,.str [],.str [],.nils,.str [],.int .i64 0]]⟩),(b0+2,⟨3,L14.map bf⟩)]) [some b0,some (b0+1),some (b0+2)] ?_ ?_ ?_;(focus (show b0<=_;omega));(focus (refine⟨?_,?_⟩<;>(try simp only[aE,cL,h14,hr,aQ,aV,ab,ad,al,az,Nat.le_refl,or_true,Lm,aj,ai,aq,seval])<;>(try omega))))
   case' true =>
    rw[hr]at h14
    simp only[cond_true]at h14
    repeat' first|simp only[au,ap,zF,am,hr,aQ,aV,ab,ad,aj,ai,seval]|exact rfl|refine aa (v:=.any) ?_|refine ag (ps:=[(3,5),(3,8),(6,8)]) (by decide +kernel) (by simp only[List.forall_mem_cons,List.getD_cons_zero,List.getD_cons_succ,zF,am,hr,aQ,aV,ab,ad,aj,ai,seval]<;>(try simp)<;>(try omega)) ?_|refine ag (ps:=[(3,6),(4,6)]) (by decide +kernel) (by simp only[List.forall_mem_cons,List.getD_cons_zero,List.getD_cons_succ,zF,am,hr,aQ,aV,ab,ad,aj,ai,seval]<;>(try simp)<;>(try omega)) ?_|refine ag (ps:=[(3,6)]) (by decide +kernel) (by simp only[List.forall_mem_cons,List.getD_cons_zero,List.getD_cons_succ,zF,am,hr,aQ,aV,ab,ad,aj,ai,seval]<;>(try simp)<;>(try omega)) ?_|refine ag (ps:=[(3,5)]) (by decide +kernel) (by simp only[List.forall_mem_cons,List.getD_cons_zero,List.getD_cons_succ,zF,am,hr,aQ,aV,ab,ad,aj,ai,seval]<;>(try simp)<;>(try omega)) ?_|refine av (by decide +kernel) ?_|((first|apply Ca|apply Cb)<;>intro hb)|refine Ai (by omega) ?_|(apply Ai<;>intro hb)
    refine aB ?_ [b0+2] (eY L13 [117,114,110,58,120,109,112,112,58,120,98,111,115,104] [114,101,115,116,97,114,116] [116,114,117,101] (b0+2) _ _ ?_ aN (by omega) (by omega)) ?_ ?_
    ·simp only[aj,ai,seval]
    ·simp only[ap,aH,aO,aj,ai,seval]
    ·simp only[ap,aH,aO,Lk,Ln,or_false,true_or,or_true,forall_eq,forall_eq_or_imp,and_true,aA,aj,ai,seval]
    repeat' first|simp only[au,ap,zF,am,<- h14,aQ,aV,ab,ad,aj,ai,seval]|exact rfl|refine aa (v:=.any) ?_|refine ag (ps:=[(3,5),(3,8),(6,8)]) (by decide +kernel) (by simp only[List.forall_mem_cons,List.getD_cons_zero,List.getD_cons_succ,zF,am,<- h14,aQ,aV,ab,ad,aj,ai,seval]<;>(try simp)<;>(try omega)) ?_|refine ag (ps:=[(3,6),(4,6)]) (by decide +kernel) (by simp only[List.forall_mem_cons,List.getD_cons_zero,List.getD_cons_succ,zF,am,<- h14,aQ,aV,ab,ad,aj,ai,seval]<;>(try simp)<;>(try omega)) ?_|refine ag (ps:=[(3,6)]) (by decide +kernel) (by simp only[List.forall_mem_cons,List.getD_cons_zero,List.getD_cons_succ,zF,am,<- h14,aQ,aV,ab,ad,aj,ai,seval]<;>(try simp)<;>(try omega)) ?_|refine ag (ps:=[(3,5)]) (by decide +kernel) (by simp only[List.forall_mem_cons,List.getD_cons_zero,List.getD_cons_succ,zF,am,<- h14,aQ,aV,ab,ad,aj,ai,seval]<;>(try simp)<;>(try omega)) ?_|refine av (by decide +kernel) ?_|((first|apply Ca|apply Cb)<;>intro hb)|refine Ai (by omega) ?_|(apply Ai<;>intro hb)
    (refine aY jI (b0+16) ([(1,.ptr b0 0 0),(2,.ptr (b0+1) 0 0),(3,.own (b0+2) 0 L14.length)]) ([(b0,⟨16,[aV a (.sl false 1 (a.load.map aR))]⟩),(b0+1,⟨6,[[.int .u8 0,.str [],.str [],.nils,.str [],.int .i64 0]]⟩),(b0+2,⟨3,L14.map bf⟩)]) [some b0,some (b0+1),some (b0+64)] ?_ ?_ ?_;(focus (show b0<=_;omega));(focus (refine⟨?_,?_⟩<;>(try simp only[aE,cL,hr,aQ,aV,ab,ad,al,az,Nat.le_refl,or_true,Lm,aj,ai,aq,seval])<;>(try omega))))
   all_goals
    have htk:(L14.map bf).take L14.length=L14.map bf:=ba _ _
    (repeat' first|simp only[au,ap,zF,am,htk,aD,aV,ab,ad,List.drop_zero,Lm,aj,ai,seval]|exact rfl|refine aa (v:=.any) ?_|refine ee ?_|refine ag (ps:=[(3,5),(3,8),(6,8)]) (by decide +kernel) (by simp only[List.forall_mem_cons,List.getD_cons_zero,List.getD_cons_succ,zF,am,htk,aD,aV,ab,ad,List.drop_zero,Lm,aj,ai,seval]<;>(try simp)<;>(try omega)) ?_|refine ag (ps:=[(3,6),(4,6)]) (by decide +kernel) (by simp only[List.forall_mem_cons,List.getD_cons_zero,List.getD_cons_succ,zF,am,htk,aD,aV,ab,ad,List.drop_zero,Lm,aj,ai,seval]<;>(try simp)<;>(try omega)) ?_|refine ag (ps:=[(3,6)]) (by decide +kernel) (by simp only[List.forall_mem_cons,List.getD_cons_zero,List.getD_cons_succ,zF,am,htk,aD,aV,ab,ad,List.drop_zero,Lm,aj,ai,seval]<;>(try simp)<;>(try omega)) ?_|refine ag (ps:=[(3,5)]) (by decide +kernel) (by simp only[List.forall_mem_cons,List.getD_cons_zero,List.getD_cons_succ,zF,am,htk,aD,aV,ab,ad,List.drop_zero,Lm,aj,ai,seval]<;>(try simp)<;>(try omega)) ?_|refine av (by decide +kernel) ?_|((first|apply Ca|apply Cb)<;>intro hb)|refine Ai (by omega) ?_|(apply Ai<;>intro hb)|apply Fin.pure|simp only[aq])
def rO {n:Int}(h:fy n=false):n<=9007199254740991:=by
 unfold fy at h
 simp only[Bool.or_eq_false_iff,decide_eq_false_iff_not]at h
 omega
def JS {a:Ak}(h:uj a=true):a.low/\a.load.length<=16:=by
 unfold uj at h
 simp only[Bool.and_eq_true,decide_eq_true_eq]at h
 obtain⟨⟨⟨⟨⟨⟨h1,h2⟩,h3⟩,_⟩,_⟩,h6⟩,_⟩:=h
 unfold FC at h2
 simp only[List.any_cons,List.any_nil,Bool.or_false,Bool.not_eq_true',Bool.or_eq_false_iff]at h2
 obtain⟨n1,n2,n3,n4,n5⟩:=h2
 have hv:a.great<=9007199254740991/\a.small<=9007199254740991:=by
  rw[Cv]at h3
  simp only[Bool.or_eq_true,Bool.and_eq_true,beq_iff_eq,decide_eq_true_eq]at h3
  omega
 exact⟨⟨h1,rO n1,rO n2,rO n3,rO n4,rO n5,hv.1,hv.2⟩,h6⟩
def Ep (a:Ak)(h:a.ok)(hf:a.fit)(nm:Nat):Ev cx 7 nm [.agg (aQ a)] ao.nil (.tup [.str (oQ a).1,.int .i64 (oQ a).2]) []:=by
 have hm:=Eo a h (fun v hv=>by have:=(hf.l2 v hv).1;omega)
 cases hmay:uj a with
 | false =>
  have hp:oQ a=([],8):=by unfold oQ;rw[hmay];rfl
  rw[hp]
  rw[hmay]at hm
  simp only
  refine aX call7 func7 ?_;intro b0 hb0
  (repeat' first|simp only[au,ap,results7,ntmps7,am,be,bX,bW,Bf,Lm,aj,ai,seval]|exact rfl|refine aa (v:=.any) ?_|(first|(refine ah ?_ (hm _) ?_)|(refine ac ?_ (fun _=>hm _) ?_))|refine ag (ps:=[(1,3)]) (by decide +kernel) (by simp only[List.forall_mem_cons,List.getD_cons_zero,List.getD_cons_succ,results7,ntmps7,am,be,bX,bW,Bf,Lm,aj,ai,seval]<;>(try simp)<;>(try omega)) ?_|refine av (by decide +kernel) ?_|((first|apply Ca|apply Cb)<;>intro hb)|refine Ai (by omega) ?_|(apply Ai<;>intro hb)|apply Fin.pure|simp only[aq])
 | true =>
  rw[hmay]at hm
  obtain⟨hlow,h16⟩:=JS hmay
  have hpe:oQ a=if ck (dM a) a.load≠0 then ([],ck (dM a) a.load) else eR (ef (dM a) a.load) []:=by unfold oQ;rw[if_pos hmay]
  rw[hpe]
  clear hpe
  have he:=CZ a hlow
  have hal:=qW a 14
  rw[BL]at hal
  have hput:=KD (dM a) a.load (cW (pu hf) (by decide)) (by omega) h16 (fun v hv=>⟨by have:=(hf.l2 v hv).1;omega,fun x hx=>cW ((hf.l2 v hv).2 x hx).1 (by decide)⟩)
  have htr:=vf hf
  have hwr:=Ba (ef (dM a) a.load) [] (by have:=htr.1;omega) (fun n hn=>⟨cW (htr.2 n hn).1 (by decide),(htr.2 n hn).2⟩) (by simp)
  have hnp:plainL (aD (dM a))=true:=by simp[aD,plainL,V.plain,ab]
  have hd15:(aQ a).drop 15=[.sl false 1 (a.load.map aR)]:=rfl
  generalize ef (dM a) a.load=TR at hput hwr htr ⊢
  generalize ck (dM a) a.load=E at hput ⊢
  generalize aD (dM a)=EN at he hput hnp
  by_cases hE:E=0
  ·subst hE
   rw[if_neg (by simp)]
   refine aX call7 func7 ?_;intro b0 hb0
   (repeat' first|simp only[au,ap,results7,ntmps7,am,hd15,hnp,be,bX,bW,ae,ad,Bt,Lm,aj,ai,seval]|exact rfl|refine aa (v:=.any) ?_|(first|(refine ah ?_ (hm _) ?_)|(refine ac ?_ (fun _=>hm _) ?_)|(refine ah ?_ (he _) ?_)|(refine ac ?_ (fun _=>he _) ?_)|(refine ah ?_ (hput _) ?_)|(refine ac ?_ (fun _=>hput _) ?_)|(refine ah ?_ (hwr _) ?_)|(refine ac ?_ (fun _=>hwr _) ?_))|refine ag (ps:=[(1,3)]) (by decide +kernel) (by simp only[List.forall_mem_cons,List.getD_cons_zero,List.getD_cons_succ,results7,ntmps7,am,hd15,hnp,be,bX,bW,ae,ad,Bt,Lm,aj,ai,seval]<;>(try simp)<;>(try omega)) ?_|refine av (by decide +kernel) ?_|((first|apply Ca|apply Cb)<;>intro hb)|refine Ai (by omega) ?_|(apply Ai<;>intro hb)|apply Fin.pure|simp only[aq])
  ·have q:(E != 0)=true:=by simpa using hE
   rw[if_pos hE]
   refine aX call7 func7 ?_;intro b0 hb0
   (repeat' first|simp only[au,ap,results7,ntmps7,am,q,hd15,hnp,be,bX,bW,ae,ad,Bt,Lm,aj,ai,seval]|exact rfl|refine aa (v:=.any) ?_|(first|(refine ah ?_ (hm _) ?_)|(refine ac ?_ (fun _=>hm _) ?_)|(refine ah ?_ (he _) ?_)|(refine ac ?_ (fun _=>he _) ?_)|(refine ah ?_ (hput _) ?_)|(refine ac ?_ (fun _=>hput _) ?_))|refine ag (ps:=[(1,3)]) (by decide +kernel) (by simp only[List.forall_mem_cons,List.getD_cons_zero,List.getD_cons_succ,results7,ntmps7,am,q,hd15,hnp,be,bX,bW,ae,ad,Bt,Lm,aj,ai,seval]<;>(try simp)<;>(try omega)) ?_|refine av (by decide +kernel) ?_|((first|apply Ca|apply Cb)<;>intro hb)|refine Ai (by omega) ?_|(apply Ai<;>intro hb)|apply Fin.pure|simp only[aq])
def Ee {n:Nat}{vs:List V}(h:Shape cx.P n 22 vs):∃ l:List (List Nd),vs=[.sl false 1 (l.map aR)]/\l.length<=aT /\ ∀ v∈l,v.length<=aT /\ ∀ x∈v,x.okTo aT/\x.i64:=by
 obtain⟨_,rs,rfl,l1,m1,g1⟩:=l5 JA h
 obtain⟨x1,rfl,f1⟩:=oV aR (fun v=>v.length<=aT /\ ∀ x∈v,x.okTo aT/\x.i64) (fun r hr=>by
  obtain⟨l,e,hl,hs⟩:=DX (g1 r hr)
  exact⟨l,e,hl,hs⟩)
 rw[Lm]at m1
 exact⟨x1,rfl,by unfold aT;omega,f1⟩
def xj {n:Nat}{vs:List V}(h:Shape cx.P n 24 vs):∃ a:Ak,vs=aQ a/\a.ok:=by
 obtain⟨n',g⟩:=kL wA h
 obtain⟨_,_,rfl,h1,_,_,rfl,h2,_,_,rfl,h3,_,_,rfl,h4,_,_,rfl,h5,_,_,rfl,h6,_,_,rfl,h7,_,_,rfl,h8,g2⟩:=g
 obtain⟨_,_,rfl,h9,_,_,rfl,h10,_,_,rfl,h11,_,_,rfl,h12,_,_,rfl,h13,_,_,rfl,h14,_,_,rfl,h15,_,_,rfl,h16,g3⟩:=g2
 obtain⟨a1,rfl,r1⟩:=eX lO h1
 obtain⟨a2,rfl,r2⟩:=dx ij h2
 obtain⟨a3,rfl,r3⟩:=dx ij h3
 obtain⟨a4,rfl,r4⟩:=dx ij h4
 obtain⟨a5,rfl,r5⟩:=dx ij h5
 obtain⟨a6,rfl,r6⟩:=eX lO h6
 obtain⟨a7,rfl,r7⟩:=eX lO h7
 obtain⟨a8,rfl,r8⟩:=eX lO h8
 obtain⟨a9,rfl,r9⟩:=eX lO h9
 obtain⟨a10,rfl,r10⟩:=eX lO h10
 obtain⟨a11,rfl,r11⟩:=eX lO h11
 obtain⟨a12,rfl,r12⟩:=dx ij h12
 obtain⟨a13,rfl,r13⟩:=dx ij h13
 obtain⟨a14,rfl⟩:=th Gy h14
 obtain⟨a15,rfl⟩:=th Gy h15
 obtain⟨l,rfl,hl,hs⟩:=Ee h16
 obtain rfl:=nL g3
 exact⟨⟨a1,a2,a3,a4,a5,a6,a7,a8,a9,a10,a11,a12,a13,a14,a15,l⟩,rfl,⟨Nat.le_trans r2 (by decide),Nat.le_trans r3 (by decide),Nat.le_trans r4 (by decide),Nat.le_trans r5 (by decide),Nat.le_trans r12 (by decide),Nat.le_trans r13 (by decide),r1,r6,r7,r8,r9,r10,r11,hl,hs⟩⟩
def Mt {a:Ak}(h:a.ok)(hg:kp a=false):a.fit:=by
 unfold kp at hg
 simp only[Bool.or_eq_false_iff,decide_eq_false_iff_not]at hg
 obtain⟨⟨⟨⟨⟨g1,g2⟩,g3⟩,g4⟩,g5⟩,_⟩:=hg
 exact⟨by omega,by omega,by omega,by omega,by omega,by omega,by omega,fun v hv=>by
  have hb:gB v=false:=by simpa using List.any_eq_false.1 g5 v hv
  obtain⟨m1,m2⟩:=jw (by omega) (by omega) hb
  exact⟨m1,fun n hn=>⟨(m2 n hn).2.1,((h.l2 v hv).2 n hn).2,(m2 n hn).1⟩⟩⟩
def jg (a:Ak):(aQ a).take 16=aQ a:=rfl
def Eu (a:Ak):qy a a=true:=by simp[qy]
def uu (a b:Ak)(ha:a.ok)(hb:b.ok)(nm:Nat):Ev cx 3 nm [.agg (aQ a),.agg (aQ b)] ao.nil (.bool true) []:=by
 have hg1:=sA a ha
 cases ga:kp a with
 | true =>
  rw[ga]at hg1
  refine aX call3 func3 ?_;intro b0 hb0;have zF:=Ai results3 ntmps3
  (repeat' first|simp only[au,ap,zF,am,bF,be,bX,bW,jg,aj,ai,seval]|exact rfl|refine aa (v:=.any) ?_|(first|(refine ah ?_ (hg1 _) ?_)|(refine ac ?_ (fun _=>hg1 _) ?_))|(refine aa (v:=.any) ?_)|refine ag (ps:=[(1,7),(1,8)]) (by decide +kernel) (by simp only[List.forall_mem_cons,List.getD_cons_zero,List.getD_cons_succ,zF,am,bF,be,bX,bW,jg,aj,ai,seval]<;>(try simp)<;>(try omega)) ?_|refine ag (ps:=[(11,12),(11,13)]) (by decide +kernel) (by simp only[List.forall_mem_cons,List.getD_cons_zero,List.getD_cons_succ,zF,am,bF,be,bX,bW,jg,aj,ai,seval]<;>(try simp)<;>(try omega)) ?_|refine av (by decide +kernel) ?_|((first|apply Ca|apply Cb)<;>intro hb)|refine Ai (by omega) ?_|(apply Ai<;>intro hb)|apply Fin.pure|simp only[aq])
 | false =>
  rw[ga]at hg1
  have hg2:=sA b hb
  cases gb:kp b with
  | true =>
   rw[gb]at hg2
   refine aX call3 func3 ?_;intro b0 hb0;have zF:=Ai results3 ntmps3
   (repeat' first|simp only[zF,am,be,bX,bW,jg,Bool.false_or,aj,ai,seval]|exact rfl|((first|(refine ah ?_ (hg1 _) ?_)|(refine ac ?_ (fun _=>hg1 _) ?_));(focus (simp only[zF,am,be,bX,bW,jg,Bool.false_or,aj,ai,seval]<;>exact rfl)))|((first|(refine ah ?_ (hg2 _) ?_)|(refine ac ?_ (fun _=>hg2 _) ?_));(focus (simp only[zF,am,be,bX,bW,jg,Bool.false_or,aj,ai,seval]<;>exact rfl)))|refine ag (ps:=[(1,7),(1,8)]) (by decide +kernel) (by simp only[List.forall_mem_cons,List.getD_cons_zero,List.getD_cons_succ,zF,am,be,bX,bW,jg,Bool.false_or,aj,ai,seval]<;>(try simp)<;>(try omega)) ?_|refine ag (ps:=[(11,12),(11,13)]) (by decide +kernel) (by simp only[List.forall_mem_cons,List.getD_cons_zero,List.getD_cons_succ,zF,am,be,bX,bW,jg,Bool.false_or,aj,ai,seval]<;>(try simp)<;>(try omega)) ?_|refine av (by decide +kernel) ?_|((first|apply Ca|apply Cb)<;>intro hb)|refine Ai (by omega) ?_|(apply Ai<;>intro hb)|apply Fin.pure|simp only[aq])
  | false =>
   rw[gb]at hg2
   have fa:=Mt ha ga
   have hw:=K5 a ha fa
   have hr:=Ep a ha fa
   have s1:=zp a b ha hb
   have s2:=zp a a ha ha
   have s3:=sV a b ha hb
   have s4:=sV a a ha ha
   rw[Eu]at s2 s4
   have hl20:=fa.l1
   generalize (oQ a).1=x at hw hr
   generalize (oQ a).2=e at hw hr
   generalize qy a b=S at s1 s3
   have q1:(e==e)=true:=by simp
   have q2:(x==x)=true:=by simp
   have q3:(S==S)=true:=by simp
   have hz:a.load.take 0=[]:=rfl
   refine aX call3 func3 ?_;intro b0 hb0;have zF:=Ai results3 ntmps3
   repeat' first|simp only[zF,am,aQ,aV,ad,Bool.false_or,aj,ai,seval]|exact rfl|((first|(refine ah ?_ (hg1 _) ?_)|(refine ac ?_ (fun _=>hg1 _) ?_));(focus (simp only[zF,am,aQ,aV,ad,Bool.false_or,aj,ai,seval]<;>exact rfl)))|((first|(refine ah ?_ (hg2 _) ?_)|(refine ac ?_ (fun _=>hg2 _) ?_));(focus (simp only[zF,am,aQ,aV,ad,Bool.false_or,aj,ai,seval]<;>exact rfl)))|refine ag (ps:=[(1,7),(1,8)]) (by decide +kernel) (by simp only[List.forall_mem_cons,List.getD_cons_zero,List.getD_cons_succ,zF,am,aQ,aV,ad,Bool.false_or,aj,ai,seval]<;>(try simp)<;>(try omega)) ?_|refine ag (ps:=[(11,12),(11,13)]) (by decide +kernel) (by simp only[List.forall_mem_cons,List.getD_cons_zero,List.getD_cons_succ,zF,am,aQ,aV,ad,Bool.false_or,aj,ai,seval]<;>(try simp)<;>(try omega)) ?_|refine av (by decide +kernel) ?_|((first|apply Ca|apply Cb)<;>intro hb)|refine Ai (by omega) ?_|(apply Ai<;>intro hb)
   (refine ew (fun x:Nat=>a.load.length-x) (fun x=>x<=a.load.length) (b0+16) (fun x=>[(2,.ptr b0 0 0),(3,.ptr (b0+1) 0 0),(5,.ptr (b0+2) 0 0),(6,.int .i64 x)]) (fun x=>[(b0,⟨16,[aV a (.sl false 1 (a.load.map aR))]⟩),(b0+1,⟨16,[aV b (.sl false 1 (b.load.map aR))]⟩),(b0+2,⟨16,[aV a (.own (b0+3) 0 x)]⟩),(b0+3,⟨1,(a.load.take x).map aR⟩)]) (0) [some b0,some (b0+16),some (b0+160),none] ?_ ?_ ?_;(focus (refine⟨?_,?_⟩<;>(try simp only[aE,hz,Lo,az,aQ,aV,ad,al,Lm,aj,ai,aq,seval])<;>(try omega))))
   ·exact Nat.zero_le _
   ·intro k hk
    by_cases hlt:k<a.load.length
    ·obtain⟨v,hv⟩:=ic hlt
     have hvm:=List.mem_of_getElem? hv
     have hat:=lW hv
     have d1:=sC k a.load.length
     have d2:=decide_eq_true hlt
     have hki:=jB k a.load.length
     have hwk:=eD k
     have htw:=y4 v (by have:=(fa.l2 v hvm).1;omega) (fun n hn=>by have:=((fa.l2 v hvm).2 n hn).2.2;omega)
     have hrows:(a.load.take k).map aR++[[.sl false 6 (v.map aD)]]=(a.load.take (k+1)).map aR:=by
      obtain⟨hk2,rfl⟩:=List.getElem?_eq_some_iff.1 hv
      rw[List.take_succ_eq_append_getElem hk2,List.map_append];rfl
     have hlk:(a.load.take k).length=k:=by rw[List.length_take];omega
     have htk:((a.load.take k).map aR).take k=(a.load.take k).map aR:=List.take_of_length_le (by rw[Lm,hlk];omega)
     have f1:k+1<=9223372036854775807:=by omega
     have f2:(k+1)*24<=140737488355328:=by omega
     repeat' first|simp only[au,ap,zF,am,hat,aR,hlt,hki,d1,d2,hwk,htk,hlk,hrows,f1,f2,ae,aQ,aV,ad,al,Lm,aj,ai,seval]|exact rfl|refine aa (v:=.any) ?_|(first|(refine ah ?_ (htw _) ?_)|(refine ac ?_ (fun _=>htw _) ?_))|refine ag (ps:=[(1,7),(1,8)]) (by decide +kernel) (by simp only[List.forall_mem_cons,List.getD_cons_zero,List.getD_cons_succ,zF,am,hat,aR,hlt,hki,d1,d2,hwk,htk,hlk,hrows,f1,f2,ae,aQ,aV,ad,al,Lm,aj,ai,seval]<;>(try simp)<;>(try omega)) ?_|refine ag (ps:=[(11,12),(11,13)]) (by decide +kernel) (by simp only[List.forall_mem_cons,List.getD_cons_zero,List.getD_cons_succ,zF,am,hat,aR,hlt,hki,d1,d2,hwk,htk,hlk,hrows,f1,f2,ae,aQ,aV,ad,al,Lm,aj,ai,seval]<;>(try simp)<;>(try omega)) ?_|refine av (by decide +kernel) ?_|((first|apply Ca|apply Cb)<;>intro hb)|refine Ai (by omega) ?_|(apply Ai<;>intro hb)
     all_goals ((refine de (k+1) [some b0,some (b0+1),some (b0+2),some (b0+240)] ?_ ?_ ?_;(focus (refine⟨?_,?_⟩<;>(try simp only[aE,hwk,hrows,az,aQ,aV,ad,al,Lm,aj,ai,aq,seval])<;>(try omega)))))
     all_goals (first|(show a.load.length-(k+1)<a.load.length-k;omega)|exact hlt|skip)
    ·have hke:k=a.load.length:=by omega
     subst hke
     have d1:=nu a.load.length a.load.length
     have d2:decide (a.load.length<a.load.length)=false:=bi
     have htl:a.load.take a.load.length=a.load:=List.take_length
     have htk:(a.load.map aR).take a.load.length=a.load.map aR:=List.take_of_length_le (by simp)
     unfold aQ aV at hw hr s1 s2 s3 s4
     (repeat' first|simp only[zF,am,d1,d2,htl,htk,q1,q2,q3,Bool.and_self,Bool.and_true,Bool.true_and,aQ,aV,ad,al,Lm,aj,ai,seval]|exact rfl|((first|(refine ah ?_ (hr _) ?_)|(refine ac ?_ (fun _=>hr _) ?_)|(refine ah ?_ (s3 _) ?_)|(refine ac ?_ (fun _=>s3 _) ?_));(focus (simp only[zF,am,d1,d2,htl,htk,q1,q2,q3,Bool.and_self,Bool.and_true,Bool.true_and,aQ,aV,ad,al,Lm,aj,ai,seval]<;>exact rfl)))|((first|(refine bg (xs:=?_) [b0+3] ?_ ?_ ?_ rfl (hw _) ?_)|(refine cX (xs:=?_) [b0+3] ?_ (fun _=>?_) (fun _=>?_) rfl ((fun _=>s1 _)) ?_));rotate_left 1;iterate 3 (focus (simp only[au,ap,zF,am,d1,d2,htl,htk,q1,q2,q3,Bool.and_self,Bool.and_true,Bool.true_and,aQ,aV,ad,al,Lm,aj,ai,seval]<;>(first|exact rfl|omega))))|((refine cX (xs:=?_) [b0+3] ?_ (fun _=>?_) (fun _=>?_) rfl ((fun _=>s2 _)) ?_);rotate_left 1;iterate 3 (focus (simp only[au,ap,zF,am,d1,d2,htl,htk,q1,q2,q3,Bool.and_self,Bool.and_true,Bool.true_and,aQ,aV,ad,al,Lm,aj,ai,seval]<;>(first|exact rfl|omega))))|((refine cX (xs:=?_) [b0+3] ?_ (fun _=>?_) (fun _=>?_) rfl ((fun _=>s4 _)) ?_);rotate_left 1;iterate 3 (focus (simp only[au,ap,zF,am,d1,d2,htl,htk,q1,q2,q3,Bool.and_self,Bool.and_true,Bool.true_and,aQ,aV,ad,al,Lm,aj,ai,seval]<;>(first|exact rfl|omega))))|refine ag (ps:=[(1,7),(1,8)]) (by decide +kernel) (by simp only[List.forall_mem_cons,List.getD_cons_zero,List.getD_cons_succ,zF,am,d1,d2,htl,htk,q1,q2,q3,Bool.and_self,Bool.and_true,Bool.true_and,aQ,aV,ad,al,Lm,aj,ai,seval]<;>(try simp)<;>(try omega)) ?_|refine ag (ps:=[(11,12),(11,13)]) (by decide +kernel) (by simp only[List.forall_mem_cons,List.getD_cons_zero,List.getD_cons_succ,zF,am,d1,d2,htl,htk,q1,q2,q3,Bool.and_self,Bool.and_true,Bool.true_and,aQ,aV,ad,al,Lm,aj,ai,seval]<;>(try simp)<;>(try omega)) ?_|refine av (by decide +kernel) ?_|((first|apply Ca|apply Cb)<;>intro hb)|refine Ai (by omega) ?_|(apply Ai<;>intro hb)|apply Fin.pure|simp only[aq])
def ut (xs:List V)(h:jD cx.P Tryz.f3.params.toList xs):Ev cx 3 0 xs ao.nil (.bool true) []:=by
 rw[Tryz.params3]at h
 obtain⟨_,v1,_,rfl,h1,_,v2,_,rfl,h2,h3⟩:=h
 obtain rfl:=Fe h3
 obtain⟨a,rfl,ha⟩:=xj h1
 obtain⟨b,rfl,hb⟩:=xj h2
 rw[qd wA,qd wA]
 exact uu a b ha hb 0
end Go.Proofs.YtjonibipieofcaaGreatDoor
