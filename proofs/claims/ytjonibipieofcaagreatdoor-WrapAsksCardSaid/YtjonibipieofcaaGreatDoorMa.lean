/-
 Texts joined: XLs,XLg,XLh,XLp,XLl.
-/
import Derived.Test.YtjonibipieofcaaGreatDoorQn
set_option linter.all false
namespace Go.Proofs.YtjonibipieofcaaGreatDoor
set_option maxRecDepth 100000
set_option maxHeartbeats 32000000
open Go Go.RowKit Vm Go.Lib Tryz
open Vm renaming aI->Ca,aP->Cb
open And renaming intro->Ai
open List renaming length_map->Lm,not_mem_nil->Ln,map_nil->Lo,map_cons->Lc,mem_cons->Lk
open Bool renaming not_false->Bf,not_true->Bt
def AE {s:List UInt8}(h:(dp s).isSome=true)(hl:s.length<=16384):aF s=0:=fE.2 ⟨hl,h⟩
def Eh {s:List UInt8}(q:Bool)(h:(dp s).isSome=true)(hl:s.length<=1027):sU q s=0/\wJ q s=bI q s:=by
 have hw:=bG q s
 have h0:sU q s=0:=by
  unfold sU
  rw[if_neg (fun e=>e (AE h (by omega))),if_neg (by omega)]
 exact⟨h0,by unfold wJ;rw[if_pos h0]⟩
def uq {q:Bool}{d r:List UInt8}(n:Nat):bI q (d++r.take n)=bI q d++bI q (r.take n):=xS q d _
def xC (c:UInt8):(IntKind.u8.wrap ((BitVec.ofInt IntKind.u8.bits (c.toNat:Int) &&& BitVec.ofInt IntKind.u8.bits 192).toNat:Int)==128)=nX c:=by
 have:∀ n:Fin 256,(IntKind.u8.wrap ((BitVec.ofInt IntKind.u8.bits (n.val:Int) &&& BitVec.ofInt IntKind.u8.bits 192).toNat:Int)==128)=(decide (128<=n.val)&&decide (n.val<192)):=by decide +kernel
 exact this ⟨c.toNat,c.toNat_lt⟩
def Lq {r:List UInt8}{n:Nat}(h:n<r.length):∃ b,r[n]? = some b:=⟨_,List.getElem?_eq_getElem h⟩
def wC (s:List UInt8)(q:Bool)(hd:(dp s).isSome=true)(hs:s.length<=1000000)(nm:Nat):Ev cx 160 nm [.str s,.bool q] ao.nil (.str (bI q s)) []:=by
  refine aX call160 func160 ?_;intro b0 hb0
  refine wR (a2 results160 ntmps160) trivial ?_
  (refine ew (fun x:List UInt8×List UInt8=>x.2.length) (fun x=>s=x.1++x.2/\(dp x.2).isSome=true) (b0+16) (fun x=>[(0,.str x.2),(1,.bool q),(5,.ptr b0 0 0)]) (fun x=>[(b0,bS false b0 (b0+1) (bI q x.1)),(b0+1,rK (bI q x.1))]) (([],s)) [some (b0+16),none] ?_ ?_ ?_;(focus (refine⟨?_,?_⟩<;>(try simp only[aE,zL,sd,A2,A3,jr,fP,im,eg,lV,aj,ai,aq,seval])<;>(try omega))))
  · exact⟨rfl,hd⟩
  · rintro ⟨d,r⟩ ⟨hsr,hr⟩
    simp only at hsr hr
    have hlen:d.length+r.length<=1000000:=by rw[hsr]at hs;simpa using hs
    have hwd:=bG q d
    by_cases hne:r=[]
    · subst hne
      have e0:(([]:List UInt8)==[])=true:=rfl
      have e1:d=s:=by rw[hsr];simp
      subst e1
      have hll:(bI q d).length<=aT:=by unfold aT;omega
      (repeat' first|simp only[au,ap,results160,ntmps160,am,e0,aj,ai,seval]|exact rfl|refine aa (v:=.any) ?_|(refine aB ?_ [b0,b0+1] (nQ false b0 (b0+1) (bI q d) _ _ hll (by omega) ?_ ?_ aN (by omega) (by omega)) ?_ ?_)|((first|apply Ca|apply Cb)<;>intro hb)|refine Ai (by omega) ?_|(apply Ai<;>intro hb)|apply Fin.pure|simp only[aq])
    · have e0:(r==[])=false:=beq_false_of_ne hne
      have hrl:0<r.length:=List.length_pos_iff.2 hne
      obtain⟨j,j1,j2,j3,j4⟩:=ER hr (k:=min r.length 1024) (by omega)
      have hmin:min (r.length:Int) 1024=((min r.length 1024:Nat):Int):=by omega
      generalize hk0:min r.length 1024=k0 at *
      refine wR (a4 results160 ntmps160 e0 hmin) trivial ?_
      (refine ew (fun x:Nat=>j-x) (fun x=>k0<=x/\x<=j) (b0+16) (fun x=>[(0,.str r),(1,.bool q),(5,.ptr b0 0 0),(6,.int .i64 x)]) (fun x=>[(b0,bS false b0 (b0+1) (bI q d)),(b0+1,rK (bI q d))]) (k0) [some b0,some (b0+1)] ?_ ?_ ?_;(focus (refine⟨?_,?_⟩<;>(try simp only[aE,kE,gh,im,eg,Option.getD_some,Option.isSome_some,aj,ai,aq,seval])<;>(try omega))))
      · exact⟨Nat.le_refl _,j1⟩
      · rintro n ⟨hn1,hn2⟩
        have hnr:n<=r.length:=by omega
        by_cases hgo:n<r.length /\ ∀ b,r[n]? = some b->nX b=true
        · obtain⟨hlt,hcb⟩:=hgo
          obtain⟨b,hb⟩:=Lq hlt
          have hc:=hcb b hb
          have hca:=xC b
          rw[hc]at hca
          have hnj:n≠j:=fun e=>by
            subst e
            have:=j4 b hb
            rw[hc]at this;cases this
          have hd1:decide (n<r.length)=true:=decide_eq_true hlt
          have hwk:=eD n
          refine wR (a7 results160 ntmps160 hb hd1 hlt hca hwk) trivial ?_
          all_goals ((refine de (n+1) [some b0,some (b0+1)] ?_ ?_ ?_;(focus (refine⟨?_,?_⟩<;>(try simp only[aE,kE,gh,im,eg,hwk,Option.getD_some,Option.isSome_some,aj,ai,aq,seval])<;>(try omega)))))
          all_goals (first|(show j-(n+1)<j-n;omega)|(show k0<=n+1/\n+1<=j;omega)|skip)
        · have hstop:∀ b,r[n]? = some b->nX b=false:=by
            intro b hb
            cases hc:nX b with
            | false=>rfl
            | true=>exact absurd ⟨(List.getElem?_eq_some_iff.1 hb).1,fun b' hb'=>by rw[hb]at hb';cases hb';exact hc⟩ hgo
          obtain⟨hc1,hc2⟩:=HX hr hnr hstop
          have hn27:n<=1027:=by omega
          have htl:(r.take n).length=n:=by rw[List.length_take];omega
          obtain⟨hp1,hp2⟩:=Eh q hc1 (by omega)
          have hput:=I7 (r.take n) q (by unfold aT;omega)
          rw[hp1,hp2]at hput
          have hw2:=bG q (r.take n)
          have hne2:bI q (r.take n)≠[]:=by
            intro e
            have:=congrArg List.length e
            simp only[List.length_nil]at this
            omega
          have hll:(bI q d).length+(bI q (r.take n)).length<=aT:=by unfold aT;omega
          have hint:(n:Int)<=(r.length:Int):=by omega
          have hx:bI q d++bI q (r.take n)=bI q (d++r.take n):=(uq n).symm
          have hdl:(r.drop n).length=r.length-n:=by simp
          by_cases hlt:n<r.length
          · obtain⟨b,hb⟩:=Lq hlt
            have hca:=xC b
            rw[hstop b hb]at hca
            have hd1:=decide_eq_true hlt
            repeat' first|simp only[au,ap,results160,ntmps160,am,hb,hd1,hlt,hca,hnr,hint,aA,List.take_zero,aj,ai,seval]|exact rfl|refine aa (v:=.any) ?_|(first|(refine ah ?_ (hput _) ?_)|(refine ac ?_ (fun _=>hput _) ?_))|(refine aB ?_ [b0,b0+1] (mG false b0 (b0+1) (bI q d) _ _ (bI q (r.take n)) hne2 hll (by omega) ?_ ?_ aN (by omega) (by omega)) ?_ ?_)|((first|apply Ca|apply Cb)<;>intro hb)|refine Ai (by omega) ?_|(apply Ai<;>intro hb)
            all_goals ((refine de ((d++r.take n,r.drop n)) [some b0,some (b0+368)] ?_ ?_ ?_;(focus (refine⟨?_,?_⟩<;>(try simp only[aE,kE,gh,im,eg,hx,Option.getD_some,Option.isSome_some,aj,ai,aq,seval])<;>(try omega)))))
            all_goals (first|(show(r.drop n).length<r.length;omega)|(refine⟨?_,hc2⟩;rw[hsr,List.append_assoc,List.take_append_drop])|skip)
          · have hd1:decide (n<r.length)=false:=decide_eq_false hlt
            repeat' first|simp only[au,ap,results160,ntmps160,am,hd1,hlt,hnr,hint,aA,List.take_zero,aj,ai,seval]|exact rfl|refine aa (v:=.any) ?_|(first|(refine ah ?_ (hput _) ?_)|(refine ac ?_ (fun _=>hput _) ?_))|(refine aB ?_ [b0,b0+1] (mG false b0 (b0+1) (bI q d) _ _ (bI q (r.take n)) hne2 hll (by omega) ?_ ?_ aN (by omega) (by omega)) ?_ ?_)|((first|apply Ca|apply Cb)<;>intro hb)|refine Ai (by omega) ?_|(apply Ai<;>intro hb)
            all_goals ((refine de ((d++r.take n,r.drop n)) [some b0,some (b0+368)] ?_ ?_ ?_;(focus (refine⟨?_,?_⟩<;>(try simp only[aE,kE,gh,im,eg,hx,Option.getD_some,Option.isSome_some,aj,ai,aq,seval])<;>(try omega)))))
            all_goals (first|(show(r.drop n).length<r.length;omega)|(refine⟨?_,hc2⟩;rw[hsr,List.append_assoc,List.take_append_drop])|skip)
def mO (t:Tk)(k:Nat):List UInt8:=[60]++t.name++dK (t.attrs.take k)
def tG (t:Tk):60::t.name=mO t 0:=by simp[mO,dK]
def zu {t:Tk}{k:Nat}{a:Pr}(h:t.attrs[k]? = some a):mO t k++(32::(a.name++[61,34]++bI true a.value++[34]))=mO t (k+1):=by
 unfold mO
 rw[xw h];simp[ls]
def LA (t:Tk)(q y:Nat):bK true q (.own y 0 (t.name.length+1))=bS false q y (mO t 0):=by
 rw[<- tG,rE false q y (by simp)];rfl
def tF (t:Tk)(k:Nat)(h:t.okTo 1000000)(hl:t.attrs.length<=30):(mO t k).length<=220000000:=by
 obtain⟨h1,h2,h3,h4⟩:=h
 have hw:=(qC (t:=⟨1,t.name,t.attrs.take k,t.text⟩) (n:=1000000) (by simp;omega) h2 h3 (fun a ha=>h4 a (List.mem_of_mem_take ha))).1
 simp only at hw
 simp only[mO,List.length_append,List.length_cons,List.length_nil]
 omega
def o8 (t:Tk):mO t t.attrs.length=[60]++t.name++dK t.attrs:=by unfold mO;rw[List.take_length]
def HW (t:Tk)(h:t.okTo 1000000)(hat:e8 t.attrs=true)(k3:Bool)(q2:((t.kind:Int)==2)=false)(q4:((t.kind:Int)==4)=false)(q3:((t.kind:Int)==3)=k3)(nm:Nat):Ev cx 135 nm [.agg (bQ t)] ao.nil (.str (if k3 then (mO t t.attrs.length++[47])++[62] else mO t t.attrs.length++[62])) []:=by
 have hwl:=fun k=>tF t k h (by have:=(eS.1 hat).1;omega)
 obtain⟨hat1,hat2⟩:=eS.1 hat
 obtain⟨hl,hnl,htl,hal⟩:=h
 have hll1:(60::t.name).length<=aT:=by unfold aT;simp;omega
 have hbk:=LA t
 have hw0:=tG t
 refine aX call135 func135 ?_;intro b0 hb0;have zF:=Ai results135 ntmps135
 repeat' first|simp only[au,ap,zF,am,bQ,q2,q4,eF,aA,aj,ai,seval]|exact rfl|refine aa (v:=.any) ?_|(refine aB ?_ [b0+128] (zq false (b0+128) (60::t.name) (by simp) hll1 _ _ ?_ aN (by omega)) ?_ ?_)|refine ag (ps:=[(1,6)]) (by decide +kernel) (by simp only[List.forall_mem_cons,List.getD_cons_zero,List.getD_cons_succ,zF,am,bQ,q2,q4,eF,aA,aj,ai,seval]<;>(try simp)<;>(try omega)) ?_|refine av (by decide +kernel) ?_|((first|apply Ca|apply Cb)<;>intro hb)|refine Ai (by omega) ?_|(apply Ai<;>intro hb)
 (refine ew (fun x:Nat=>t.attrs.length-x) (fun x=>x<=t.attrs.length) (b0+16) (fun x=>[(1,.ptr b0 0 0),(3,.ptr (b0+1) 0 0),(24,.sl false 2 (t.attrs.map fm)),(25,.int .i64 t.attrs.length),(26,.int .i64 x)]) (fun x=>[(b0,⟨4,[bQ t]⟩),(b0+1,bS false (b0+1) (b0+2) (mO t x)),(b0+2,rK (mO t x))]) (0) [some b0,some (b0+128),some (b0+192)] ?_ ?_ ?_;(focus (refine⟨?_,?_⟩<;>(try simp only[aE,aC,iI,bQ,hbk,hw0,List.length_cons,kE,gh,im,eg,Option.getD_some,Option.isSome_some,Lm,aj,ai,aq,seval])<;>(try omega))))
 ·exact Nat.zero_le _
 ·intro k hk
  by_cases hlt:k<t.attrs.length
  ·obtain⟨a,ha⟩:=ic hlt
   obtain⟨hs1,hs2⟩:=hal a (List.mem_of_getElem? ha)
   have hat0:=yS ha
   have hd:=decide_eq_true hlt
   have hwk:=eD k
   have hov:=hat2 k a hlt ha
   simp only[Iz,Bool.and_eq_true,decide_eq_true_eq]at hov
   have hpv:=wC a.value true (fE.1 hov.2).2 hs2
   have hnx:=zu ha
   have hew:=bG true a.value
   have l1:(a.name++[61,34]).length=a.name.length+2:=by simp
   have l2:(a.name++[61,34]++bI true a.value).length=a.name.length+2+(bI true a.value).length:=by simp;omega
   have hz:=hwl (k+1)
   have hz2:(mO t k).length+(32::(a.name++[61,34]++bI true a.value++[34])).length<=aT:=by
    rw[<- List.length_append,hnx];unfold aT;omega
   repeat' first|simp only[au,ap,zF,am,aC,bQ,hat0,fm,hd,hlt,l1,l2,aA,Lm,aj,ai,seval]|exact rfl|refine aa (v:=.any) ?_|(first|(refine ah ?_ (hpv _) ?_)|(refine ac ?_ (fun _=>hpv _) ?_))|(refine aB ?_ [b0+1,b0+2] (mG false (b0+1) (b0+2) (mO t k) _ _ (32::(a.name++[61,34]++bI true a.value++[34])) (by simp) hz2 (by omega) ?_ ?_ aN (by omega) (by omega)) ?_ ?_)|refine ag (ps:=[(1,6)]) (by decide +kernel) (by simp only[List.forall_mem_cons,List.getD_cons_zero,List.getD_cons_succ,zF,am,aC,bQ,hat0,fm,hd,hlt,l1,l2,aA,Lm,aj,ai,seval]<;>(try simp)<;>(try omega)) ?_|refine av (by decide +kernel) ?_|((first|apply Ca|apply Cb)<;>intro hb)|refine Ai (by omega) ?_|(apply Ai<;>intro hb)
   all_goals ((refine de (k+1) [some b0,some (b0+1),some (b0+240)] ?_ ?_ ?_;(focus (refine⟨?_,?_⟩<;>(try simp only[aE,aC,iI,bQ,hwk,hnx,kE,gh,im,eg,Option.getD_some,Option.isSome_some,Lm,aj,ai,aq,seval])<;>(try omega)))))
   all_goals (first|(show t.attrs.length-(k+1)<t.attrs.length-k;omega)|(show k+1<=t.attrs.length;omega)|skip)
  ·have hke:k=t.attrs.length:=by omega
   subst hke
   have hd:decide (t.attrs.length<t.attrs.length)=false:=bi
   have hz:=hwl t.attrs.length
   have z1:(mO t t.attrs.length).length+1<=aT:=by unfold aT;omega
   have z2:(mO t t.attrs.length++[47]).length+1<=aT:=by simp only[List.length_append,List.length_cons,List.length_nil];unfold aT;omega
   have z3:(mO t t.attrs.length++[62]).length<=aT:=by simp only[List.length_append,List.length_cons,List.length_nil];unfold aT;omega
   have z4:((mO t t.attrs.length++[47])++[62]).length<=aT:=by simp only[List.length_append,List.length_cons,List.length_nil];unfold aT;omega
   cases k3 with
   | true =>
    (repeat' first|simp only[zF,am,aC,bQ,hd,q3,aA,Lm,aj,ai,seval]|exact rfl|((first|(refine aB ?_ [b0+1,b0+2] (o0 false (b0+1) (b0+2) (mO t t.attrs.length) _ _ 47 z1 (by omega) ?_ ?_ aN (by omega) (by omega)) ?_ ?_)|(refine aB ?_ [b0+1,b0+96] (nQ false (b0+1) (b0+96) ((mO t t.attrs.length++[47])++[62]) _ _ z4 (by omega) ?_ ?_ aN (by omega) (by omega)) ?_ ?_));iterate 4 (focus (simp only[ap,zF,am,aC,bQ,hd,q3,aA,Lm,aj,ai,seval]<;>exact rfl)))|((refine aB ?_ [b0+1,b0+80] (o0 false (b0+1) (b0+80) (mO t t.attrs.length++[47]) _ _ 62 z2 (by omega) ?_ ?_ aN (by omega) (by omega)) ?_ ?_);iterate 4 (focus (simp only[ap,zF,am,aC,bQ,hd,q3,aA,Lm,aj,ai,seval]<;>exact rfl)))|refine ag (ps:=[(1,6)]) (by decide +kernel) (by simp only[List.forall_mem_cons,List.getD_cons_zero,List.getD_cons_succ,zF,am,aC,bQ,hd,q3,aA,Lm,aj,ai,seval]<;>(try simp)<;>(try omega)) ?_|refine av (by decide +kernel) ?_|((first|apply Ca|apply Cb)<;>intro hb)|refine Ai (by omega) ?_|(apply Ai<;>intro hb)|apply Fin.pure|simp only[aq])
   | false =>
    (repeat' first|simp only[au,ap,zF,am,aC,bQ,hd,q3,aA,Lm,aj,ai,seval]|exact rfl|refine aa (v:=.any) ?_|(refine aB ?_ [b0+1,b0+2] (o0 false (b0+1) (b0+2) (mO t t.attrs.length) _ _ 62 z1 (by omega) ?_ ?_ aN (by omega) (by omega)) ?_ ?_)|(refine aB ?_ [b0+1,b0+80] (nQ false (b0+1) (b0+80) (mO t t.attrs.length++[62]) _ _ z3 (by omega) ?_ ?_ aN (by omega) (by omega)) ?_ ?_)|refine ag (ps:=[(1,6)]) (by decide +kernel) (by simp only[List.forall_mem_cons,List.getD_cons_zero,List.getD_cons_succ,zF,am,aC,bQ,hd,q3,aA,Lm,aj,ai,seval]<;>(try simp)<;>(try omega)) ?_|refine av (by decide +kernel) ?_|((first|apply Ca|apply Cb)<;>intro hb)|refine Ai (by omega) ?_|(apply Ai<;>intro hb)|apply Fin.pure|simp only[aq])
def BG (t:Tk)(h:t.okTo 1000000)(hok:eQ t=true)(nm:Nat):Ev cx 135 nm [.agg (bQ t)] ao.nil (.str (dR t)) []:=by
 obtain⟨hl,hnl,htl,hal⟩:=h
 have hk0:=hok
 unfold eQ at hk0
 rcases iT t.kind with ⟨q1,q3,q2,q4,hkd⟩|⟨q1,q3,q2,q4,hkd⟩|⟨q1,q3,q2,q4,hkd⟩|⟨q1,q3,q2,q4,hkd⟩|⟨q1,q3,q2,q4,hk1,hk3,hk2,hk4⟩
 ·rw[if_pos (.inl hkd)]at hk0
  simp only[Bool.and_eq_true]at hk0
  have hw:dR t=mO t t.attrs.length++[62]:=by unfold dR;rw[if_neg (by omega),if_neg (by omega),if_neg (by omega),o8]
  rw[hw]
  exact HW t ⟨hl,hnl,htl,hal⟩ hk0.1.2 false q2 q4 q3 nm
 ·rw[if_pos (.inr hkd)]at hk0
  simp only[Bool.and_eq_true]at hk0
  have hw:dR t=(mO t t.attrs.length++[47])++[62]:=by unfold dR;rw[if_neg (by omega),if_neg (by omega),if_pos hkd,o8];simp
  rw[hw]
  exact HW t ⟨hl,hnl,htl,hal⟩ hk0.1.2 true q2 q4 q3 nm
 ·have hw:dR t=60::47::(t.name++[62]):=by unfold dR;rw[if_neg (by omega),if_pos hkd];simp
  rw[hw]
  refine aX call135 func135 ?_;intro b0 hb0
  (repeat' first|simp only[au,ap,results135,ntmps135,am,bQ,q1,q2,q3,q4,aj,ai,seval]|exact rfl|refine aa (v:=.any) ?_|refine ag (ps:=[(1,6)]) (by decide +kernel) (by simp only[List.forall_mem_cons,List.getD_cons_zero,List.getD_cons_succ,results135,ntmps135,am,bQ,q1,q2,q3,q4,aj,ai,seval]<;>(try simp)<;>(try omega)) ?_|refine av (by decide +kernel) ?_|((first|apply Ca|apply Cb)<;>intro hb)|refine Ai (by omega) ?_|(apply Ai<;>intro hb)|apply Fin.pure|simp only[aq])
 ·rw[if_neg (by omega),if_neg (by omega),if_pos hkd]at hk0
  simp only[Bool.and_eq_true,decide_eq_true_eq]at hk0
  have hw:dR t=bI false t.text:=by unfold dR;rw[if_pos hkd]
  rw[hw]
  refine aX call135 func135 ?_;intro b0 hb0
  (repeat' first|simp only[au,ap,results135,ntmps135,am,bQ,q1,q2,q3,q4,aj,ai,seval]|exact rfl|refine aa (v:=.any) ?_|(first|(refine ah ?_ (wC t.text false (fE.1 hk0.2).2 htl _) ?_)|(refine ac ?_ (fun _=>wC t.text false (fE.1 hk0.2).2 htl _) ?_))|refine ag (ps:=[(1,6)]) (by decide +kernel) (by simp only[List.forall_mem_cons,List.getD_cons_zero,List.getD_cons_succ,results135,ntmps135,am,bQ,q1,q2,q3,q4,aj,ai,seval]<;>(try simp)<;>(try omega)) ?_|refine av (by decide +kernel) ?_|((first|apply Ca|apply Cb)<;>intro hb)|refine Ai (by omega) ?_|(apply Ai<;>intro hb)|apply Fin.pure|simp only[aq])
 ·rw[if_neg (by omega),if_neg hk2,if_neg hk4]at hk0
  cases hk0
def H0 {t:Tk}(h:eQ t=true):dR t≠[]:=by
 unfold dR
 split
 ·rename_i hk
  unfold eQ at h
  rw[if_neg (by omega),if_neg (by omega),if_pos hk]at h
  simp only[Bool.and_eq_true,Bool.not_eq_true',List.isEmpty_eq_false_iff]at h
  intro e
  have h1:=(bG false t.text).1
  rw[e]at h1
  have:=List.length_pos_iff.2 h.1.2
  simp at h1
  exact h.1.2 h1
 ·split<;>simp
def Fa {α:Type}{p:α->Bool}{l:List α}{k:Nat}{x:α}(h:l[k]? = some x)(hp:p x=true):l.any p=true:=List.any_eq_true.2 ⟨x,List.mem_of_getElem? h,hp⟩
def uS {l:List Tk}(h:(l.any fun t=>!eQ t)=true):fh l=8:=by unfold fh;rw[if_pos (.inl h)]
def uR {l:List Tk}(h:jE l=true):fh l=8:=by unfold fh;rw[if_pos (.inr h)]
def kr {l:List Tk}(h1:(l.any fun t=>!eQ t)=false)(h2:jE l=false)(h:512<l.length\/16384<(cj l).length):fh l=4:=by
 unfold fh;rw[if_neg (by simp[h1,h2]),if_pos h]
def yB {l:List Tk}(h1:(l.any fun t=>!eQ t)=false)(h2:jE l=false)(h:¬(512<l.length\/16384<(cj l).length)):fh l=0:=by
 unfold fh;rw[if_neg (by simp[h1,h2]),if_neg h]
def yC {l:List Tk}(h:fh l=0):lN l=cj l:=by unfold lN;rw[if_pos h]
def g8 {l:List Tk}{e:Int}(h:fh l=e)(he:e≠0):lN l=[]:=by unfold lN;rw[if_neg (by omega)]
def vw:cj []=[]:=rfl
def oZ {l:List Tk}(hs:∀ t∈l,t.okTo 1000000/\t.attrs.length<=30)(hl:l.length<=512)(k:Nat):(cj (l.take k)).length<=111104063488:=by
 have h1:(cj (l.take k)).length<=(l.take k).length*217000124:=nk (fun t ht=>by
  obtain⟨⟨_,h2,h3,h4⟩,h30⟩:=hs t (List.mem_of_mem_take ht)
  have:=(qC h30 h2 h3 h4).2
  omega)
 have h2:(l.take k).length<=512:=by simp;omega
 exact Nat.le_trans h1 (Nat.le_trans (Nat.mul_le_mul_right 217000124 h2) (by decide))
def j9 {l:List Tk}{k:Nat}(h:kP l k)(hn:∀ a b,l[k-1]? = some a->l[k]? = some b->0<k -> ¬(a.kind=4/\b.kind=4)):kP l (k+1):=by
 intro i a b hi ha hb
 by_cases e:i+1=k
 ·subst e
  exact hn a b (by simpa using ha) hb (by omega)
 ·exact h i a b (by omega) ha hb
def Gx (t:Tk)(h:t.okTo aT)(nm:Nat):Ev cx 132 nm [.agg (bQ t)] ao.nil (.bool (!eQ t)) []:=by
 have hc:=FB t h
 unfold M7 at hc
 generalize eQ t=b at hc ⊢
 cases b<;>(
  refine aX call132 func132 ?_;intro b0 hb0
  exact wP (a4 results132 ntmps132 @aC @bQ.eq_1) hc)
def Jz (l:List Tk)(hl:l.length<=600)(hs:∀ t∈l,t.okTo 1000000/\t.attrs.length<=30)(nm:Nat):Ev cx 93 nm [.sl false 4 (l.map bQ)] ao.nil (.tup [.str (lN l),.int .i64 (fh l)]) []:=by
  have hlim:∀ t∈l,t.okTo aT:=fun t ht=>by
    obtain⟨⟨h1,h2,h3,h4⟩,_⟩:=hs t ht
    unfold aT
    exact⟨by omega,by omega,by omega,fun a ha=>by have:=h4 a ha;omega⟩
  have hcf:=tT l 132 [] (fun t=>!eQ t) (fun t ht nm=>Gx t (hlim t ht) nm) (by unfold aT;omega) rfl
  cases hany:(l.any fun t=>!eQ t) with
  | true =>
    rw[hany]at hcf
    have he:=uS hany
    have hj:=g8 he (by omega)
    refine aX call93 func93 ?_;intro b0 hb0
    exact wP (a4 results93 ntmps93 he hj) hcf
  | false =>
    rw[hany]at hcf
    refine aX call93 func93 ?_;intro b0 hb0
    refine wR (a2 results93 ntmps93) hcf ?_
    (refine ew (fun x:Nat=>l.length-x) (fun x=>x<=l.length/\kP l x) (b0+16) (fun x=>[(0,.sl false 4 (l.map bQ)),(11,.sl false 4 (l.map bQ)),(12,.int .i64 l.length),(13,.int .i64 x)]) (fun x=>[]) (0) [] ?_ ?_ ?_;(focus (refine⟨?_,?_⟩<;>(try simp only[aE,aM,Lm,aj,ai,aq,seval])<;>(try omega))))
    · exact⟨Nat.zero_le _,fun i a b hi=>by omega⟩
    · rintro k ⟨hk,hadj⟩
      by_cases hlt:k<l.length
      · obtain ⟨t,ht⟩:∃ t,l[k]? = some t:=⟨_,List.getElem?_eq_getElem hlt⟩
        have hat:=tr ht
        have hd1:=decide_eq_true hlt
        have hwk:=eD k
        by_cases h0:k=0
        · subst h0
          have hg:kP l (0+1):=fun i a b hi=>by omega
          have hd9:decide ((0:Int)<(l.length:Int))=true:=dh
          refine wR (a2 results93 (a9 ntmps93 @aC hat @bQ.eq_1 hd1 hd9 hlt @Int.lt_irrefl @Nat.lt_irrefl)) trivial ?_
          all_goals ((refine de (0+1) [] ?_ ?_ ?_;(focus (refine⟨?_,?_⟩<;>(try simp only[aE,aM,hwk,show IntKind.i64.wrap 1=1 from by decide,Lm,aj,ai,aq,seval])<;>(try omega)))))
          all_goals (first|(show l.length-(0+1)<l.length-0;omega)|exact⟨by omega,hg⟩|skip)
        · obtain⟨m,rfl⟩:∃ m,k=m+1:=⟨k-1,by omega⟩
          have hlt0:m<l.length:=by omega
          obtain⟨p,hp⟩:∃ p,l[m]? = some p:=⟨_,List.getElem?_eq_getElem hlt0⟩
          have hpt:=tr hp
          have hd0:decide ((0:Int)<((m+1:Nat):Int))=true:=dh
          have hwm:IntKind.i64.wrap (((m+1:Nat):Int)-1)=((m:Nat):Int):=by rw[bH];omega
          have hcs:(((t.kind:Int)==4)=false/\kP l (m+1+1))\/(((t.kind:Int)==4)=true/\((p.kind:Int)==(t.kind:Int))=false/\kP l (m+1+1))\/(((t.kind:Int)==4)=true/\((p.kind:Int)==(t.kind:Int))=true/\fh l=8):=by
            by_cases c2:t.kind=4
            · by_cases c1:p.kind=4
              · right;right
                exact⟨by rw[c2];rfl,by rw[c1,c2];rfl,uR (xg hp ht c1 c2)⟩
              · right;left
                refine⟨by rw[c2];rfl,beq_false_of_ne (by omega),j9 hadj (fun a b ha hb _ h=>?_)⟩
                rw[Nat.add_sub_cancel,hp]at ha;cases ha;exact c1 h.1
            · left
              refine⟨beq_false_of_ne (by omega),j9 hadj (fun a b ha hb _ h=>?_)⟩
              rw[ht]at hb;cases hb;exact c2 h.2
          rcases hcs with ⟨c1,hg⟩|⟨c1,c2,hg⟩|⟨c1,c2,he⟩
          · refine wR (a4 results93 ntmps93 @aC (a9 hat hpt @bQ.eq_1 hd0 hd1 hlt hlt0 hwm c1)) trivial ?_
            all_goals ((refine de (m+1+1) [] ?_ ?_ ?_;(focus (refine⟨?_,?_⟩<;>(try simp only[aE,aM,hwk,Lm,aj,ai,aq,seval])<;>(try omega)))))
            all_goals (first|(show l.length-(m+1+1)<l.length-(m+1);omega)|exact⟨by omega,hg⟩|skip)
          · refine wR (a5 results93 ntmps93 @aC hat (a9 hpt @bQ.eq_1 hd0 hd1 hlt hlt0 hwm c1 c2)) trivial ?_
            all_goals ((refine de (m+1+1) [] ?_ ?_ ?_;(focus (refine⟨?_,?_⟩<;>(try simp only[aE,aM,hwk,Lm,aj,ai,aq,seval])<;>(try omega)))))
            all_goals (first|(show l.length-(m+1+1)<l.length-(m+1);omega)|exact⟨by omega,hg⟩|skip)
          · have hj:=g8 he (by omega)
            exact wP (a7 results93 ntmps93 @aC hat hpt @bQ.eq_1 (a9 hd0 hd1 hlt hlt0 hwm c1 c2 he hj)) trivial
      · have hke:k=l.length:=by omega
        subst hke
        have hd1:decide (l.length<l.length)=false:=bi
        have hadj':jE l=false:=mg.2 hadj
        by_cases h512:512<l.length
        · have he:=kr hany hadj' (.inl h512)
          have hj:=g8 he (by omega)
          have hd2:decide ((512:Int)<(l.length:Int))=true:=dh
          exact wP (a6 results93 ntmps93 hd1 hd2 he hj) trivial
        · have hd2:decide ((512:Int)<(l.length:Int))=false:=bi
          have htl:=oZ hs (by omega)
          refine wR (a4 results93 ntmps93 hd1 hd2) trivial ?_
          (refine ew (fun x:Nat=>l.length-x) (fun x=>x<=l.length/\(cj (l.take x)).length<=16384) (b0+16) (fun x=>[(0,.sl false 4 (l.map bQ)),(6,.ptr b0 0 0),(40,.sl false 4 (l.map bQ)),(41,.int .i64 l.length),(42,.int .i64 x)]) (fun x=>[(b0,bS false b0 (b0+1) (cj (l.take x))),(b0+1,rK (cj (l.take x)))]) (0) [some (b0+80),none] ?_ ?_ ?_;(focus (refine⟨?_,?_⟩<;>(try simp only[aE,zL,A2,A3,jr,fP,im,eg,aM,Lm,List.take_zero,vw,aj,ai,aq,seval])<;>(try omega))))
          · exact⟨Nat.zero_le _,by simp[cj]⟩
          · rintro j ⟨hj,hsz⟩
            by_cases hlt3:j<l.length
            · obtain⟨t,ht⟩:=ic hlt3
              have hat:=tr ht
              have hd3:=decide_eq_true hlt3
              have hwj:=eD j
              have htok:eQ t=true:=by
                cases hh:eQ t with
                | true=>rfl
                | false=>rw[Fa (p:=fun t=>!eQ t) ht (by simp[hh])]at hany;cases hany
              have hwr:=BG t (hs t (List.mem_of_getElem? ht)).1 htok
              have hne:=H0 htok
              have hnx:=tw ht
              have b2:=htl (j+1)
              have hll:(cj (l.take j)).length+(dR t).length<=aT:=by
                rw[hnx,List.length_append]at b2;unfold aT;omega
              have hll2:(cj (l.take (j+1))).length<=aT:=by unfold aT;omega
              by_cases hbig:16384<(cj (l.take (j+1))).length
              · have hbl:16384<(cj l).length:=by
                  refine Nat.lt_of_lt_of_le hbig ?_
                  conv=>rhs;rw[<- List.take_append_drop (j+1) l]
                  unfold cj
                  rw[List.flatMap_append,List.length_append];omega
                have he:=kr hany hadj' (.inr hbl)
                have hjt:=g8 he (by omega)
                have hd4:decide ((16384:Int)<((cj (l.take (j+1))).length:Int))=true:=dh
                (repeat' first|simp only[au,ap,results93,ntmps93,am,aC,hat,bQ,hd3,hlt3,hd4,he,hjt,hnx.symm,aA,Lm,aj,ai,seval]|exact rfl|refine aa (v:=.any) ?_|(first|(refine ah ?_ (hwr _) ?_)|(refine ac ?_ (fun _=>hwr _) ?_))|(refine aB ?_ [b0,b0+1] (mG false b0 (b0+1) (cj (l.take j)) _ _ (dR t) hne hll (by omega) ?_ ?_ aN (by omega) (by omega)) ?_ ?_)|(refine aB ?_ [b0,b0+128] (qZ false b0 (b0+128) (cj (l.take (j+1))) _ _ (by omega) ?_ ?_ aN (by omega) (by omega)) ?_ ?_)|refine av (by decide +kernel) ?_|((first|apply Ca|apply Cb)<;>intro hb)|refine Ai (by omega) ?_|(apply Ai<;>intro hb)|apply Fin.pure|simp only[aq])
              · have hd4:decide ((16384:Int)<((cj (l.take (j+1))).length:Int))=false:=bi
                repeat' first|simp only[au,ap,results93,ntmps93,am,aC,hat,bQ,hd3,hlt3,hd4,hnx.symm,aA,Lm,aj,ai,seval]|exact rfl|refine aa (v:=.any) ?_|(first|(refine ah ?_ (hwr _) ?_)|(refine ac ?_ (fun _=>hwr _) ?_))|(refine aB ?_ [b0,b0+1] (mG false b0 (b0+1) (cj (l.take j)) _ _ (dR t) hne hll (by omega) ?_ ?_ aN (by omega) (by omega)) ?_ ?_)|(refine aB ?_ [b0,b0+128] (qZ false b0 (b0+128) (cj (l.take (j+1))) _ _ (by omega) ?_ ?_ aN (by omega) (by omega)) ?_ ?_)|refine av (by decide +kernel) ?_|((first|apply Ca|apply Cb)<;>intro hb)|refine Ai (by omega) ?_|(apply Ai<;>intro hb)
                all_goals ((refine de (j+1) [some b0,some (b0+128)] ?_ ?_ ?_;(focus (refine⟨?_,?_⟩<;>(try simp only[aE,aM,hwj,hnx.symm,kE,gh,im,eg,Option.getD_some,Option.isSome_some,Lm,aj,ai,aq,seval])<;>(try omega)))))
                all_goals (first|(show l.length-(j+1)<l.length-j;omega)|exact⟨by omega,by omega⟩|skip)
            · have hje:j=l.length:=by omega
              subst hje
              rw[List.take_length]at hsz
              have hd3:decide (l.length<l.length)=false:=bi
              have he:=yB hany hadj' (by omega)
              have hjt:=yC he
              have hll:(cj l).length<=aT:=by unfold aT;omega
              (repeat' first|simp only[au,ap,results93,ntmps93,am,hd3,he,hjt,List.take_length,Lm,aj,ai,seval]|exact rfl|refine aa (v:=.any) ?_|(refine aB ?_ [b0,b0+1] (nQ false b0 (b0+1) (cj l) _ _ hll (by omega) ?_ ?_ aN (by omega) (by omega)) ?_ ?_)|refine av (by decide +kernel) ?_|((first|apply Ca|apply Cb)<;>intro hb)|refine Ai (by omega) ?_|(apply Ai<;>intro hb)|apply Fin.pure|simp only[aq])
end Go.Proofs.YtjonibipieofcaaGreatDoor
