/-
 Texts joined: XLs,XLg,XLh,XLp,XLl.
-/
import Derived.Test.YtlnlopnpcmahgaaGreatDoorQn
import Derived.Test.YtlnlopnpcmahgaaGreatDoorQo
import Derived.Test.YtlnlopnpcmahgaaGreatDoorQh
import Derived.Test.YtlnlopnpcmahgaaGreatDoorQg
set_option linter.all false
namespace Go.Proofs.YtlnlopnpcmahgaaGreatDoor
set_option maxRecDepth 100000
set_option maxHeartbeats 32000000
open Go Go.RowKit Vm Go.Lib Tryz
open Vm renaming ba->Ca,bh->Cb
open And renaming intro->Ai
open List renaming length_map->Lm,not_mem_nil->Ln,map_nil->Lo,map_cons->Lc,mem_cons->Lk
open Bool renaming not_false->Bf,not_true->Bt
def C1 {s:List UInt8}(h:(dB s).isSome=true)(hl:s.length<=16384):aN s=0:=cC.2 ⟨hl,h⟩
def Hp {s:List UInt8}(q:Bool)(h:(dB s).isSome=true)(hl:s.length<=1027):uG q s=0/\yE q s=bq q s:=by
 have hw:=cj q s
 have h0:uG q s=0:=by
  unfold uG
  rw[if_neg (fun e=>e (C1 h (by omega))),if_neg (by omega)]
 exact⟨h0,by unfold yE;rw[if_pos h0]⟩
def vY {q:Bool}{d r:List UInt8}(n:Nat):bq q (d++r.take n)=bq q d++bq q (r.take n):=rS q d _
def zE (c:UInt8):(IntKind.u8.wrap ((BitVec.ofInt IntKind.u8.bits (c.toNat:Int) &&& BitVec.ofInt IntKind.u8.bits 192).toNat:Int)==128)=pw c:=by
 have:∀ n:Fin 256,(IntKind.u8.wrap ((BitVec.ofInt IntKind.u8.bits (n.val:Int) &&& BitVec.ofInt IntKind.u8.bits 192).toNat:Int)==128)=(decide (128<=n.val)&&decide (n.val<192)):=by decide +kernel
 exact this ⟨c.toNat,c.toNat_lt⟩
def O7 {r:List UInt8}{n:Nat}(h:n<r.length):∃ b,r[n]? = some b:=⟨_,List.getElem?_eq_getElem h⟩
def yo (s:List UInt8)(q:Bool)(hd:(dB s).isSome=true)(hs:s.length<=1000000)(nm:Nat):Ev cx 135 nm [.str s,.bool q] ap.nil (.str (bq q s)) []:=by
  refine bi call135 func135 rfl (by kernel_rfl) rfl ?_;intro b0 hb0;have zF:=Ai results135 ntmps135
  repeat' first|simp only[ak,aj,zF,al,ai,seval,ah]|exact rfl|refine aa (v:=.any) ?_|((first|apply Ca|apply Cb)<;>intro hb)|refine Ai (by omega) ?_|(apply Ai<;>intro hb)
  (refine aR bR (fun x:List UInt8×List UInt8=>x.2.length) (fun x=>s=x.1++x.2/\(dB x.2).isSome=true) (b0+16) (fun x=>[(0,.str x.2),(1,.bool q),(5,.ptr b0 0 0)]) (fun x=>[(b0,bS false b0 (b0+1) (bq q x.1)),(b0+1,rK (bq q x.1))]) (([],s)) [some (b0+16),none] ?_ ?_ ?_ ?_;rotate_left 1;(focus (show b0<=_;omega));(focus (refine⟨?_,?_⟩<;>(try simp only[aX,B6,zY,Dv,Dw,gi,dY,gr,dP,nb,ai,seval,ah,ao])<;>(try omega)));rotate_left 1)
  · exact⟨rfl,hd⟩
  · rintro ⟨d,r⟩ ⟨hsr,hr⟩
    simp only at hsr hr
    have hlen:d.length+r.length<=1000000:=by rw[hsr]at hs;simpa using hs
    have hwd:=cj q d
    by_cases hne:r=[]
    · subst hne
      have e0:(([]:List UInt8)==[])=true:=rfl
      have e1:d=s:=by rw[hsr];simp
      subst e1
      have hll:(bq q d).length<=be:=by unfold be;omega
      (repeat' first|simp only[ak,aj,zF,al,e0,ai,seval,ah]|exact rfl|refine aa (v:=.any) ?_|(refine ac ?_ [b0,b0+1] (pq false b0 (b0+1) (bq q d) _ _ hll (by omega) ?_ ?_ ag (by omega) (by omega)) ?_ ?_)|((first|apply Ca|apply Cb)<;>intro hb)|refine Ai (by omega) ?_|(apply Ai<;>intro hb)|refine Fin.pure ?_ ?_ ?_|simp only[ao])
    · have e0:(r==[])=false:=beq_false_of_ne hne
      have hrl:0<r.length:=List.length_pos_iff.2 hne
      obtain⟨j,j1,j2,j3,j4⟩:=HX hr (k:=min r.length 1024) (by omega)
      have hmin:min (r.length:Int) 1024=((min r.length 1024:Nat):Int):=by omega
      generalize hk0:min r.length 1024=k0 at *
      repeat' first|simp only[ak,aj,zF,al,e0,hmin,Bf,ai,seval,ah]|exact rfl|refine aa (v:=.any) ?_|((first|apply Ca|apply Cb)<;>intro hb)|refine Ai (by omega) ?_|(apply Ai<;>intro hb)
      (refine aR bR (fun x:Nat=>j-x) (fun x=>k0<=x/\x<=j) (b0+16) (fun x=>[(0,.str r),(1,.bool q),(5,.ptr b0 0 0),(6,.int .i64 x)]) (fun x=>[(b0,bS false b0 (b0+1) (bq q d)),(b0+1,rK (bq q d))]) (k0) [some b0,some (b0+1)] ?_ ?_ ?_ ?_;rotate_left 1;(focus (show b0<=_;omega));(focus (refine⟨?_,?_⟩<;>(try simp only[aX,lR,gT,gr,dP,Option.getD_some,Option.isSome_some,ai,seval,ah,ao])<;>(try omega)));rotate_left 1)
      · exact⟨Nat.le_refl _,j1⟩
      · rintro n ⟨hn1,hn2⟩
        have hnr:n<=r.length:=by omega
        by_cases hgo:n<r.length /\ ∀ b,r[n]? = some b->pw b=true
        · obtain⟨hlt,hcb⟩:=hgo
          obtain⟨b,hb⟩:=O7 hlt
          have hc:=hcb b hb
          have hca:=zE b
          rw[hc]at hca
          have hnj:n≠j:=fun e=>by
            subst e
            have:=j4 b hb
            rw[hc]at this;cases this
          have hd1:decide (n<r.length)=true:=decide_eq_true hlt
          have hwk:IntKind.i64.wrap ((n:Int)+1)=((n+1:Nat):Int):=bf
          repeat' first|simp only[ak,aj,zF,al,hb,hd1,hlt,hca,hwk,ai,seval,ah]|exact rfl|refine aa (v:=.any) ?_|((first|apply Ca|apply Cb)<;>intro hb)|refine Ai (by omega) ?_|(apply Ai<;>intro hb)
          all_goals ((refine aD bR (n+1) [some b0,some (b0+1)] ?_ ?_ ?_ ?_;rotate_left 2;(focus (show b0<=_;omega));(focus (refine⟨?_,?_⟩<;>(try simp only[aX,lR,gT,gr,dP,hwk,Option.getD_some,Option.isSome_some,ai,seval,ah,ao])<;>(try omega)))))
          all_goals (first|(show j-(n+1)<j-n;omega)|(show k0<=n+1/\n+1<=j;omega)|skip)
        · have hstop:∀ b,r[n]? = some b->pw b=false:=by
            intro b hb
            cases hc:pw b with
            | false=>rfl
            | true=>exact absurd ⟨(List.getElem?_eq_some_iff.1 hb).1,fun b' hb'=>by rw[hb]at hb';cases hb';exact hc⟩ hgo
          obtain⟨hc1,hc2⟩:=LR hr hnr hstop
          have hn27:n<=1027:=by omega
          have htl:(r.take n).length=n:=by rw[List.length_take];omega
          obtain⟨hp1,hp2⟩:=Hp q hc1 (by omega)
          have hput:=M7 (r.take n) q (by unfold be;omega)
          rw[hp1,hp2]at hput
          have hw2:=cj q (r.take n)
          have hne2:bq q (r.take n)≠[]:=by
            intro e
            have:=congrArg List.length e
            simp only[List.length_nil]at this
            omega
          have hll:(bq q d).length+(bq q (r.take n)).length<=be:=by unfold be;omega
          have hint:(n:Int)<=(r.length:Int):=by omega
          have hx:bq q d++bq q (r.take n)=bq q (d++r.take n):=(vY n).symm
          have hdl:(r.drop n).length=r.length-n:=by simp
          by_cases hlt:n<r.length
          · obtain⟨b,hb⟩:=O7 hlt
            have hca:=zE b
            rw[hstop b hb]at hca
            have hd1:decide (n<r.length)=true:=decide_eq_true hlt
            repeat' first|simp only[ak,aj,zF,al,hb,hd1,hlt,hca,hnr,hint,au,List.take_zero,ai,seval,ah]|exact rfl|refine aa (v:=.any) ?_|(first|(refine ad ?_ (hput _) ?_)|(refine ab ?_ (fun _=>hput _) ?_))|(refine ac ?_ [b0,b0+1] (nR false b0 (b0+1) (bq q d) _ _ (bq q (r.take n)) hne2 hll (by omega) ?_ ?_ ag (by omega) (by omega)) ?_ ?_)|((first|apply Ca|apply Cb)<;>intro hb)|refine Ai (by omega) ?_|(apply Ai<;>intro hb)
            all_goals ((refine aD bR ((d++r.take n,r.drop n)) [some b0,some (b0+368)] ?_ ?_ ?_ ?_;rotate_left 2;(focus (show b0<=_;omega));(focus (refine⟨?_,?_⟩<;>(try simp only[aX,lR,gT,gr,dP,hx,Option.getD_some,Option.isSome_some,ai,seval,ah,ao])<;>(try omega)))))
            all_goals (first|(show(r.drop n).length<r.length;omega)|(refine⟨?_,hc2⟩;rw[hsr,List.append_assoc,List.take_append_drop])|skip)
          · have hd1:decide (n<r.length)=false:=decide_eq_false hlt
            repeat' first|simp only[ak,aj,zF,al,hd1,hlt,hnr,hint,au,List.take_zero,ai,seval,ah]|exact rfl|refine aa (v:=.any) ?_|(first|(refine ad ?_ (hput _) ?_)|(refine ab ?_ (fun _=>hput _) ?_))|(refine ac ?_ [b0,b0+1] (nR false b0 (b0+1) (bq q d) _ _ (bq q (r.take n)) hne2 hll (by omega) ?_ ?_ ag (by omega) (by omega)) ?_ ?_)|((first|apply Ca|apply Cb)<;>intro hb)|refine Ai (by omega) ?_|(apply Ai<;>intro hb)
            all_goals ((refine aD bR ((d++r.take n,r.drop n)) [some b0,some (b0+368)] ?_ ?_ ?_ ?_;rotate_left 2;(focus (show b0<=_;omega));(focus (refine⟨?_,?_⟩<;>(try simp only[aX,lR,gT,gr,dP,hx,Option.getD_some,Option.isSome_some,ai,seval,ah,ao])<;>(try omega)))))
            all_goals (first|(show(r.drop n).length<r.length;omega)|(refine⟨?_,hc2⟩;rw[hsr,List.append_assoc,List.take_append_drop])|skip)
def rL (t:Tk)(k:Nat):List UInt8:=[60]++t.name++bD (t.attrs.take k)
def BJ (t:Tk):60::t.name=rL t 0:=by simp[rL,bD]
def L5 {t:Tk}{k:Nat}{a:Pr}(h:t.attrs[k]? = some a):rL t k++(32::(a.name++[61,34]++bq true a.value++[34]))=rL t (k+1):=by
 unfold rL
 rw[zn h];simp[jd]
def Pm (t:Tk)(q y:Nat):bK true q (.own y 0 (t.name.length+1))=bS false q y (rL t 0):=by
 rw[<- BJ,tm false q y (by simp)];rfl
def Ec (t:Tk)(k:Nat)(h:t.okTo 1000000)(hl:t.attrs.length<=30):(rL t k).length<=220000000:=by
 obtain⟨h1,h2,h3,h4⟩:=h
 have hw:=(sd (t:=⟨1,t.name,t.attrs.take k,t.text⟩) (n:=1000000) (by simp;omega) h2 h3 (fun a ha=>h4 a (List.mem_of_mem_take ha))).1
 simp only at hw
 simp only[rL,List.length_append,List.length_cons,List.length_nil]
 omega
def Fq (t:Tk):rL t t.attrs.length=[60]++t.name++bD t.attrs:=by unfold rL;rw[List.take_length]
def LO (t:Tk)(h:t.okTo 1000000)(hat:gn t.attrs=true)(k3:Bool)(q2:((t.kind:Int)==2)=false)(q4:((t.kind:Int)==4)=false)(q3:((t.kind:Int)==3)=k3)(nm:Nat):Ev cx 87 nm [.agg (bE t)] ap.nil (.str (if k3 then (rL t t.attrs.length++[47])++[62] else rL t t.attrs.length++[62])) []:=by
 have hwl:=fun k=>Ec t k h (by have:=(eD.1 hat).1;omega)
 obtain⟨hat1,hat2⟩:=eD.1 hat
 obtain⟨hl,hnl,htl,hal⟩:=h
 have hll1:(60::t.name).length<=be:=by unfold be;simp;omega
 have hbk:=Pm t
 have hw0:=BJ t
 refine bi call87 func87 rfl (by kernel_rfl) rfl ?_;intro b0 hb0;have zF:=Ai results87 ntmps87
 repeat' first|simp only[ak,aj,zF,al,bE,q2,q4,cW,au,ai,seval,ah]|exact rfl|refine aa (v:=.any) ?_|(refine ac ?_ [b0+128] (BF false (b0+128) (60::t.name) (by simp) hll1 _ _ ?_ ag (by omega)) ?_ ?_)|refine bc (ps:=[(1,6)]) (by decide +kernel) (by simp only[List.forall_mem_cons,List.getD_cons_zero,List.getD_cons_succ,zF,al,bE,q2,q4,cW,au,ai,seval,ah]<;>(try simp)<;>(try omega)) ?_|refine aA (by decide +kernel) ?_|((first|apply Ca|apply Cb)<;>intro hb)|refine Ai (by omega) ?_|(apply Ai<;>intro hb)
 (refine aR bR (fun x:Nat=>t.attrs.length-x) (fun x=>x<=t.attrs.length) (b0+16) (fun x=>[(1,.ptr b0 0 0),(3,.ptr (b0+1) 0 0),(24,.sl false 2 (t.attrs.map c9)),(25,.int .i64 t.attrs.length),(26,.int .i64 x)]) (fun x=>[(b0,⟨4,[bE t]⟩),(b0+1,bS false (b0+1) (b0+2) (rL t x)),(b0+2,rK (rL t x))]) (0) [some b0,some (b0+128),some (b0+192)] ?_ ?_ ?_ ?_;rotate_left 1;(focus (show b0<=_;omega));(focus (refine⟨?_,?_⟩<;>(try simp only[aX,ay,jA,bE,hbk,hw0,List.length_cons,lR,gT,gr,dP,Option.getD_some,Option.isSome_some,Lm,ai,seval,ah,ao])<;>(try omega)));rotate_left 1)
 ·exact Nat.zero_le _
 ·intro k hk
  by_cases hlt:k<t.attrs.length
  ·obtain⟨a,ha⟩:∃ a,t.attrs[k]? = some a:=⟨_,List.getElem?_eq_getElem hlt⟩
   obtain⟨hs1,hs2⟩:=hal a (List.mem_of_getElem? ha)
   have hat0:=K5 ha
   have hd:decide (k<t.attrs.length)=true:=decide_eq_true hlt
   have hwk:IntKind.i64.wrap ((k:Int)+1)=((k+1:Nat):Int):=bf
   have hov:=hat2 k a hlt ha
   simp only[Ih,Bool.and_eq_true,decide_eq_true_eq]at hov
   have hpv:=yo a.value true (cC.1 hov.2).2 hs2
   have hnx:=L5 ha
   have hew:=cj true a.value
   have l1:(a.name++[61,34]).length=a.name.length+2:=by simp
   have l2:(a.name++[61,34]++bq true a.value).length=a.name.length+2+(bq true a.value).length:=by simp;omega
   have hz:=hwl (k+1)
   have hz2:(rL t k).length+(32::(a.name++[61,34]++bq true a.value++[34])).length<=be:=by
    rw[<- List.length_append,hnx];unfold be;omega
   repeat' first|simp only[ak,aj,zF,al,ay,bE,hat0,c9,hd,hlt,l1,l2,au,Lm,ai,seval,ah]|exact rfl|refine aa (v:=.any) ?_|(first|(refine ad ?_ (hpv _) ?_)|(refine ab ?_ (fun _=>hpv _) ?_))|(refine ac ?_ [b0+1,b0+2] (nR false (b0+1) (b0+2) (rL t k) _ _ (32::(a.name++[61,34]++bq true a.value++[34])) (by simp) hz2 (by omega) ?_ ?_ ag (by omega) (by omega)) ?_ ?_)|refine bc (ps:=[(1,6)]) (by decide +kernel) (by simp only[List.forall_mem_cons,List.getD_cons_zero,List.getD_cons_succ,zF,al,ay,bE,hat0,c9,hd,hlt,l1,l2,au,Lm,ai,seval,ah]<;>(try simp)<;>(try omega)) ?_|refine aA (by decide +kernel) ?_|((first|apply Ca|apply Cb)<;>intro hb)|refine Ai (by omega) ?_|(apply Ai<;>intro hb)
   all_goals ((refine aD bR (k+1) [some b0,some (b0+1),some (b0+240)] ?_ ?_ ?_ ?_;rotate_left 2;(focus (show b0<=_;omega));(focus (refine⟨?_,?_⟩<;>(try simp only[aX,ay,jA,bE,hwk,hnx,lR,gT,gr,dP,Option.getD_some,Option.isSome_some,Lm,ai,seval,ah,ao])<;>(try omega)))))
   all_goals (first|(show t.attrs.length-(k+1)<t.attrs.length-k;omega)|(show k+1<=t.attrs.length;omega)|skip)
  ·have hke:k=t.attrs.length:=by omega
   subst hke
   have hd:decide (t.attrs.length<t.attrs.length)=false:=bo
   have hz:=hwl t.attrs.length
   have z1:(rL t t.attrs.length).length+1<=be:=by unfold be;omega
   have z2:(rL t t.attrs.length++[47]).length+1<=be:=by simp only[List.length_append,List.length_cons,List.length_nil];unfold be;omega
   have z3:(rL t t.attrs.length++[62]).length<=be:=by simp only[List.length_append,List.length_cons,List.length_nil];unfold be;omega
   have z4:((rL t t.attrs.length++[47])++[62]).length<=be:=by simp only[List.length_append,List.length_cons,List.length_nil];unfold be;omega
   cases k3 with
   | true =>
    (repeat' first|simp only[zF,al,ay,bE,hd,q3,au,Lm,ai,seval,ah]|exact rfl|((first|(refine ac ?_ [b0+1,b0+2] (qp false (b0+1) (b0+2) (rL t t.attrs.length) _ _ 47 z1 (by omega) ?_ ?_ ag (by omega) (by omega)) ?_ ?_)|(refine ac ?_ [b0+1,b0+96] (pq false (b0+1) (b0+96) ((rL t t.attrs.length++[47])++[62]) _ _ z4 (by omega) ?_ ?_ ag (by omega) (by omega)) ?_ ?_));iterate 4 (focus (simp only[aj,zF,al,ay,bE,hd,q3,au,Lm,ai,seval,ah]<;>exact rfl)))|((refine ac ?_ [b0+1,b0+80] (qp false (b0+1) (b0+80) (rL t t.attrs.length++[47]) _ _ 62 z2 (by omega) ?_ ?_ ag (by omega) (by omega)) ?_ ?_);iterate 4 (focus (simp only[aj,zF,al,ay,bE,hd,q3,au,Lm,ai,seval,ah]<;>exact rfl)))|refine bc (ps:=[(1,6)]) (by decide +kernel) (by simp only[List.forall_mem_cons,List.getD_cons_zero,List.getD_cons_succ,zF,al,ay,bE,hd,q3,au,Lm,ai,seval,ah]<;>(try simp)<;>(try omega)) ?_|refine aA (by decide +kernel) ?_|((first|apply Ca|apply Cb)<;>intro hb)|refine Ai (by omega) ?_|(apply Ai<;>intro hb)|refine Fin.pure ?_ ?_ ?_|simp only[ao])
   | false =>
    (repeat' first|simp only[ak,aj,zF,al,ay,bE,hd,q3,au,Lm,ai,seval,ah]|exact rfl|refine aa (v:=.any) ?_|(refine ac ?_ [b0+1,b0+2] (qp false (b0+1) (b0+2) (rL t t.attrs.length) _ _ 62 z1 (by omega) ?_ ?_ ag (by omega) (by omega)) ?_ ?_)|(refine ac ?_ [b0+1,b0+80] (pq false (b0+1) (b0+80) (rL t t.attrs.length++[62]) _ _ z3 (by omega) ?_ ?_ ag (by omega) (by omega)) ?_ ?_)|refine bc (ps:=[(1,6)]) (by decide +kernel) (by simp only[List.forall_mem_cons,List.getD_cons_zero,List.getD_cons_succ,zF,al,ay,bE,hd,q3,au,Lm,ai,seval,ah]<;>(try simp)<;>(try omega)) ?_|refine aA (by decide +kernel) ?_|((first|apply Ca|apply Cb)<;>intro hb)|refine Ai (by omega) ?_|(apply Ai<;>intro hb)|refine Fin.pure ?_ ?_ ?_|simp only[ao])
def Ed (t:Tk)(h:t.okTo 1000000)(hok:cR t=true)(nm:Nat):Ev cx 87 nm [.agg (bE t)] ap.nil (.str (dV t)) []:=by
 obtain⟨hl,hnl,htl,hal⟩:=h
 have hk0:=hok
 unfold cR at hk0
 rcases oR t.kind with ⟨q1,q3,q2,q4,hkd⟩|⟨q1,q3,q2,q4,hkd⟩|⟨q1,q3,q2,q4,hkd⟩|⟨q1,q3,q2,q4,hkd⟩|⟨q1,q3,q2,q4,hk1,hk3,hk2,hk4⟩
 ·rw[if_pos (.inl hkd)]at hk0
  simp only[Bool.and_eq_true]at hk0
  have hw:dV t=rL t t.attrs.length++[62]:=by unfold dV;rw[if_neg (by omega),if_neg (by omega),if_neg (by omega),Fq]
  rw[hw]
  exact LO t ⟨hl,hnl,htl,hal⟩ hk0.1.2 false q2 q4 q3 nm
 ·rw[if_pos (.inr hkd)]at hk0
  simp only[Bool.and_eq_true]at hk0
  have hw:dV t=(rL t t.attrs.length++[47])++[62]:=by unfold dV;rw[if_neg (by omega),if_neg (by omega),if_pos hkd,Fq];simp
  rw[hw]
  exact LO t ⟨hl,hnl,htl,hal⟩ hk0.1.2 true q2 q4 q3 nm
 ·have hw:dV t=60::47::(t.name++[62]):=by unfold dV;rw[if_neg (by omega),if_pos hkd];simp
  rw[hw]
  refine bi call87 func87 rfl (by kernel_rfl) rfl ?_;intro b0 hb0
  (repeat' first|simp only[ak,aj,results87,ntmps87,al,bE,q1,q2,q3,q4,ai,seval,ah]|exact rfl|refine aa (v:=.any) ?_|refine bc (ps:=[(1,6)]) (by decide +kernel) (by simp only[List.forall_mem_cons,List.getD_cons_zero,List.getD_cons_succ,results87,ntmps87,al,bE,q1,q2,q3,q4,ai,seval,ah]<;>(try simp)<;>(try omega)) ?_|refine aA (by decide +kernel) ?_|((first|apply Ca|apply Cb)<;>intro hb)|refine Ai (by omega) ?_|(apply Ai<;>intro hb)|refine Fin.pure ?_ ?_ ?_|simp only[ao])
 ·rw[if_neg (by omega),if_neg (by omega),if_pos hkd]at hk0
  simp only[Bool.and_eq_true,decide_eq_true_eq]at hk0
  have hw:dV t=bq false t.text:=by unfold dV;rw[if_pos hkd]
  rw[hw]
  refine bi call87 func87 rfl (by kernel_rfl) rfl ?_;intro b0 hb0
  (repeat' first|simp only[ak,aj,results87,ntmps87,al,bE,q1,q2,q3,q4,ai,seval,ah]|exact rfl|refine aa (v:=.any) ?_|(first|(refine ad ?_ (yo t.text false (cC.1 hk0.2).2 htl _) ?_)|(refine ab ?_ (fun _=>yo t.text false (cC.1 hk0.2).2 htl _) ?_))|refine bc (ps:=[(1,6)]) (by decide +kernel) (by simp only[List.forall_mem_cons,List.getD_cons_zero,List.getD_cons_succ,results87,ntmps87,al,bE,q1,q2,q3,q4,ai,seval,ah]<;>(try simp)<;>(try omega)) ?_|refine aA (by decide +kernel) ?_|((first|apply Ca|apply Cb)<;>intro hb)|refine Ai (by omega) ?_|(apply Ai<;>intro hb)|refine Fin.pure ?_ ?_ ?_|simp only[ao])
 ·rw[if_neg (by omega),if_neg hk2,if_neg hk4]at hk0
  cases hk0
def LU {t:Tk}(h:cR t=true):dV t≠[]:=by
 unfold dV
 split
 ·rename_i hk
  unfold cR at h
  rw[if_neg (by omega),if_neg (by omega),if_pos hk]at h
  simp only[Bool.and_eq_true,Bool.not_eq_true',List.isEmpty_eq_false_iff]at h
  intro e
  have h1:=(cj false t.text).1
  rw[e]at h1
  have:=List.length_pos_iff.2 h.1.2
  simp at h1
  exact h.1.2 h1
 ·split<;>simp
def Pk {α:Type}{p:α->Bool}{l:List α}{k:Nat}{x:α}(h:l[k]? = some x)(hp:p x=true):l.any p=true:=List.any_eq_true.2 ⟨x,List.mem_of_getElem? h,hp⟩
def GO {l:List Tk}(h:(l.any fun t=>!cR t)=true):fu l=8:=by unfold fu;rw[if_pos (.inl h)]
def GN {l:List Tk}(h:jF l=true):fu l=8:=by unfold fu;rw[if_pos (.inr h)]
def um {l:List Tk}(h1:(l.any fun t=>!cR t)=false)(h2:jF l=false)(h:512<l.length\/16384<(bu l).length):fu l=4:=by
 unfold fu;rw[if_neg (by simp[h1,h2]),if_pos h]
def JR {l:List Tk}(h1:(l.any fun t=>!cR t)=false)(h2:jF l=false)(h:¬(512<l.length\/16384<(bu l).length)):fu l=0:=by
 unfold fu;rw[if_neg (by simp[h1,h2]),if_neg h]
def JS {l:List Tk}(h:fu l=0):jf l=bu l:=by unfold jf;rw[if_pos h]
def pT {l:List Tk}{e:Int}(h:fu l=e)(he:e≠0):jf l=[]:=by unfold jf;rw[if_neg (by omega)]
def H4:bu []=[]:=rfl
def yU {l:List Tk}(hs:∀ t∈l,t.okTo 1000000/\t.attrs.length<=30)(hl:l.length<=512)(k:Nat):(bu (l.take k)).length<=111104063488:=by
 have h1:(bu (l.take k)).length<=(l.take k).length*217000124:=oK (fun t ht=>by
  obtain⟨⟨_,h2,h3,h4⟩,h30⟩:=hs t (List.mem_of_mem_take ht)
  have:=(sd h30 h2 h3 h4).2
  omega)
 have h2:(l.take k).length<=512:=by simp;omega
 exact Nat.le_trans h1 (Nat.le_trans (Nat.mul_le_mul_right 217000124 h2) (by decide))
def sY {l:List Tk}{k:Nat}(h:pj l k)(hn:∀ a b,l[k-1]? = some a->l[k]? = some b->0<k -> ¬(a.kind=4/\b.kind=4)):pj l (k+1):=by
 intro i a b hi ha hb
 by_cases e:i+1=k
 ·subst e
  exact hn a b (by simpa using ha) hb (by omega)
 ·exact h i a b (by omega) ha hb
def JQ (t:Tk)(h:t.okTo be)(nm:Nat):Ev cx 84 nm [.agg (bE t)] ap.nil (.bool (!cR t)) []:=by
 have hc:=zC t h
 unfold OH at hc
 generalize cR t=b at hc ⊢
 cases b<;>(
  refine bi call84 func84 rfl (by kernel_rfl) rfl ?_;intro b0 hb0
  (repeat' first|simp only[ak,aj,results84,ntmps84,al,ay,bE,Bt,Bf,ai,seval,ah]|exact rfl|refine aa (v:=.any) ?_|(first|(refine ad ?_ (hc _) ?_)|(refine ab ?_ (fun _=>hc _) ?_))|((first|apply Ca|apply Cb)<;>intro hb)|refine Ai (by omega) ?_|(apply Ai<;>intro hb)|refine Fin.pure ?_ ?_ ?_|simp only[ao]))
def NK (l:List Tk)(hl:l.length<=600)(hs:∀ t∈l,t.okTo 1000000/\t.attrs.length<=30)(nm:Nat):Ev cx 48 nm [.sl false 4 (l.map bE)] ap.nil (.tup [.str (jf l),.int .i64 (fu l)]) []:=by
  have hlim:∀ t∈l,t.okTo be:=fun t ht=>by
    obtain⟨⟨h1,h2,h3,h4⟩,_⟩:=hs t ht
    unfold be
    exact⟨by omega,by omega,by omega,fun a ha=>by have:=h4 a ha;omega⟩
  have hcf:=nZ l 84 [] (fun t=>!cR t) (fun t ht nm=>JQ t (hlim t ht) nm) (by unfold be;omega) rfl
  cases hany:(l.any fun t=>!cR t) with
  | true =>
    rw[hany]at hcf
    have he:=GO hany
    have hj:=pT he (by omega)
    refine bi call48 func48 rfl (by kernel_rfl) rfl ?_;intro b0 hb0;have zF:=Ai results48 ntmps48
    (repeat' first|simp only[ak,aj,zF,al,he,hj,ai,seval,ah]|exact rfl|refine aa (v:=.any) ?_|(first|(refine ad ?_ (hcf _) ?_)|(refine ab ?_ (fun _=>hcf _) ?_))|refine aA (by decide +kernel) ?_|((first|apply Ca|apply Cb)<;>intro hb)|refine Ai (by omega) ?_|(apply Ai<;>intro hb)|refine Fin.pure ?_ ?_ ?_|simp only[ao])
  | false =>
    rw[hany]at hcf
    refine bi call48 func48 rfl (by kernel_rfl) rfl ?_;intro b0 hb0;have zF:=Ai results48 ntmps48
    repeat' first|simp only[ak,aj,zF,al,Lm,ai,seval,ah]|exact rfl|refine aa (v:=.any) ?_|(first|(refine ad ?_ (hcf _) ?_)|(refine ab ?_ (fun _=>hcf _) ?_))|refine aA (by decide +kernel) ?_|((first|apply Ca|apply Cb)<;>intro hb)|refine Ai (by omega) ?_|(apply Ai<;>intro hb)
    (refine aR bR (fun x:Nat=>l.length-x) (fun x=>x<=l.length/\pj l x) (b0+16) (fun x=>[(0,.sl false 4 (l.map bE)),(11,.sl false 4 (l.map bE)),(12,.int .i64 l.length),(13,.int .i64 x)]) (fun x=>[]) (0) [] ?_ ?_ ?_ ?_;rotate_left 1;(focus (show b0<=_;omega));(focus (refine⟨?_,?_⟩<;>(try simp only[aX,aF,Lm,ai,seval,ah,ao])<;>(try omega)));rotate_left 1)
    · exact⟨Nat.zero_le _,fun i a b hi=>by omega⟩
    · rintro k ⟨hk,hadj⟩
      by_cases hlt:k<l.length
      · obtain ⟨t,ht⟩:∃ t,l[k]? = some t:=⟨_,List.getElem?_eq_getElem hlt⟩
        have hat:=Fg ht
        have hd1:decide (k<l.length)=true:=decide_eq_true hlt
        have hwk:IntKind.i64.wrap ((k:Int)+1)=((k+1:Nat):Int):=bf
        by_cases h0:k=0
        · subst h0
          have hg:pj l (0+1):=fun i a b hi=>by omega
          have hd9:decide ((0:Int)<(l.length:Int))=true:=cn
          repeat' first|simp only[ak,aj,zF,al,ay,hat,bE,hd1,hd9,hlt,Int.lt_irrefl,Nat.lt_irrefl,Lm,ai,seval,ah]|exact rfl|refine aa (v:=.any) ?_|refine aA (by decide +kernel) ?_|((first|apply Ca|apply Cb)<;>intro hb)|refine Ai (by omega) ?_|(apply Ai<;>intro hb)
          all_goals ((refine aD bR (0+1) [] ?_ ?_ ?_ ?_;rotate_left 2;(focus (show b0<=_;omega));(focus (refine⟨?_,?_⟩<;>(try simp only[aX,aF,hwk,show IntKind.i64.wrap 1=1 from by decide,Lm,ai,seval,ah,ao])<;>(try omega)))))
          all_goals (first|(show l.length-(0+1)<l.length-0;omega)|exact⟨by omega,hg⟩|skip)
        · obtain⟨m,rfl⟩:∃ m,k=m+1:=⟨k-1,by omega⟩
          have hlt0:m<l.length:=by omega
          obtain⟨p,hp⟩:∃ p,l[m]? = some p:=⟨_,List.getElem?_eq_getElem hlt0⟩
          have hpt:=Fg hp
          have hd0:decide ((0:Int)<((m+1:Nat):Int))=true:=cn
          have hwm:IntKind.i64.wrap (((m+1:Nat):Int)-1)=((m:Nat):Int):=by rw[bf];omega
          have hcs:(((t.kind:Int)==4)=false/\pj l (m+1+1))\/(((t.kind:Int)==4)=true/\((p.kind:Int)==(t.kind:Int))=false/\pj l (m+1+1))\/(((t.kind:Int)==4)=true/\((p.kind:Int)==(t.kind:Int))=true/\fu l=8):=by
            by_cases c2:t.kind=4
            · by_cases c1:p.kind=4
              · right;right
                exact⟨by rw[c2];rfl,by rw[c1,c2];rfl,GN (Im hp ht c1 c2)⟩
              · right;left
                refine⟨by rw[c2];rfl,beq_false_of_ne (by omega),sY hadj (fun a b ha hb _ h=>?_)⟩
                rw[Nat.add_sub_cancel,hp]at ha;cases ha;exact c1 h.1
            · left
              refine⟨beq_false_of_ne (by omega),sY hadj (fun a b ha hb _ h=>?_)⟩
              rw[ht]at hb;cases hb;exact c2 h.2
          rcases hcs with ⟨c1,hg⟩|⟨c1,c2,hg⟩|⟨c1,c2,he⟩
          · repeat' first|simp only[ak,aj,zF,al,ay,hat,hpt,bE,hd0,hd1,hlt,hlt0,hwm,c1,Lm,ai,seval,ah]|exact rfl|refine aa (v:=.any) ?_|refine aA (by decide +kernel) ?_|((first|apply Ca|apply Cb)<;>intro hb)|refine Ai (by omega) ?_|(apply Ai<;>intro hb)
            all_goals ((refine aD bR (m+1+1) [] ?_ ?_ ?_ ?_;rotate_left 2;(focus (show b0<=_;omega));(focus (refine⟨?_,?_⟩<;>(try simp only[aX,aF,hwk,Lm,ai,seval,ah,ao])<;>(try omega)))))
            all_goals (first|(show l.length-(m+1+1)<l.length-(m+1);omega)|exact⟨by omega,hg⟩|skip)
          · repeat' first|simp only[ak,aj,zF,al,ay,hat,hpt,bE,hd0,hd1,hlt,hlt0,hwm,c1,c2,Lm,ai,seval,ah]|exact rfl|refine aa (v:=.any) ?_|refine aA (by decide +kernel) ?_|((first|apply Ca|apply Cb)<;>intro hb)|refine Ai (by omega) ?_|(apply Ai<;>intro hb)
            all_goals ((refine aD bR (m+1+1) [] ?_ ?_ ?_ ?_;rotate_left 2;(focus (show b0<=_;omega));(focus (refine⟨?_,?_⟩<;>(try simp only[aX,aF,hwk,Lm,ai,seval,ah,ao])<;>(try omega)))))
            all_goals (first|(show l.length-(m+1+1)<l.length-(m+1);omega)|exact⟨by omega,hg⟩|skip)
          · have hj:=pT he (by omega)
            (repeat' first|simp only[ak,aj,zF,al,ay,hat,hpt,bE,hd0,hd1,hlt,hlt0,hwm,c1,c2,he,hj,Lm,ai,seval,ah]|exact rfl|refine aa (v:=.any) ?_|refine aA (by decide +kernel) ?_|((first|apply Ca|apply Cb)<;>intro hb)|refine Ai (by omega) ?_|(apply Ai<;>intro hb)|refine Fin.pure ?_ ?_ ?_|simp only[ao])
      · have hke:k=l.length:=by omega
        subst hke
        have hd1:decide (l.length<l.length)=false:=bo
        have hadj':jF l=false:=qu.2 hadj
        by_cases h512:512<l.length
        · have he:=um hany hadj' (.inl h512)
          have hj:=pT he (by omega)
          have hd2:decide ((512:Int)<(l.length:Int))=true:=cn
          (repeat' first|simp only[ak,aj,zF,al,hd1,hd2,he,hj,Lm,ai,seval,ah]|exact rfl|refine aa (v:=.any) ?_|refine aA (by decide +kernel) ?_|((first|apply Ca|apply Cb)<;>intro hb)|refine Ai (by omega) ?_|(apply Ai<;>intro hb)|refine Fin.pure ?_ ?_ ?_|simp only[ao])
        · have hd2:decide ((512:Int)<(l.length:Int))=false:=bo
          have htl:=yU hs (by omega)
          repeat' first|simp only[ak,aj,zF,al,hd1,hd2,Lm,ai,seval,ah]|exact rfl|refine aa (v:=.any) ?_|refine aA (by decide +kernel) ?_|((first|apply Ca|apply Cb)<;>intro hb)|refine Ai (by omega) ?_|(apply Ai<;>intro hb)
          (refine aR bR (fun x:Nat=>l.length-x) (fun x=>x<=l.length/\(bu (l.take x)).length<=16384) (b0+16) (fun x=>[(0,.sl false 4 (l.map bE)),(6,.ptr b0 0 0),(40,.sl false 4 (l.map bE)),(41,.int .i64 l.length),(42,.int .i64 x)]) (fun x=>[(b0,bS false b0 (b0+1) (bu (l.take x))),(b0+1,rK (bu (l.take x)))]) (0) [some (b0+80),none] ?_ ?_ ?_ ?_;rotate_left 1;(focus (show b0<=_;omega));(focus (refine⟨?_,?_⟩<;>(try simp only[aX,B6,Dv,Dw,gi,dY,gr,dP,aF,Lm,List.take_zero,H4,ai,seval,ah,ao])<;>(try omega)));rotate_left 1)
          · exact⟨Nat.zero_le _,by simp[bu]⟩
          · rintro j ⟨hj,hsz⟩
            by_cases hlt3:j<l.length
            · obtain⟨t,ht⟩:∃ t,l[j]? = some t:=⟨_,List.getElem?_eq_getElem hlt3⟩
              have hat:=Fg ht
              have hd3:decide (j<l.length)=true:=decide_eq_true hlt3
              have hwj:IntKind.i64.wrap ((j:Int)+1)=((j+1:Nat):Int):=bf
              have htok:cR t=true:=by
                cases hh:cR t with
                | true=>rfl
                | false=>rw[Pk (p:=fun t=>!cR t) ht (by simp[hh])]at hany;cases hany
              have hwr:=Ed t (hs t (List.mem_of_getElem? ht)).1 htok
              have hne:=LU htok
              have hnx:=D3 ht
              have b2:=htl (j+1)
              have hll:(bu (l.take j)).length+(dV t).length<=be:=by
                rw[hnx,List.length_append]at b2;unfold be;omega
              have hll2:(bu (l.take (j+1))).length<=be:=by unfold be;omega
              by_cases hbig:16384<(bu (l.take (j+1))).length
              · have hbl:16384<(bu l).length:=by
                  refine Nat.lt_of_lt_of_le hbig ?_
                  conv=>rhs;rw[<- List.take_append_drop (j+1) l]
                  unfold bu
                  rw[List.flatMap_append,List.length_append];omega
                have he:=um hany hadj' (.inr hbl)
                have hjt:=pT he (by omega)
                have hd4:decide ((16384:Int)<((bu (l.take (j+1))).length:Int))=true:=cn
                (repeat' first|simp only[ak,aj,zF,al,ay,hat,bE,hd3,hlt3,hd4,he,hjt,hnx.symm,au,Lm,ai,seval,ah]|exact rfl|refine aa (v:=.any) ?_|(first|(refine ad ?_ (hwr _) ?_)|(refine ab ?_ (fun _=>hwr _) ?_))|(refine ac ?_ [b0,b0+1] (nR false b0 (b0+1) (bu (l.take j)) _ _ (dV t) hne hll (by omega) ?_ ?_ ag (by omega) (by omega)) ?_ ?_)|(refine ac ?_ [b0,b0+128] (sC false b0 (b0+128) (bu (l.take (j+1))) _ _ (by omega) ?_ ?_ ag (by omega) (by omega)) ?_ ?_)|refine aA (by decide +kernel) ?_|((first|apply Ca|apply Cb)<;>intro hb)|refine Ai (by omega) ?_|(apply Ai<;>intro hb)|refine Fin.pure ?_ ?_ ?_|simp only[ao])
              · have hd4:decide ((16384:Int)<((bu (l.take (j+1))).length:Int))=false:=bo
                repeat' first|simp only[ak,aj,zF,al,ay,hat,bE,hd3,hlt3,hd4,hnx.symm,au,Lm,ai,seval,ah]|exact rfl|refine aa (v:=.any) ?_|(first|(refine ad ?_ (hwr _) ?_)|(refine ab ?_ (fun _=>hwr _) ?_))|(refine ac ?_ [b0,b0+1] (nR false b0 (b0+1) (bu (l.take j)) _ _ (dV t) hne hll (by omega) ?_ ?_ ag (by omega) (by omega)) ?_ ?_)|(refine ac ?_ [b0,b0+128] (sC false b0 (b0+128) (bu (l.take (j+1))) _ _ (by omega) ?_ ?_ ag (by omega) (by omega)) ?_ ?_)|refine aA (by decide +kernel) ?_|((first|apply Ca|apply Cb)<;>intro hb)|refine Ai (by omega) ?_|(apply Ai<;>intro hb)
                all_goals ((refine aD bR (j+1) [some b0,some (b0+128)] ?_ ?_ ?_ ?_;rotate_left 2;(focus (show b0<=_;omega));(focus (refine⟨?_,?_⟩<;>(try simp only[aX,aF,hwj,hnx.symm,lR,gT,gr,dP,Option.getD_some,Option.isSome_some,Lm,ai,seval,ah,ao])<;>(try omega)))))
                all_goals (first|(show l.length-(j+1)<l.length-j;omega)|exact⟨by omega,by omega⟩|skip)
            · have hje:j=l.length:=by omega
              subst hje
              rw[List.take_length]at hsz
              have hd3:decide (l.length<l.length)=false:=bo
              have he:=JR hany hadj' (by omega)
              have hjt:=JS he
              have hll:(bu l).length<=be:=by unfold be;omega
              (repeat' first|simp only[ak,aj,zF,al,hd3,he,hjt,List.take_length,Lm,ai,seval,ah]|exact rfl|refine aa (v:=.any) ?_|(refine ac ?_ [b0,b0+1] (pq false b0 (b0+1) (bu l) _ _ hll (by omega) ?_ ?_ ag (by omega) (by omega)) ?_ ?_)|refine aA (by decide +kernel) ?_|((first|apply Ca|apply Cb)<;>intro hb)|refine Ai (by omega) ?_|(apply Ai<;>intro hb)|refine Fin.pure ?_ ?_ ?_|simp only[ao])
end Go.Proofs.YtlnlopnpcmahgaaGreatDoor
