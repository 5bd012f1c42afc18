/-
 Texts joined: XLs,XLg,XLh,XLp,XLl.
-/
import Derived.Test.YtlnlopnpcmahgaaGreatDoorQn
import Derived.Test.YtlnlopnpcmahgaaGreatDoorQo
import Derived.Test.YtlnlopnpcmahgaaGreatDoorQh
import Derived.Test.YtlnlopnpcmahgaaGreatDoorQg
set_option linter.all false
namespace Go.Proofs.YtlnlopnpcmahgaaGreatDoor
set_option maxRecDepth 100000
set_option maxHeartbeats 32000000
open Go Go.RowKit Vm Go.Lib Tryz
open Vm renaming aH->Ca,aL->Cb
open And renaming intro->Ai
open List renaming length_map->Lm,not_mem_nil->Ln,map_nil->Lo,map_cons->Lc,mem_cons->Lk
open Bool renaming not_false->Bf,not_true->Bt
def xL {s:List UInt8}(h:(cL s).isSome=true)(hl:s.length<=16384):az s=0:=eD.2 ⟨hl,h⟩
def Bi {s:List UInt8}(q:Bool)(h:(cL s).isSome=true)(hl:s.length<=1027):qE q s=0/\ul q s=bo q s:=by
 have hw:=bm q s
 have h0:qE q s=0:=by
  unfold qE
  rw[if_neg (fun e=>e (xL h (by omega))),if_neg (by omega)]
 exact⟨h0,by unfold ul;rw[if_pos h0]⟩
def rX {q:Bool}{d r:List UInt8}(n:Nat):bo q (d++r.take n)=bo q d++bo q (r.take n):=vg q d _
def uY (c:UInt8):(IntKind.u8.wrap ((BitVec.ofInt IntKind.u8.bits (c.toNat:Int) &&& BitVec.ofInt IntKind.u8.bits 192).toNat:Int)==128)=lZ c:=by
 have:∀ n:Fin 256,(IntKind.u8.wrap ((BitVec.ofInt IntKind.u8.bits (n.val:Int) &&& BitVec.ofInt IntKind.u8.bits 192).toNat:Int)==128)=(decide (128<=n.val)&&decide (n.val<192)):=by decide +kernel
 exact this ⟨c.toNat,c.toNat_lt⟩
def Hw {r:List UInt8}{n:Nat}(h:n<r.length):∃ b,r[n]? = some b:=⟨_,List.getElem?_eq_getElem h⟩
def ug (s:List UInt8)(q:Bool)(hd:(cL s).isSome=true)(hs:s.length<=1000000)(nm:Nat):Ev cx 135 nm [.str s,.bool q] am.nil (.str (bo q s)) []:=by
  refine aV call135 func135 rfl (by kernel_rfl) rfl ?_;intro b0 hb0;have zF:=Ai results135 ntmps135
  repeat' first|simp only[aj,ag,zF,ap,ai,seval,ah]|exact rfl|refine aa (v:=.any) ?_|((first|apply Ca|apply Cb)<;>intro hb)|refine Ai (by omega) ?_|(apply Ai<;>intro hb)
  (refine ay bu (fun x:List UInt8×List UInt8=>x.2.length) (fun x=>s=x.1++x.2/\(cL x.2).isSome=true) (b0+16) (fun x=>[(0,.str x.2),(1,.bool q),(5,.ptr b0 0 0)]) (fun x=>[(b0,bS false b0 (b0+1) (bo q x.1)),(b0+1,rK (bo q x.1))]) (([],s)) [some (b0+16),none] ?_ ?_ ?_ ?_;rotate_left 1;(focus (show b0<=_;omega));(focus (refine⟨?_,?_⟩<;>(try simp only[aM,wV,pW,x9,ya,gY,eN,fY,dm,j8,ai,seval,ah,al])<;>(try omega)));rotate_left 1)
  · exact⟨rfl,hd⟩
  · rintro ⟨d,r⟩ ⟨hsr,hr⟩
    simp only at hsr hr
    have hlen:d.length+r.length<=1000000:=by rw[hsr]at hs;simpa using hs
    have hwd:=bm q d
    by_cases hne:r=[]
    · subst hne
      have e0:(([]:List UInt8)==[])=true:=rfl
      have e1:d=s:=by rw[hsr];simp
      subst e1
      have hll:(bo q d).length<=aS:=by unfold aS;omega
      (repeat' first|simp only[aj,ag,zF,ap,e0,ai,seval,ah]|exact rfl|refine aa (v:=.any) ?_|(refine aJ ?_ [b0,b0+1] (lT false b0 (b0+1) (bo q d) _ _ hll (by omega) ?_ ?_ aP (by omega) (by omega)) ?_ ?_)|((first|apply Ca|apply Cb)<;>intro hb)|refine Ai (by omega) ?_|(apply Ai<;>intro hb)|refine Fin.pure ?_ ?_ ?_|simp only[al])
    · have e0:(r==[])=false:=beq_false_of_ne hne
      have hrl:0<r.length:=List.length_pos_iff.2 hne
      obtain⟨j,j1,j2,j3,j4⟩:=BT hr (k:=min r.length 1024) (by omega)
      have hmin:min (r.length:Int) 1024=((min r.length 1024:Nat):Int):=by omega
      generalize hk0:min r.length 1024=k0 at *
      repeat' first|simp only[aj,ag,zF,ap,e0,hmin,Bf,ai,seval,ah]|exact rfl|refine aa (v:=.any) ?_|((first|apply Ca|apply Cb)<;>intro hb)|refine Ai (by omega) ?_|(apply Ai<;>intro hb)
      (refine ay bu (fun x:Nat=>j-x) (fun x=>k0<=x/\x<=j) (b0+16) (fun x=>[(0,.str r),(1,.bool q),(5,.ptr b0 0 0),(6,.int .i64 x)]) (fun x=>[(b0,bS false b0 (b0+1) (bo q d)),(b0+1,rK (bo q d))]) (k0) [some b0,some (b0+1)] ?_ ?_ ?_ ?_;rotate_left 1;(focus (show b0<=_;omega));(focus (refine⟨?_,?_⟩<;>(try simp only[aM,ja,e8,fY,dm,Option.getD_some,Option.isSome_some,ai,seval,ah,al])<;>(try omega)));rotate_left 1)
      · exact⟨Nat.le_refl _,j1⟩
      · rintro n ⟨hn1,hn2⟩
        have hnr:n<=r.length:=by omega
        by_cases hgo:n<r.length /\ ∀ b,r[n]? = some b->lZ b=true
        · obtain⟨hlt,hcb⟩:=hgo
          obtain⟨b,hb⟩:=Hw hlt
          have hc:=hcb b hb
          have hca:=uY b
          rw[hc]at hca
          have hnj:n≠j:=fun e=>by
            subst e
            have:=j4 b hb
            rw[hc]at this;cases this
          have hd1:decide (n<r.length)=true:=decide_eq_true hlt
          have hwk:IntKind.i64.wrap ((n:Int)+1)=((n+1:Nat):Int):=aK
          repeat' first|simp only[aj,ag,zF,ap,hb,hd1,hlt,hca,hwk,ai,seval,ah]|exact rfl|refine aa (v:=.any) ?_|((first|apply Ca|apply Cb)<;>intro hb)|refine Ai (by omega) ?_|(apply Ai<;>intro hb)
          all_goals ((refine au bu (n+1) [some b0,some (b0+1)] ?_ ?_ ?_ ?_;rotate_left 2;(focus (show b0<=_;omega));(focus (refine⟨?_,?_⟩<;>(try simp only[aM,ja,e8,fY,dm,hwk,Option.getD_some,Option.isSome_some,ai,seval,ah,al])<;>(try omega)))))
          all_goals (first|(show j-(n+1)<j-n;omega)|(show k0<=n+1/\n+1<=j;omega)|skip)
        · have hstop:∀ b,r[n]? = some b->lZ b=false:=by
            intro b hb
            cases hc:lZ b with
            | false=>rfl
            | true=>exact absurd ⟨(List.getElem?_eq_some_iff.1 hb).1,fun b' hb'=>by rw[hb]at hb';cases hb';exact hc⟩ hgo
          obtain⟨hc1,hc2⟩:=EH hr hnr hstop
          have hn27:n<=1027:=by omega
          have htl:(r.take n).length=n:=by rw[List.length_take];omega
          obtain⟨hp1,hp2⟩:=Bi q hc1 (by omega)
          have hput:=FU (r.take n) q (by unfold aS;omega)
          rw[hp1,hp2]at hput
          have hw2:=bm q (r.take n)
          have hne2:bo q (r.take n)≠[]:=by
            intro e
            have:=congrArg List.length e
            simp only[List.length_nil]at this
            omega
          have hll:(bo q d).length+(bo q (r.take n)).length<=aS:=by unfold aS;omega
          have hint:(n:Int)<=(r.length:Int):=by omega
          have hx:bo q d++bo q (r.take n)=bo q (d++r.take n):=(rX n).symm
          have hdl:(r.drop n).length=r.length-n:=by simp
          by_cases hlt:n<r.length
          · obtain⟨b,hb⟩:=Hw hlt
            have hca:=uY b
            rw[hstop b hb]at hca
            have hd1:decide (n<r.length)=true:=decide_eq_true hlt
            repeat' first|simp only[aj,ag,zF,ap,hb,hd1,hlt,hca,hnr,hint,aI,List.take_zero,ai,seval,ah]|exact rfl|refine aa (v:=.any) ?_|(first|(refine ac ?_ (hput _) ?_)|(refine ab ?_ (fun _=>hput _) ?_))|(refine aJ ?_ [b0,b0+1] (kQ false b0 (b0+1) (bo q d) _ _ (bo q (r.take n)) hne2 hll (by omega) ?_ ?_ aP (by omega) (by omega)) ?_ ?_)|((first|apply Ca|apply Cb)<;>intro hb)|refine Ai (by omega) ?_|(apply Ai<;>intro hb)
            all_goals ((refine au bu ((d++r.take n,r.drop n)) [some b0,some (b0+368)] ?_ ?_ ?_ ?_;rotate_left 2;(focus (show b0<=_;omega));(focus (refine⟨?_,?_⟩<;>(try simp only[aM,ja,e8,fY,dm,hx,Option.getD_some,Option.isSome_some,ai,seval,ah,al])<;>(try omega)))))
            all_goals (first|(show(r.drop n).length<r.length;omega)|(refine⟨?_,hc2⟩;rw[hsr,List.append_assoc,List.take_append_drop])|skip)
          · have hd1:decide (n<r.length)=false:=decide_eq_false hlt
            repeat' first|simp only[aj,ag,zF,ap,hd1,hlt,hnr,hint,aI,List.take_zero,ai,seval,ah]|exact rfl|refine aa (v:=.any) ?_|(first|(refine ac ?_ (hput _) ?_)|(refine ab ?_ (fun _=>hput _) ?_))|(refine aJ ?_ [b0,b0+1] (kQ false b0 (b0+1) (bo q d) _ _ (bo q (r.take n)) hne2 hll (by omega) ?_ ?_ aP (by omega) (by omega)) ?_ ?_)|((first|apply Ca|apply Cb)<;>intro hb)|refine Ai (by omega) ?_|(apply Ai<;>intro hb)
            all_goals ((refine au bu ((d++r.take n,r.drop n)) [some b0,some (b0+368)] ?_ ?_ ?_ ?_;rotate_left 2;(focus (show b0<=_;omega));(focus (refine⟨?_,?_⟩<;>(try simp only[aM,ja,e8,fY,dm,hx,Option.getD_some,Option.isSome_some,ai,seval,ah,al])<;>(try omega)))))
            all_goals (first|(show(r.drop n).length<r.length;omega)|(refine⟨?_,hc2⟩;rw[hsr,List.append_assoc,List.take_append_drop])|skip)
def kU (t:Tk)(k:Nat):List UInt8:=[60]++t.name++cX (t.attrs.take k)
def rj (t:Tk):60::t.name=kU t 0:=by simp[kU,cX]
def wJ {t:Tk}{k:Nat}{a:Pr}(h:t.attrs[k]? = some a):kU t k++(32::(a.name++[61,34]++bo true a.value++[34]))=kU t (k+1):=by
 unfold kU
 rw[uT h];simp[jC]
def HE (t:Tk)(q y:Nat):bK true q (.own y 0 (t.name.length+1))=bS false q y (kU t 0):=by
 rw[<- rj,pC false q y (by simp)];rfl
def ri (t:Tk)(k:Nat)(h:t.okTo 1000000)(hl:t.attrs.length<=30):(kU t k).length<=220000000:=by
 obtain⟨h1,h2,h3,h4⟩:=h
 have hw:=(oH (t:=⟨1,t.name,t.attrs.take k,t.text⟩) (n:=1000000) (by simp;omega) h2 h3 (fun a ha=>h4 a (List.mem_of_mem_take ha))).1
 simp only at hw
 simp only[kU,List.length_append,List.length_cons,List.length_nil]
 omega
def mU (t:Tk):kU t t.attrs.length=[60]++t.name++cX t.attrs:=by unfold kU;rw[List.take_length]
def EF (t:Tk)(h:t.okTo 1000000)(hat:dV t.attrs=true)(k3:Bool)(q2:((t.kind:Int)==2)=false)(q4:((t.kind:Int)==4)=false)(q3:((t.kind:Int)==3)=k3)(nm:Nat):Ev cx 87 nm [.agg (bv t)] am.nil (.str (if k3 then (kU t t.attrs.length++[47])++[62] else kU t t.attrs.length++[62])) []:=by
 have hwl:=fun k=>ri t k h (by have:=(dO.1 hat).1;omega)
 obtain⟨hat1,hat2⟩:=dO.1 hat
 obtain⟨hl,hnl,htl,hal⟩:=h
 have hll1:(60::t.name).length<=aS:=by unfold aS;simp;omega
 have hbk:=HE t
 have hw0:=rj t
 refine aV call87 func87 rfl (by kernel_rfl) rfl ?_;intro b0 hb0;have zF:=Ai results87 ntmps87
 repeat' first|simp only[aj,ag,zF,ap,bv,q2,q4,dB,aI,ai,seval,ah]|exact rfl|refine aa (v:=.any) ?_|(refine aJ ?_ [b0+128] (wH false (b0+128) (60::t.name) (by simp) hll1 _ _ ?_ aP (by omega)) ?_ ?_)|refine aq (ps:=[(1,6)]) (by decide +kernel) (by simp only[List.forall_mem_cons,List.getD_cons_zero,List.getD_cons_succ,zF,ap,bv,q2,q4,dB,aI,ai,seval,ah]<;>(try simp)<;>(try omega)) ?_|refine ao (by decide +kernel) ?_|((first|apply Ca|apply Cb)<;>intro hb)|refine Ai (by omega) ?_|(apply Ai<;>intro hb)
 (refine ay bu (fun x:Nat=>t.attrs.length-x) (fun x=>x<=t.attrs.length) (b0+16) (fun x=>[(1,.ptr b0 0 0),(3,.ptr (b0+1) 0 0),(24,.sl false 2 (t.attrs.map eh)),(25,.int .i64 t.attrs.length),(26,.int .i64 x)]) (fun x=>[(b0,⟨4,[bv t]⟩),(b0+1,bS false (b0+1) (b0+2) (kU t x)),(b0+2,rK (kU t x))]) (0) [some b0,some (b0+128),some (b0+192)] ?_ ?_ ?_ ?_;rotate_left 1;(focus (show b0<=_;omega));(focus (refine⟨?_,?_⟩<;>(try simp only[aM,ax,gn,bv,hbk,hw0,List.length_cons,ja,e8,fY,dm,Option.getD_some,Option.isSome_some,Lm,ai,seval,ah,al])<;>(try omega)));rotate_left 1)
 ·exact Nat.zero_le _
 ·intro k hk
  by_cases hlt:k<t.attrs.length
  ·obtain⟨a,ha⟩:∃ a,t.attrs[k]? = some a:=⟨_,List.getElem?_eq_getElem hlt⟩
   obtain⟨hs1,hs2⟩:=hal a (List.mem_of_getElem? ha)
   have hat0:=wa ha
   have hd:decide (k<t.attrs.length)=true:=decide_eq_true hlt
   have hwk:IntKind.i64.wrap ((k:Int)+1)=((k+1:Nat):Int):=aK
   have hov:=hat2 k a hlt ha
   simp only[Fj,Bool.and_eq_true,decide_eq_true_eq]at hov
   have hpv:=ug a.value true (eD.1 hov.2).2 hs2
   have hnx:=wJ ha
   have hew:=bm true a.value
   have l1:(a.name++[61,34]).length=a.name.length+2:=by simp
   have l2:(a.name++[61,34]++bo true a.value).length=a.name.length+2+(bo true a.value).length:=by simp;omega
   have hz:=hwl (k+1)
   have hz2:(kU t k).length+(32::(a.name++[61,34]++bo true a.value++[34])).length<=aS:=by
    rw[<- List.length_append,hnx];unfold aS;omega
   repeat' first|simp only[aj,ag,zF,ap,ax,bv,hat0,eh,hd,hlt,l1,l2,aI,Lm,ai,seval,ah]|exact rfl|refine aa (v:=.any) ?_|(first|(refine ac ?_ (hpv _) ?_)|(refine ab ?_ (fun _=>hpv _) ?_))|(refine aJ ?_ [b0+1,b0+2] (kQ false (b0+1) (b0+2) (kU t k) _ _ (32::(a.name++[61,34]++bo true a.value++[34])) (by simp) hz2 (by omega) ?_ ?_ aP (by omega) (by omega)) ?_ ?_)|refine aq (ps:=[(1,6)]) (by decide +kernel) (by simp only[List.forall_mem_cons,List.getD_cons_zero,List.getD_cons_succ,zF,ap,ax,bv,hat0,eh,hd,hlt,l1,l2,aI,Lm,ai,seval,ah]<;>(try simp)<;>(try omega)) ?_|refine ao (by decide +kernel) ?_|((first|apply Ca|apply Cb)<;>intro hb)|refine Ai (by omega) ?_|(apply Ai<;>intro hb)
   all_goals ((refine au bu (k+1) [some b0,some (b0+1),some (b0+240)] ?_ ?_ ?_ ?_;rotate_left 2;(focus (show b0<=_;omega));(focus (refine⟨?_,?_⟩<;>(try simp only[aM,ax,gn,bv,hwk,hnx,ja,e8,fY,dm,Option.getD_some,Option.isSome_some,Lm,ai,seval,ah,al])<;>(try omega)))))
   all_goals (first|(show t.attrs.length-(k+1)<t.attrs.length-k;omega)|(show k+1<=t.attrs.length;omega)|skip)
  ·have hke:k=t.attrs.length:=by omega
   subst hke
   have hd:decide (t.attrs.length<t.attrs.length)=false:=aR
   have hz:=hwl t.attrs.length
   have z1:(kU t t.attrs.length).length+1<=aS:=by unfold aS;omega
   have z2:(kU t t.attrs.length++[47]).length+1<=aS:=by simp only[List.length_append,List.length_cons,List.length_nil];unfold aS;omega
   have z3:(kU t t.attrs.length++[62]).length<=aS:=by simp only[List.length_append,List.length_cons,List.length_nil];unfold aS;omega
   have z4:((kU t t.attrs.length++[47])++[62]).length<=aS:=by simp only[List.length_append,List.length_cons,List.length_nil];unfold aS;omega
   cases k3 with
   | true =>
    (repeat' first|simp only[zF,ap,ax,bv,hd,q3,aI,Lm,ai,seval,ah]|exact rfl|((first|(refine aJ ?_ [b0+1,b0+2] (mS false (b0+1) (b0+2) (kU t t.attrs.length) _ _ 47 z1 (by omega) ?_ ?_ aP (by omega) (by omega)) ?_ ?_)|(refine aJ ?_ [b0+1,b0+96] (lT false (b0+1) (b0+96) ((kU t t.attrs.length++[47])++[62]) _ _ z4 (by omega) ?_ ?_ aP (by omega) (by omega)) ?_ ?_));iterate 4 (focus (simp only[ag,zF,ap,ax,bv,hd,q3,aI,Lm,ai,seval,ah]<;>exact rfl)))|((refine aJ ?_ [b0+1,b0+80] (mS false (b0+1) (b0+80) (kU t t.attrs.length++[47]) _ _ 62 z2 (by omega) ?_ ?_ aP (by omega) (by omega)) ?_ ?_);iterate 4 (focus (simp only[ag,zF,ap,ax,bv,hd,q3,aI,Lm,ai,seval,ah]<;>exact rfl)))|refine aq (ps:=[(1,6)]) (by decide +kernel) (by simp only[List.forall_mem_cons,List.getD_cons_zero,List.getD_cons_succ,zF,ap,ax,bv,hd,q3,aI,Lm,ai,seval,ah]<;>(try simp)<;>(try omega)) ?_|refine ao (by decide +kernel) ?_|((first|apply Ca|apply Cb)<;>intro hb)|refine Ai (by omega) ?_|(apply Ai<;>intro hb)|refine Fin.pure ?_ ?_ ?_|simp only[al])
   | false =>
    (repeat' first|simp only[aj,ag,zF,ap,ax,bv,hd,q3,aI,Lm,ai,seval,ah]|exact rfl|refine aa (v:=.any) ?_|(refine aJ ?_ [b0+1,b0+2] (mS false (b0+1) (b0+2) (kU t t.attrs.length) _ _ 62 z1 (by omega) ?_ ?_ aP (by omega) (by omega)) ?_ ?_)|(refine aJ ?_ [b0+1,b0+80] (lT false (b0+1) (b0+80) (kU t t.attrs.length++[62]) _ _ z3 (by omega) ?_ ?_ aP (by omega) (by omega)) ?_ ?_)|refine aq (ps:=[(1,6)]) (by decide +kernel) (by simp only[List.forall_mem_cons,List.getD_cons_zero,List.getD_cons_succ,zF,ap,ax,bv,hd,q3,aI,Lm,ai,seval,ah]<;>(try simp)<;>(try omega)) ?_|refine ao (by decide +kernel) ?_|((first|apply Ca|apply Cb)<;>intro hb)|refine Ai (by omega) ?_|(apply Ai<;>intro hb)|refine Fin.pure ?_ ?_ ?_|simp only[al])
def yK (t:Tk)(h:t.okTo 1000000)(hok:dN t=true)(nm:Nat):Ev cx 87 nm [.agg (bv t)] am.nil (.str (c9 t)) []:=by
 obtain⟨hl,hnl,htl,hal⟩:=h
 have hk0:=hok
 unfold dN at hk0
 rcases gz t.kind with ⟨q1,q3,q2,q4,hkd⟩|⟨q1,q3,q2,q4,hkd⟩|⟨q1,q3,q2,q4,hkd⟩|⟨q1,q3,q2,q4,hkd⟩|⟨q1,q3,q2,q4,hk1,hk3,hk2,hk4⟩
 ·rw[if_pos (.inl hkd)]at hk0
  simp only[Bool.and_eq_true]at hk0
  have hw:c9 t=kU t t.attrs.length++[62]:=by unfold c9;rw[if_neg (by omega),if_neg (by omega),if_neg (by omega),mU]
  rw[hw]
  exact EF t ⟨hl,hnl,htl,hal⟩ hk0.1.2 false q2 q4 q3 nm
 ·rw[if_pos (.inr hkd)]at hk0
  simp only[Bool.and_eq_true]at hk0
  have hw:c9 t=(kU t t.attrs.length++[47])++[62]:=by unfold c9;rw[if_neg (by omega),if_neg (by omega),if_pos hkd,mU];simp
  rw[hw]
  exact EF t ⟨hl,hnl,htl,hal⟩ hk0.1.2 true q2 q4 q3 nm
 ·have hw:c9 t=60::47::(t.name++[62]):=by unfold c9;rw[if_neg (by omega),if_pos hkd];simp
  rw[hw]
  refine aV call87 func87 rfl (by kernel_rfl) rfl ?_;intro b0 hb0
  (repeat' first|simp only[aj,ag,results87,ntmps87,ap,bv,q1,q2,q3,q4,ai,seval,ah]|exact rfl|refine aa (v:=.any) ?_|refine aq (ps:=[(1,6)]) (by decide +kernel) (by simp only[List.forall_mem_cons,List.getD_cons_zero,List.getD_cons_succ,results87,ntmps87,ap,bv,q1,q2,q3,q4,ai,seval,ah]<;>(try simp)<;>(try omega)) ?_|refine ao (by decide +kernel) ?_|((first|apply Ca|apply Cb)<;>intro hb)|refine Ai (by omega) ?_|(apply Ai<;>intro hb)|refine Fin.pure ?_ ?_ ?_|simp only[al])
 ·rw[if_neg (by omega),if_neg (by omega),if_pos hkd]at hk0
  simp only[Bool.and_eq_true,decide_eq_true_eq]at hk0
  have hw:c9 t=bo false t.text:=by unfold c9;rw[if_pos hkd]
  rw[hw]
  refine aV call87 func87 rfl (by kernel_rfl) rfl ?_;intro b0 hb0
  (repeat' first|simp only[aj,ag,results87,ntmps87,ap,bv,q1,q2,q3,q4,ai,seval,ah]|exact rfl|refine aa (v:=.any) ?_|(first|(refine ac ?_ (ug t.text false (eD.1 hk0.2).2 htl _) ?_)|(refine ab ?_ (fun _=>ug t.text false (eD.1 hk0.2).2 htl _) ?_))|refine aq (ps:=[(1,6)]) (by decide +kernel) (by simp only[List.forall_mem_cons,List.getD_cons_zero,List.getD_cons_succ,results87,ntmps87,ap,bv,q1,q2,q3,q4,ai,seval,ah]<;>(try simp)<;>(try omega)) ?_|refine ao (by decide +kernel) ?_|((first|apply Ca|apply Cb)<;>intro hb)|refine Ai (by omega) ?_|(apply Ai<;>intro hb)|refine Fin.pure ?_ ?_ ?_|simp only[al])
 ·rw[if_neg (by omega),if_neg hk2,if_neg hk4]at hk0
  cases hk0
def EJ {t:Tk}(h:dN t=true):c9 t≠[]:=by
 unfold c9
 split
 ·rename_i hk
  unfold dN at h
  rw[if_neg (by omega),if_neg (by omega),if_pos hk]at h
  simp only[Bool.and_eq_true,Bool.not_eq_true',List.isEmpty_eq_false_iff]at h
  intro e
  have h1:=(bm false t.text).1
  rw[e]at h1
  have:=List.length_pos_iff.2 h.1.2
  simp at h1
  exact h.1.2 h1
 ·split<;>simp
def Cg {α:Type}{p:α->Bool}{l:List α}{k:Nat}{x:α}(h:l[k]? = some x)(hp:p x=true):l.any p=true:=List.any_eq_true.2 ⟨x,List.mem_of_getElem? h,hp⟩
def sy {l:List Tk}(h:(l.any fun t=>!dN t)=true):ed l=8:=by unfold ed;rw[if_pos (.inl h)]
def sw {l:List Tk}(h:ia l=true):ed l=8:=by unfold ed;rw[if_pos (.inr h)]
def iQ {l:List Tk}(h1:(l.any fun t=>!dN t)=false)(h2:ia l=false)(h:512<l.length\/16384<(bI l).length):ed l=4:=by
 unfold ed;rw[if_neg (by simp[h1,h2]),if_pos h]
def vS {l:List Tk}(h1:(l.any fun t=>!dN t)=false)(h2:ia l=false)(h:¬(512<l.length\/16384<(bI l).length)):ed l=0:=by
 unfold ed;rw[if_neg (by simp[h1,h2]),if_neg h]
def vT {l:List Tk}(h:ed l=0):jY l=bI l:=by unfold jY;rw[if_pos h]
def fQ {l:List Tk}{e:Int}(h:ed l=e)(he:e≠0):jY l=[]:=by unfold jY;rw[if_neg (by omega)]
def s6:bI []=[]:=rfl
def mR {l:List Tk}(hs:∀ t∈l,t.okTo 1000000/\t.attrs.length<=30)(hl:l.length<=512)(k:Nat):(bI (l.take k)).length<=111104063488:=by
 have h1:(bI (l.take k)).length<=(l.take k).length*217000124:=lv (fun t ht=>by
  obtain⟨⟨_,h2,h3,h4⟩,h30⟩:=hs t (List.mem_of_mem_take ht)
  have:=(oH h30 h2 h3 h4).2
  omega)
 have h2:(l.take k).length<=512:=by simp;omega
 exact Nat.le_trans h1 (Nat.le_trans (Nat.mul_le_mul_right 217000124 h2) (by decide))
def iF {l:List Tk}{k:Nat}(h:ji l k)(hn:∀ a b,l[k-1]? = some a->l[k]? = some b->0<k -> ¬(a.kind=4/\b.kind=4)):ji l (k+1):=by
 intro i a b hi ha hb
 by_cases e:i+1=k
 ·subst e
  exact hn a b (by simpa using ha) hb (by omega)
 ·exact h i a b (by omega) ha hb
def Dk (t:Tk)(h:t.okTo aS)(nm:Nat):Ev cx 84 nm [.agg (bv t)] am.nil (.bool (!dN t)) []:=by
 have hc:=CC t h
 unfold IX at hc
 generalize dN t=b at hc ⊢
 cases b<;>(
  refine aV call84 func84 rfl (by kernel_rfl) rfl ?_;intro b0 hb0
  (repeat' first|simp only[aj,ag,results84,ntmps84,ap,ax,bv,Bt,Bf,ai,seval,ah]|exact rfl|refine aa (v:=.any) ?_|(first|(refine ac ?_ (hc _) ?_)|(refine ab ?_ (fun _=>hc _) ?_))|((first|apply Ca|apply Cb)<;>intro hb)|refine Ai (by omega) ?_|(apply Ai<;>intro hb)|refine Fin.pure ?_ ?_ ?_|simp only[al]))
def Gm (l:List Tk)(hl:l.length<=600)(hs:∀ t∈l,t.okTo 1000000/\t.attrs.length<=30)(nm:Nat):Ev cx 48 nm [.sl false 4 (l.map bv)] am.nil (.tup [.str (jY l),.int .i64 (ed l)]) []:=by
  have hlim:∀ t∈l,t.okTo aS:=fun t ht=>by
    obtain⟨⟨h1,h2,h3,h4⟩,_⟩:=hs t ht
    unfold aS
    exact⟨by omega,by omega,by omega,fun a ha=>by have:=h4 a ha;omega⟩
  have hcf:=rz l 84 [] (fun t=>!dN t) (fun t ht nm=>Dk t (hlim t ht) nm) (by unfold aS;omega) rfl
  cases hany:(l.any fun t=>!dN t) with
  | true =>
    rw[hany]at hcf
    have he:=sy hany
    have hj:=fQ he (by omega)
    refine aV call48 func48 rfl (by kernel_rfl) rfl ?_;intro b0 hb0;have zF:=Ai results48 ntmps48
    (repeat' first|simp only[aj,ag,zF,ap,he,hj,ai,seval,ah]|exact rfl|refine aa (v:=.any) ?_|(first|(refine ac ?_ (hcf _) ?_)|(refine ab ?_ (fun _=>hcf _) ?_))|refine ao (by decide +kernel) ?_|((first|apply Ca|apply Cb)<;>intro hb)|refine Ai (by omega) ?_|(apply Ai<;>intro hb)|refine Fin.pure ?_ ?_ ?_|simp only[al])
  | false =>
    rw[hany]at hcf
    refine aV call48 func48 rfl (by kernel_rfl) rfl ?_;intro b0 hb0;have zF:=Ai results48 ntmps48
    repeat' first|simp only[aj,ag,zF,ap,Lm,ai,seval,ah]|exact rfl|refine aa (v:=.any) ?_|(first|(refine ac ?_ (hcf _) ?_)|(refine ab ?_ (fun _=>hcf _) ?_))|refine ao (by decide +kernel) ?_|((first|apply Ca|apply Cb)<;>intro hb)|refine Ai (by omega) ?_|(apply Ai<;>intro hb)
    (refine ay bu (fun x:Nat=>l.length-x) (fun x=>x<=l.length/\ji l x) (b0+16) (fun x=>[(0,.sl false 4 (l.map bv)),(11,.sl false 4 (l.map bv)),(12,.int .i64 l.length),(13,.int .i64 x)]) (fun x=>[]) (0) [] ?_ ?_ ?_ ?_;rotate_left 1;(focus (show b0<=_;omega));(focus (refine⟨?_,?_⟩<;>(try simp only[aM,aF,Lm,ai,seval,ah,al])<;>(try omega)));rotate_left 1)
    · exact⟨Nat.zero_le _,fun i a b hi=>by omega⟩
    · rintro k ⟨hk,hadj⟩
      by_cases hlt:k<l.length
      · obtain ⟨t,ht⟩:∃ t,l[k]? = some t:=⟨_,List.getElem?_eq_getElem hlt⟩
        have hat:=qV ht
        have hd1:decide (k<l.length)=true:=decide_eq_true hlt
        have hwk:IntKind.i64.wrap ((k:Int)+1)=((k+1:Nat):Int):=aK
        by_cases h0:k=0
        · subst h0
          have hg:ji l (0+1):=fun i a b hi=>by omega
          have hd9:decide ((0:Int)<(l.length:Int))=true:=cn
          repeat' first|simp only[aj,ag,zF,ap,ax,hat,bv,hd1,hd9,hlt,Int.lt_irrefl,Nat.lt_irrefl,Lm,ai,seval,ah]|exact rfl|refine aa (v:=.any) ?_|refine ao (by decide +kernel) ?_|((first|apply Ca|apply Cb)<;>intro hb)|refine Ai (by omega) ?_|(apply Ai<;>intro hb)
          all_goals ((refine au bu (0+1) [] ?_ ?_ ?_ ?_;rotate_left 2;(focus (show b0<=_;omega));(focus (refine⟨?_,?_⟩<;>(try simp only[aM,aF,hwk,show IntKind.i64.wrap 1=1 from by decide,Lm,ai,seval,ah,al])<;>(try omega)))))
          all_goals (first|(show l.length-(0+1)<l.length-0;omega)|exact⟨by omega,hg⟩|skip)
        · obtain⟨m,rfl⟩:∃ m,k=m+1:=⟨k-1,by omega⟩
          have hlt0:m<l.length:=by omega
          obtain⟨p,hp⟩:∃ p,l[m]? = some p:=⟨_,List.getElem?_eq_getElem hlt0⟩
          have hpt:=qV hp
          have hd0:decide ((0:Int)<((m+1:Nat):Int))=true:=cn
          have hwm:IntKind.i64.wrap (((m+1:Nat):Int)-1)=((m:Nat):Int):=by rw[aK];omega
          have hcs:(((t.kind:Int)==4)=false/\ji l (m+1+1))\/(((t.kind:Int)==4)=true/\((p.kind:Int)==(t.kind:Int))=false/\ji l (m+1+1))\/(((t.kind:Int)==4)=true/\((p.kind:Int)==(t.kind:Int))=true/\ed l=8):=by
            by_cases c2:t.kind=4
            · by_cases c1:p.kind=4
              · right;right
                exact⟨by rw[c2];rfl,by rw[c1,c2];rfl,sw (uI hp ht c1 c2)⟩
              · right;left
                refine⟨by rw[c2];rfl,beq_false_of_ne (by omega),iF hadj (fun a b ha hb _ h=>?_)⟩
                rw[Nat.add_sub_cancel,hp]at ha;cases ha;exact c1 h.1
            · left
              refine⟨beq_false_of_ne (by omega),iF hadj (fun a b ha hb _ h=>?_)⟩
              rw[ht]at hb;cases hb;exact c2 h.2
          rcases hcs with ⟨c1,hg⟩|⟨c1,c2,hg⟩|⟨c1,c2,he⟩
          · repeat' first|simp only[aj,ag,zF,ap,ax,hat,hpt,bv,hd0,hd1,hlt,hlt0,hwm,c1,Lm,ai,seval,ah]|exact rfl|refine aa (v:=.any) ?_|refine ao (by decide +kernel) ?_|((first|apply Ca|apply Cb)<;>intro hb)|refine Ai (by omega) ?_|(apply Ai<;>intro hb)
            all_goals ((refine au bu (m+1+1) [] ?_ ?_ ?_ ?_;rotate_left 2;(focus (show b0<=_;omega));(focus (refine⟨?_,?_⟩<;>(try simp only[aM,aF,hwk,Lm,ai,seval,ah,al])<;>(try omega)))))
            all_goals (first|(show l.length-(m+1+1)<l.length-(m+1);omega)|exact⟨by omega,hg⟩|skip)
          · repeat' first|simp only[aj,ag,zF,ap,ax,hat,hpt,bv,hd0,hd1,hlt,hlt0,hwm,c1,c2,Lm,ai,seval,ah]|exact rfl|refine aa (v:=.any) ?_|refine ao (by decide +kernel) ?_|((first|apply Ca|apply Cb)<;>intro hb)|refine Ai (by omega) ?_|(apply Ai<;>intro hb)
            all_goals ((refine au bu (m+1+1) [] ?_ ?_ ?_ ?_;rotate_left 2;(focus (show b0<=_;omega));(focus (refine⟨?_,?_⟩<;>(try simp only[aM,aF,hwk,Lm,ai,seval,ah,al])<;>(try omega)))))
            all_goals (first|(show l.length-(m+1+1)<l.length-(m+1);omega)|exact⟨by omega,hg⟩|skip)
          · have hj:=fQ he (by omega)
            (repeat' first|simp only[aj,ag,zF,ap,ax,hat,hpt,bv,hd0,hd1,hlt,hlt0,hwm,c1,c2,he,hj,Lm,ai,seval,ah]|exact rfl|refine aa (v:=.any) ?_|refine ao (by decide +kernel) ?_|((first|apply Ca|apply Cb)<;>intro hb)|refine Ai (by omega) ?_|(apply Ai<;>intro hb)|refine Fin.pure ?_ ?_ ?_|simp only[al])
      · have hke:k=l.length:=by omega
        subst hke
        have hd1:decide (l.length<l.length)=false:=aR
        have hadj':ia l=false:=kw.2 hadj
        by_cases h512:512<l.length
        · have he:=iQ hany hadj' (.inl h512)
          have hj:=fQ he (by omega)
          have hd2:decide ((512:Int)<(l.length:Int))=true:=cn
          (repeat' first|simp only[aj,ag,zF,ap,hd1,hd2,he,hj,Lm,ai,seval,ah]|exact rfl|refine aa (v:=.any) ?_|refine ao (by decide +kernel) ?_|((first|apply Ca|apply Cb)<;>intro hb)|refine Ai (by omega) ?_|(apply Ai<;>intro hb)|refine Fin.pure ?_ ?_ ?_|simp only[al])
        · have hd2:decide ((512:Int)<(l.length:Int))=false:=aR
          have htl:=mR hs (by omega)
          repeat' first|simp only[aj,ag,zF,ap,hd1,hd2,Lm,ai,seval,ah]|exact rfl|refine aa (v:=.any) ?_|refine ao (by decide +kernel) ?_|((first|apply Ca|apply Cb)<;>intro hb)|refine Ai (by omega) ?_|(apply Ai<;>intro hb)
          (refine ay bu (fun x:Nat=>l.length-x) (fun x=>x<=l.length/\(bI (l.take x)).length<=16384) (b0+16) (fun x=>[(0,.sl false 4 (l.map bv)),(6,.ptr b0 0 0),(40,.sl false 4 (l.map bv)),(41,.int .i64 l.length),(42,.int .i64 x)]) (fun x=>[(b0,bS false b0 (b0+1) (bI (l.take x))),(b0+1,rK (bI (l.take x)))]) (0) [some (b0+80),none] ?_ ?_ ?_ ?_;rotate_left 1;(focus (show b0<=_;omega));(focus (refine⟨?_,?_⟩<;>(try simp only[aM,wV,x9,ya,gY,eN,fY,dm,aF,Lm,List.take_zero,s6,ai,seval,ah,al])<;>(try omega)));rotate_left 1)
          · exact⟨Nat.zero_le _,by simp[bI]⟩
          · rintro j ⟨hj,hsz⟩
            by_cases hlt3:j<l.length
            · obtain⟨t,ht⟩:∃ t,l[j]? = some t:=⟨_,List.getElem?_eq_getElem hlt3⟩
              have hat:=qV ht
              have hd3:decide (j<l.length)=true:=decide_eq_true hlt3
              have hwj:IntKind.i64.wrap ((j:Int)+1)=((j+1:Nat):Int):=aK
              have htok:dN t=true:=by
                cases hh:dN t with
                | true=>rfl
                | false=>rw[Cg (p:=fun t=>!dN t) ht (by simp[hh])]at hany;cases hany
              have hwr:=yK t (hs t (List.mem_of_getElem? ht)).1 htok
              have hne:=EJ htok
              have hnx:=qY ht
              have b2:=htl (j+1)
              have hll:(bI (l.take j)).length+(c9 t).length<=aS:=by
                rw[hnx,List.length_append]at b2;unfold aS;omega
              have hll2:(bI (l.take (j+1))).length<=aS:=by unfold aS;omega
              by_cases hbig:16384<(bI (l.take (j+1))).length
              · have hbl:16384<(bI l).length:=by
                  refine Nat.lt_of_lt_of_le hbig ?_
                  conv=>rhs;rw[<- List.take_append_drop (j+1) l]
                  unfold bI
                  rw[List.flatMap_append,List.length_append];omega
                have he:=iQ hany hadj' (.inr hbl)
                have hjt:=fQ he (by omega)
                have hd4:decide ((16384:Int)<((bI (l.take (j+1))).length:Int))=true:=cn
                (repeat' first|simp only[aj,ag,zF,ap,ax,hat,bv,hd3,hlt3,hd4,he,hjt,hnx.symm,aI,Lm,ai,seval,ah]|exact rfl|refine aa (v:=.any) ?_|(first|(refine ac ?_ (hwr _) ?_)|(refine ab ?_ (fun _=>hwr _) ?_))|(refine aJ ?_ [b0,b0+1] (kQ false b0 (b0+1) (bI (l.take j)) _ _ (c9 t) hne hll (by omega) ?_ ?_ aP (by omega) (by omega)) ?_ ?_)|(refine aJ ?_ [b0,b0+128] (o9 false b0 (b0+128) (bI (l.take (j+1))) _ _ (by omega) ?_ ?_ aP (by omega) (by omega)) ?_ ?_)|refine ao (by decide +kernel) ?_|((first|apply Ca|apply Cb)<;>intro hb)|refine Ai (by omega) ?_|(apply Ai<;>intro hb)|refine Fin.pure ?_ ?_ ?_|simp only[al])
              · have hd4:decide ((16384:Int)<((bI (l.take (j+1))).length:Int))=false:=aR
                repeat' first|simp only[aj,ag,zF,ap,ax,hat,bv,hd3,hlt3,hd4,hnx.symm,aI,Lm,ai,seval,ah]|exact rfl|refine aa (v:=.any) ?_|(first|(refine ac ?_ (hwr _) ?_)|(refine ab ?_ (fun _=>hwr _) ?_))|(refine aJ ?_ [b0,b0+1] (kQ false b0 (b0+1) (bI (l.take j)) _ _ (c9 t) hne hll (by omega) ?_ ?_ aP (by omega) (by omega)) ?_ ?_)|(refine aJ ?_ [b0,b0+128] (o9 false b0 (b0+128) (bI (l.take (j+1))) _ _ (by omega) ?_ ?_ aP (by omega) (by omega)) ?_ ?_)|refine ao (by decide +kernel) ?_|((first|apply Ca|apply Cb)<;>intro hb)|refine Ai (by omega) ?_|(apply Ai<;>intro hb)
                all_goals ((refine au bu (j+1) [some b0,some (b0+128)] ?_ ?_ ?_ ?_;rotate_left 2;(focus (show b0<=_;omega));(focus (refine⟨?_,?_⟩<;>(try simp only[aM,aF,hwj,hnx.symm,ja,e8,fY,dm,Option.getD_some,Option.isSome_some,Lm,ai,seval,ah,al])<;>(try omega)))))
                all_goals (first|(show l.length-(j+1)<l.length-j;omega)|exact⟨by omega,by omega⟩|skip)
            · have hje:j=l.length:=by omega
              subst hje
              rw[List.take_length]at hsz
              have hd3:decide (l.length<l.length)=false:=aR
              have he:=vS hany hadj' (by omega)
              have hjt:=vT he
              have hll:(bI l).length<=aS:=by unfold aS;omega
              (repeat' first|simp only[aj,ag,zF,ap,hd3,he,hjt,List.take_length,Lm,ai,seval,ah]|exact rfl|refine aa (v:=.any) ?_|(refine aJ ?_ [b0,b0+1] (lT false b0 (b0+1) (bI l) _ _ hll (by omega) ?_ ?_ aP (by omega) (by omega)) ?_ ?_)|refine ao (by decide +kernel) ?_|((first|apply Ca|apply Cb)<;>intro hb)|refine Ai (by omega) ?_|(apply Ai<;>intro hb)|refine Fin.pure ?_ ?_ ?_|simp only[al])
end Go.Proofs.YtlnlopnpcmahgaaGreatDoor
