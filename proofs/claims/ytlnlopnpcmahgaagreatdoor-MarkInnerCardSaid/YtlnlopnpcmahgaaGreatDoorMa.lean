/-
 Texts joined: XLs,XLg,XLh,XLp,XLl.
-/
import Derived.Test.YtlnlopnpcmahgaaGreatDoorQn
import Derived.Test.YtlnlopnpcmahgaaGreatDoorQo
import Derived.Test.YtlnlopnpcmahgaaGreatDoorQh
import Derived.Test.YtlnlopnpcmahgaaGreatDoorQg
set_option linter.all false
namespace Go.Proofs.YtlnlopnpcmahgaaGreatDoor
set_option maxRecDepth 100000
set_option maxHeartbeats 32000000
open Go Go.RowKit Vm Go.Lib Tryz
open Vm renaming aW->Ca,bf->Cb
open And renaming intro->Ai
open List renaming length_map->Lm,not_mem_nil->Ln,map_nil->Lo,map_cons->Lc,mem_cons->Lk
open Bool renaming not_false->Bf,not_true->Bt
def CO {s:List UInt8}(h:(dW s).isSome=true)(hl:s.length<=16384):aN s=0:=c6.2 ⟨hl,h⟩
def G9 {s:List UInt8}(q:Bool)(h:(dW s).isSome=true)(hl:s.length<=1027):uy q s=0/\yv q s=cE q s:=by
 have hw:=co q s
 have h0:uy q s=0:=by
  unfold uy
  rw[if_neg (fun e=>e (CO h (by omega))),if_neg (by omega)]
 exact⟨h0,by unfold yv;rw[if_pos h0]⟩
def vN {q:Bool}{d r:List UInt8}(n:Nat):cE q (d++r.take n)=cE q d++cE q (r.take n):=zI q d _
def zn (c:UInt8):(IntKind.u8.wrap ((BitVec.ofInt IntKind.u8.bits (c.toNat:Int) &&& BitVec.ofInt IntKind.u8.bits 192).toNat:Int)==128)=pA c:=by
 have:∀ n:Fin 256,(IntKind.u8.wrap ((BitVec.ofInt IntKind.u8.bits (n.val:Int) &&& BitVec.ofInt IntKind.u8.bits 192).toNat:Int)==128)=(decide (128<=n.val)&&decide (n.val<192)):=by decide +kernel
 exact this ⟨c.toNat,c.toNat_lt⟩
def OW {r:List UInt8}{n:Nat}(h:n<r.length):∃ b,r[n]? = some b:=⟨_,List.getElem?_eq_getElem h⟩
def ye (s:List UInt8)(q:Bool)(hd:(dW s).isSome=true)(hs:s.length<=1000000)(nm:Nat):Ev cx 135 nm [.str s,.bool q] am.nil (.str (cE q s)) []:=by
  refine bh call135 func135 rfl (by kernel_rfl) rfl ?_;intro b0 hb0;have zF:=Ai results135 ntmps135
  repeat' first|simp only[ak,ag,zF,al,ai,seval,ah]|exact rfl|refine aa (v:=.any) ?_|((first|apply Ca|apply Cb)<;>intro hb)|refine Ai (by omega) ?_|(apply Ai<;>intro hb)
  (refine aQ bM (fun x:List UInt8×List UInt8=>x.2.length) (fun x=>s=x.1++x.2/\(dW x.2).isSome=true) (b0+16) (fun x=>[(0,.str x.2),(1,.bool q),(5,.ptr b0 0 0)]) (fun x=>[(b0,bS false b0 (b0+1) (cE q x.1)),(b0+1,rK (cE q x.1))]) (([],s)) [some (b0+16),none] ?_ ?_ ?_ ?_;rotate_left 1;(focus (show b0<=_;omega));(focus (refine⟨?_,?_⟩<;>(try simp only[aX,BK,zJ,Dh,Di,fY,dX,gf,dL,nh,ai,seval,ah,ap])<;>(try omega)));rotate_left 1)
  · exact⟨rfl,hd⟩
  · rintro ⟨d,r⟩ ⟨hsr,hr⟩
    simp only at hsr hr
    have hlen:d.length+r.length<=1000000:=by rw[hsr]at hs;simpa using hs
    have hwd:=co q d
    by_cases hne:r=[]
    · subst hne
      have e0:(([]:List UInt8)==[])=true:=rfl
      have e1:d=s:=by rw[hsr];simp
      subst e1
      have hll:(cE q d).length<=bc:=by unfold bc;omega
      (repeat' first|simp only[ak,ag,zF,al,e0,ai,seval,ah]|exact rfl|refine aa (v:=.any) ?_|(refine ac ?_ [b0,b0+1] (pw false b0 (b0+1) (cE q d) _ _ hll (by omega) ?_ ?_ aj (by omega) (by omega)) ?_ ?_)|((first|apply Ca|apply Cb)<;>intro hb)|refine Ai (by omega) ?_|(apply Ai<;>intro hb)|refine Fin.pure ?_ ?_ ?_|simp only[ap])
    · have e0:(r==[])=false:=beq_false_of_ne hne
      have hrl:0<r.length:=List.length_pos_iff.2 hne
      obtain⟨j,j1,j2,j3,j4⟩:=HH hr (k:=min r.length 1024) (by omega)
      have hmin:min (r.length:Int) 1024=((min r.length 1024:Nat):Int):=by omega
      generalize hk0:min r.length 1024=k0 at *
      repeat' first|simp only[ak,ag,zF,al,e0,hmin,Bf,ai,seval,ah]|exact rfl|refine aa (v:=.any) ?_|((first|apply Ca|apply Cb)<;>intro hb)|refine Ai (by omega) ?_|(apply Ai<;>intro hb)
      (refine aQ bM (fun x:Nat=>j-x) (fun x=>k0<=x/\x<=j) (b0+16) (fun x=>[(0,.str r),(1,.bool q),(5,.ptr b0 0 0),(6,.int .i64 x)]) (fun x=>[(b0,bS false b0 (b0+1) (cE q d)),(b0+1,rK (cE q d))]) (k0) [some b0,some (b0+1)] ?_ ?_ ?_ ?_;rotate_left 1;(focus (show b0<=_;omega));(focus (refine⟨?_,?_⟩<;>(try simp only[aX,lS,gO,gf,dL,Option.getD_some,Option.isSome_some,ai,seval,ah,ap])<;>(try omega)));rotate_left 1)
      · exact⟨Nat.le_refl _,j1⟩
      · rintro n ⟨hn1,hn2⟩
        have hnr:n<=r.length:=by omega
        by_cases hgo:n<r.length /\ ∀ b,r[n]? = some b->pA b=true
        · obtain⟨hlt,hcb⟩:=hgo
          obtain⟨b,hb⟩:=OW hlt
          have hc:=hcb b hb
          have hca:=zn b
          rw[hc]at hca
          have hnj:n≠j:=fun e=>by
            subst e
            have:=j4 b hb
            rw[hc]at this;cases this
          have hd1:decide (n<r.length)=true:=decide_eq_true hlt
          have hwk:IntKind.i64.wrap ((n:Int)+1)=((n+1:Nat):Int):=bd
          repeat' first|simp only[ak,ag,zF,al,hb,hd1,hlt,hca,hwk,ai,seval,ah]|exact rfl|refine aa (v:=.any) ?_|((first|apply Ca|apply Cb)<;>intro hb)|refine Ai (by omega) ?_|(apply Ai<;>intro hb)
          all_goals ((refine aC bM (n+1) [some b0,some (b0+1)] ?_ ?_ ?_ ?_;rotate_left 2;(focus (show b0<=_;omega));(focus (refine⟨?_,?_⟩<;>(try simp only[aX,lS,gO,gf,dL,hwk,Option.getD_some,Option.isSome_some,ai,seval,ah,ap])<;>(try omega)))))
          all_goals (first|(show j-(n+1)<j-n;omega)|(show k0<=n+1/\n+1<=j;omega)|skip)
        · have hstop:∀ b,r[n]? = some b->pA b=false:=by
            intro b hb
            cases hc:pA b with
            | false=>rfl
            | true=>exact absurd ⟨(List.getElem?_eq_some_iff.1 hb).1,fun b' hb'=>by rw[hb]at hb';cases hb';exact hc⟩ hgo
          obtain⟨hc1,hc2⟩:=LB hr hnr hstop
          have hn27:n<=1027:=by omega
          have htl:(r.take n).length=n:=by rw[List.length_take];omega
          obtain⟨hp1,hp2⟩:=G9 q hc1 (by omega)
          have hput:=MP (r.take n) q (by unfold bc;omega)
          rw[hp1,hp2]at hput
          have hw2:=co q (r.take n)
          have hne2:cE q (r.take n)≠[]:=by
            intro e
            have:=congrArg List.length e
            simp only[List.length_nil]at this
            omega
          have hll:(cE q d).length+(cE q (r.take n)).length<=bc:=by unfold bc;omega
          have hint:(n:Int)<=(r.length:Int):=by omega
          have hx:cE q d++cE q (r.take n)=cE q (d++r.take n):=(vN n).symm
          have hdl:(r.drop n).length=r.length-n:=by simp
          by_cases hlt:n<r.length
          · obtain⟨b,hb⟩:=OW hlt
            have hca:=zn b
            rw[hstop b hb]at hca
            have hd1:decide (n<r.length)=true:=decide_eq_true hlt
            repeat' first|simp only[ak,ag,zF,al,hb,hd1,hlt,hca,hnr,hint,au,List.take_zero,ai,seval,ah]|exact rfl|refine aa (v:=.any) ?_|(first|(refine ae ?_ (hput _) ?_)|(refine ab ?_ (fun _=>hput _) ?_))|(refine ac ?_ [b0,b0+1] (nX false b0 (b0+1) (cE q d) _ _ (cE q (r.take n)) hne2 hll (by omega) ?_ ?_ aj (by omega) (by omega)) ?_ ?_)|((first|apply Ca|apply Cb)<;>intro hb)|refine Ai (by omega) ?_|(apply Ai<;>intro hb)
            all_goals ((refine aC bM ((d++r.take n,r.drop n)) [some b0,some (b0+368)] ?_ ?_ ?_ ?_;rotate_left 2;(focus (show b0<=_;omega));(focus (refine⟨?_,?_⟩<;>(try simp only[aX,lS,gO,gf,dL,hx,Option.getD_some,Option.isSome_some,ai,seval,ah,ap])<;>(try omega)))))
            all_goals (first|(show(r.drop n).length<r.length;omega)|(refine⟨?_,hc2⟩;rw[hsr,List.append_assoc,List.take_append_drop])|skip)
          · have hd1:decide (n<r.length)=false:=decide_eq_false hlt
            repeat' first|simp only[ak,ag,zF,al,hd1,hlt,hnr,hint,au,List.take_zero,ai,seval,ah]|exact rfl|refine aa (v:=.any) ?_|(first|(refine ae ?_ (hput _) ?_)|(refine ab ?_ (fun _=>hput _) ?_))|(refine ac ?_ [b0,b0+1] (nX false b0 (b0+1) (cE q d) _ _ (cE q (r.take n)) hne2 hll (by omega) ?_ ?_ aj (by omega) (by omega)) ?_ ?_)|((first|apply Ca|apply Cb)<;>intro hb)|refine Ai (by omega) ?_|(apply Ai<;>intro hb)
            all_goals ((refine aC bM ((d++r.take n,r.drop n)) [some b0,some (b0+368)] ?_ ?_ ?_ ?_;rotate_left 2;(focus (show b0<=_;omega));(focus (refine⟨?_,?_⟩<;>(try simp only[aX,lS,gO,gf,dL,hx,Option.getD_some,Option.isSome_some,ai,seval,ah,ap])<;>(try omega)))))
            all_goals (first|(show(r.drop n).length<r.length;omega)|(refine⟨?_,hc2⟩;rw[hsr,List.append_assoc,List.take_append_drop])|skip)
def rG (t:Tk)(k:Nat):List UInt8:=[60]++t.name++ef (t.attrs.take k)
def Bn (t:Tk):60::t.name=rG t 0:=by simp[rG,ef]
def LP {t:Tk}{k:Nat}{a:Pr}(h:t.attrs[k]? = some a):rG t k++(32::(a.name++[61,34]++cE true a.value++[34]))=rG t (k+1):=by
 unfold rG
 rw[zd h];simp[mr]
def Pe (t:Tk)(q y:Nat):bK true q (.own y 0 (t.name.length+1))=bS false q y (rG t 0):=by
 rw[<- Bn,tf false q y (by simp)];rfl
def DV (t:Tk)(k:Nat)(h:t.okTo 1000000)(hl:t.attrs.length<=30):(rG t k).length<=220000000:=by
 obtain⟨h1,h2,h3,h4⟩:=h
 have hw:=(r7 (t:=⟨1,t.name,t.attrs.take k,t.text⟩) (n:=1000000) (by simp;omega) h2 h3 (fun a ha=>h4 a (List.mem_of_mem_take ha))).1
 simp only at hw
 simp only[rG,List.length_append,List.length_cons,List.length_nil]
 omega
def E7 (t:Tk):rG t t.attrs.length=[60]++t.name++ef t.attrs:=by unfold rG;rw[List.take_length]
def Lw (t:Tk)(h:t.okTo 1000000)(hat:iQ t.attrs=true)(k3:Bool)(q2:((t.kind:Int)==2)=false)(q4:((t.kind:Int)==4)=false)(q3:((t.kind:Int)==3)=k3)(nm:Nat):Ev cx 87 nm [.agg (bE t)] am.nil (.str (if k3 then (rG t t.attrs.length++[47])++[62] else rG t t.attrs.length++[62])) []:=by
 have hwl:=fun k=>DV t k h (by have:=(gh.1 hat).1;omega)
 obtain⟨hat1,hat2⟩:=gh.1 hat
 obtain⟨hl,hnl,htl,hal⟩:=h
 have hll1:(60::t.name).length<=bc:=by unfold bc;simp;omega
 have hbk:=Pe t
 have hw0:=Bn t
 refine bh call87 func87 rfl (by kernel_rfl) rfl ?_;intro b0 hb0;have zF:=Ai results87 ntmps87
 repeat' first|simp only[ak,ag,zF,al,bE,q2,q4,cV,au,ai,seval,ah]|exact rfl|refine aa (v:=.any) ?_|(refine ac ?_ [b0+128] (Bj false (b0+128) (60::t.name) (by simp) hll1 _ _ ?_ aj (by omega)) ?_ ?_)|refine aZ (ps:=[(1,6)]) (by decide +kernel) (by simp only[List.forall_mem_cons,List.getD_cons_zero,List.getD_cons_succ,zF,al,bE,q2,q4,cV,au,ai,seval,ah]<;>(try simp)<;>(try omega)) ?_|refine az (by decide +kernel) ?_|((first|apply Ca|apply Cb)<;>intro hb)|refine Ai (by omega) ?_|(apply Ai<;>intro hb)
 (refine aQ bM (fun x:Nat=>t.attrs.length-x) (fun x=>x<=t.attrs.length) (b0+16) (fun x=>[(1,.ptr b0 0 0),(3,.ptr (b0+1) 0 0),(24,.sl false 2 (t.attrs.map c7)),(25,.int .i64 t.attrs.length),(26,.int .i64 x)]) (fun x=>[(b0,⟨4,[bE t]⟩),(b0+1,bS false (b0+1) (b0+2) (rG t x)),(b0+2,rK (rG t x))]) (0) [some b0,some (b0+128),some (b0+192)] ?_ ?_ ?_ ?_;rotate_left 1;(focus (show b0<=_;omega));(focus (refine⟨?_,?_⟩<;>(try simp only[aX,ay,jr,bE,hbk,hw0,List.length_cons,lS,gO,gf,dL,Option.getD_some,Option.isSome_some,Lm,ai,seval,ah,ap])<;>(try omega)));rotate_left 1)
 ·exact Nat.zero_le _
 ·intro k hk
  by_cases hlt:k<t.attrs.length
  ·obtain⟨a,ha⟩:∃ a,t.attrs[k]? = some a:=⟨_,List.getElem?_eq_getElem hlt⟩
   obtain⟨hs1,hs2⟩:=hal a (List.mem_of_getElem? ha)
   have hat0:=KQ ha
   have hd:decide (k<t.attrs.length)=true:=decide_eq_true hlt
   have hwk:IntKind.i64.wrap ((k:Int)+1)=((k+1:Nat):Int):=bd
   have hov:=hat2 k a hlt ha
   simp only[O2,Bool.and_eq_true,decide_eq_true_eq]at hov
   have hpv:=ye a.value true (c6.1 hov.2).2 hs2
   have hnx:=LP ha
   have hew:=co true a.value
   have l1:(a.name++[61,34]).length=a.name.length+2:=by simp
   have l2:(a.name++[61,34]++cE true a.value).length=a.name.length+2+(cE true a.value).length:=by simp;omega
   have hz:=hwl (k+1)
   have hz2:(rG t k).length+(32::(a.name++[61,34]++cE true a.value++[34])).length<=bc:=by
    rw[<- List.length_append,hnx];unfold bc;omega
   repeat' first|simp only[ak,ag,zF,al,ay,bE,hat0,c7,hd,hlt,l1,l2,au,Lm,ai,seval,ah]|exact rfl|refine aa (v:=.any) ?_|(first|(refine ae ?_ (hpv _) ?_)|(refine ab ?_ (fun _=>hpv _) ?_))|(refine ac ?_ [b0+1,b0+2] (nX false (b0+1) (b0+2) (rG t k) _ _ (32::(a.name++[61,34]++cE true a.value++[34])) (by simp) hz2 (by omega) ?_ ?_ aj (by omega) (by omega)) ?_ ?_)|refine aZ (ps:=[(1,6)]) (by decide +kernel) (by simp only[List.forall_mem_cons,List.getD_cons_zero,List.getD_cons_succ,zF,al,ay,bE,hat0,c7,hd,hlt,l1,l2,au,Lm,ai,seval,ah]<;>(try simp)<;>(try omega)) ?_|refine az (by decide +kernel) ?_|((first|apply Ca|apply Cb)<;>intro hb)|refine Ai (by omega) ?_|(apply Ai<;>intro hb)
   all_goals ((refine aC bM (k+1) [some b0,some (b0+1),some (b0+240)] ?_ ?_ ?_ ?_;rotate_left 2;(focus (show b0<=_;omega));(focus (refine⟨?_,?_⟩<;>(try simp only[aX,ay,jr,bE,hwk,hnx,lS,gO,gf,dL,Option.getD_some,Option.isSome_some,Lm,ai,seval,ah,ap])<;>(try omega)))))
   all_goals (first|(show t.attrs.length-(k+1)<t.attrs.length-k;omega)|(show k+1<=t.attrs.length;omega)|skip)
  ·have hke:k=t.attrs.length:=by omega
   subst hke
   have hd:decide (t.attrs.length<t.attrs.length)=false:=bm
   have hz:=hwl t.attrs.length
   have z1:(rG t t.attrs.length).length+1<=bc:=by unfold bc;omega
   have z2:(rG t t.attrs.length++[47]).length+1<=bc:=by simp only[List.length_append,List.length_cons,List.length_nil];unfold bc;omega
   have z3:(rG t t.attrs.length++[62]).length<=bc:=by simp only[List.length_append,List.length_cons,List.length_nil];unfold bc;omega
   have z4:((rG t t.attrs.length++[47])++[62]).length<=bc:=by simp only[List.length_append,List.length_cons,List.length_nil];unfold bc;omega
   cases k3 with
   | true =>
    (repeat' first|simp only[zF,al,ay,bE,hd,q3,au,Lm,ai,seval,ah]|exact rfl|((first|(refine ac ?_ [b0+1,b0+2] (qr false (b0+1) (b0+2) (rG t t.attrs.length) _ _ 47 z1 (by omega) ?_ ?_ aj (by omega) (by omega)) ?_ ?_)|(refine ac ?_ [b0+1,b0+96] (pw false (b0+1) (b0+96) ((rG t t.attrs.length++[47])++[62]) _ _ z4 (by omega) ?_ ?_ aj (by omega) (by omega)) ?_ ?_));iterate 4 (focus (simp only[ag,zF,al,ay,bE,hd,q3,au,Lm,ai,seval,ah]<;>exact rfl)))|((refine ac ?_ [b0+1,b0+80] (qr false (b0+1) (b0+80) (rG t t.attrs.length++[47]) _ _ 62 z2 (by omega) ?_ ?_ aj (by omega) (by omega)) ?_ ?_);iterate 4 (focus (simp only[ag,zF,al,ay,bE,hd,q3,au,Lm,ai,seval,ah]<;>exact rfl)))|refine aZ (ps:=[(1,6)]) (by decide +kernel) (by simp only[List.forall_mem_cons,List.getD_cons_zero,List.getD_cons_succ,zF,al,ay,bE,hd,q3,au,Lm,ai,seval,ah]<;>(try simp)<;>(try omega)) ?_|refine az (by decide +kernel) ?_|((first|apply Ca|apply Cb)<;>intro hb)|refine Ai (by omega) ?_|(apply Ai<;>intro hb)|refine Fin.pure ?_ ?_ ?_|simp only[ap])
   | false =>
    (repeat' first|simp only[ak,ag,zF,al,ay,bE,hd,q3,au,Lm,ai,seval,ah]|exact rfl|refine aa (v:=.any) ?_|(refine ac ?_ [b0+1,b0+2] (qr false (b0+1) (b0+2) (rG t t.attrs.length) _ _ 62 z1 (by omega) ?_ ?_ aj (by omega) (by omega)) ?_ ?_)|(refine ac ?_ [b0+1,b0+80] (pw false (b0+1) (b0+80) (rG t t.attrs.length++[62]) _ _ z3 (by omega) ?_ ?_ aj (by omega) (by omega)) ?_ ?_)|refine aZ (ps:=[(1,6)]) (by decide +kernel) (by simp only[List.forall_mem_cons,List.getD_cons_zero,List.getD_cons_succ,zF,al,ay,bE,hd,q3,au,Lm,ai,seval,ah]<;>(try simp)<;>(try omega)) ?_|refine az (by decide +kernel) ?_|((first|apply Ca|apply Cb)<;>intro hb)|refine Ai (by omega) ?_|(apply Ai<;>intro hb)|refine Fin.pure ?_ ?_ ?_|simp only[ap])
def DW (t:Tk)(h:t.okTo 1000000)(hok:ed t=true)(nm:Nat):Ev cx 87 nm [.agg (bE t)] am.nil (.str (fJ t)) []:=by
 obtain⟨hl,hnl,htl,hal⟩:=h
 have hk0:=hok
 unfold ed at hk0
 rcases oY t.kind with ⟨q1,q3,q2,q4,hkd⟩|⟨q1,q3,q2,q4,hkd⟩|⟨q1,q3,q2,q4,hkd⟩|⟨q1,q3,q2,q4,hkd⟩|⟨q1,q3,q2,q4,hk1,hk3,hk2,hk4⟩
 ·rw[if_pos (.inl hkd)]at hk0
  simp only[Bool.and_eq_true]at hk0
  have hw:fJ t=rG t t.attrs.length++[62]:=by unfold fJ;rw[if_neg (by omega),if_neg (by omega),if_neg (by omega),E7]
  rw[hw]
  exact Lw t ⟨hl,hnl,htl,hal⟩ hk0.1.2 false q2 q4 q3 nm
 ·rw[if_pos (.inr hkd)]at hk0
  simp only[Bool.and_eq_true]at hk0
  have hw:fJ t=(rG t t.attrs.length++[47])++[62]:=by unfold fJ;rw[if_neg (by omega),if_neg (by omega),if_pos hkd,E7];simp
  rw[hw]
  exact Lw t ⟨hl,hnl,htl,hal⟩ hk0.1.2 true q2 q4 q3 nm
 ·have hw:fJ t=60::47::(t.name++[62]):=by unfold fJ;rw[if_neg (by omega),if_pos hkd];simp
  rw[hw]
  refine bh call87 func87 rfl (by kernel_rfl) rfl ?_;intro b0 hb0
  (repeat' first|simp only[ak,ag,results87,ntmps87,al,bE,q1,q2,q3,q4,ai,seval,ah]|exact rfl|refine aa (v:=.any) ?_|refine aZ (ps:=[(1,6)]) (by decide +kernel) (by simp only[List.forall_mem_cons,List.getD_cons_zero,List.getD_cons_succ,results87,ntmps87,al,bE,q1,q2,q3,q4,ai,seval,ah]<;>(try simp)<;>(try omega)) ?_|refine az (by decide +kernel) ?_|((first|apply Ca|apply Cb)<;>intro hb)|refine Ai (by omega) ?_|(apply Ai<;>intro hb)|refine Fin.pure ?_ ?_ ?_|simp only[ap])
 ·rw[if_neg (by omega),if_neg (by omega),if_pos hkd]at hk0
  simp only[Bool.and_eq_true,decide_eq_true_eq]at hk0
  have hw:fJ t=cE false t.text:=by unfold fJ;rw[if_pos hkd]
  rw[hw]
  refine bh call87 func87 rfl (by kernel_rfl) rfl ?_;intro b0 hb0
  (repeat' first|simp only[ak,ag,results87,ntmps87,al,bE,q1,q2,q3,q4,ai,seval,ah]|exact rfl|refine aa (v:=.any) ?_|(first|(refine ae ?_ (ye t.text false (c6.1 hk0.2).2 htl _) ?_)|(refine ab ?_ (fun _=>ye t.text false (c6.1 hk0.2).2 htl _) ?_))|refine aZ (ps:=[(1,6)]) (by decide +kernel) (by simp only[List.forall_mem_cons,List.getD_cons_zero,List.getD_cons_succ,results87,ntmps87,al,bE,q1,q2,q3,q4,ai,seval,ah]<;>(try simp)<;>(try omega)) ?_|refine az (by decide +kernel) ?_|((first|apply Ca|apply Cb)<;>intro hb)|refine Ai (by omega) ?_|(apply Ai<;>intro hb)|refine Fin.pure ?_ ?_ ?_|simp only[ap])
 ·rw[if_neg (by omega),if_neg hk2,if_neg hk4]at hk0
  cases hk0
def LD {t:Tk}(h:ed t=true):fJ t≠[]:=by
 unfold fJ
 split
 ·rename_i hk
  unfold ed at h
  rw[if_neg (by omega),if_neg (by omega),if_pos hk]at h
  simp only[Bool.and_eq_true,Bool.not_eq_true',List.isEmpty_eq_false_iff]at h
  intro e
  have h1:=(co false t.text).1
  rw[e]at h1
  have:=List.length_pos_iff.2 h.1.2
  simp at h1
  exact h.1.2 h1
 ·split<;>simp
def Pc {α:Type}{p:α->Bool}{l:List α}{k:Nat}{x:α}(h:l[k]? = some x)(hp:p x=true):l.any p=true:=List.any_eq_true.2 ⟨x,List.mem_of_getElem? h,hp⟩
def Gw {l:List Tk}(h:(l.any fun t=>!ed t)=true):eP l=8:=by unfold eP;rw[if_pos (.inl h)]
def Gv {l:List Tk}(h:iZ l=true):eP l=8:=by unfold eP;rw[if_pos (.inr h)]
def ue {l:List Tk}(h1:(l.any fun t=>!ed t)=false)(h2:iZ l=false)(h:512<l.length\/16384<(bk l).length):eP l=4:=by
 unfold eP;rw[if_neg (by simp[h1,h2]),if_pos h]
def JC {l:List Tk}(h1:(l.any fun t=>!ed t)=false)(h2:iZ l=false)(h:¬(512<l.length\/16384<(bk l).length)):eP l=0:=by
 unfold eP;rw[if_neg (by simp[h1,h2]),if_neg h]
def JD {l:List Tk}(h:eP l=0):kf l=bk l:=by unfold kf;rw[if_pos h]
def pX {l:List Tk}{e:Int}(h:eP l=e)(he:e≠0):kf l=[]:=by unfold kf;rw[if_neg (by omega)]
def HN:bk []=[]:=rfl
def yL {l:List Tk}(hs:∀ t∈l,t.okTo 1000000/\t.attrs.length<=30)(hl:l.length<=512)(k:Nat):(bk (l.take k)).length<=111104063488:=by
 have h1:(bk (l.take k)).length<=(l.take k).length*217000124:=oS (fun t ht=>by
  obtain⟨⟨_,h2,h3,h4⟩,h30⟩:=hs t (List.mem_of_mem_take ht)
  have:=(r7 h30 h2 h3 h4).2
  omega)
 have h2:(l.take k).length<=512:=by simp;omega
 exact Nat.le_trans h1 (Nat.le_trans (Nat.mul_le_mul_right 217000124 h2) (by decide))
def sU {l:List Tk}{k:Nat}(h:pp l k)(hn:∀ a b,l[k-1]? = some a->l[k]? = some b->0<k -> ¬(a.kind=4/\b.kind=4)):pp l (k+1):=by
 intro i a b hi ha hb
 by_cases e:i+1=k
 ·subst e
  exact hn a b (by simpa using ha) hb (by omega)
 ·exact h i a b (by omega) ha hb
def JB (t:Tk)(h:t.okTo bc)(nm:Nat):Ev cx 84 nm [.agg (bE t)] am.nil (.bool (!ed t)) []:=by
 have hc:=zl t h
 unfold Ov at hc
 generalize ed t=b at hc ⊢
 cases b<;>(
  refine bh call84 func84 rfl (by kernel_rfl) rfl ?_;intro b0 hb0
  (repeat' first|simp only[ak,ag,results84,ntmps84,al,ay,bE,Bt,Bf,ai,seval,ah]|exact rfl|refine aa (v:=.any) ?_|(first|(refine ae ?_ (hc _) ?_)|(refine ab ?_ (fun _=>hc _) ?_))|((first|apply Ca|apply Cb)<;>intro hb)|refine Ai (by omega) ?_|(apply Ai<;>intro hb)|refine Fin.pure ?_ ?_ ?_|simp only[ap]))
def Nv (l:List Tk)(hl:l.length<=600)(hs:∀ t∈l,t.okTo 1000000/\t.attrs.length<=30)(nm:Nat):Ev cx 48 nm [.sl false 4 (l.map bE)] am.nil (.tup [.str (kf l),.int .i64 (eP l)]) []:=by
  have hlim:∀ t∈l,t.okTo bc:=fun t ht=>by
    obtain⟨⟨h1,h2,h3,h4⟩,_⟩:=hs t ht
    unfold bc
    exact⟨by omega,by omega,by omega,fun a ha=>by have:=h4 a ha;omega⟩
  have hcf:=om l 84 [] (fun t=>!ed t) (fun t ht nm=>JB t (hlim t ht) nm) (by unfold bc;omega) rfl
  cases hany:(l.any fun t=>!ed t) with
  | true =>
    rw[hany]at hcf
    have he:=Gw hany
    have hj:=pX he (by omega)
    refine bh call48 func48 rfl (by kernel_rfl) rfl ?_;intro b0 hb0;have zF:=Ai results48 ntmps48
    (repeat' first|simp only[ak,ag,zF,al,he,hj,ai,seval,ah]|exact rfl|refine aa (v:=.any) ?_|(first|(refine ae ?_ (hcf _) ?_)|(refine ab ?_ (fun _=>hcf _) ?_))|refine az (by decide +kernel) ?_|((first|apply Ca|apply Cb)<;>intro hb)|refine Ai (by omega) ?_|(apply Ai<;>intro hb)|refine Fin.pure ?_ ?_ ?_|simp only[ap])
  | false =>
    rw[hany]at hcf
    refine bh call48 func48 rfl (by kernel_rfl) rfl ?_;intro b0 hb0;have zF:=Ai results48 ntmps48
    repeat' first|simp only[ak,ag,zF,al,Lm,ai,seval,ah]|exact rfl|refine aa (v:=.any) ?_|(first|(refine ae ?_ (hcf _) ?_)|(refine ab ?_ (fun _=>hcf _) ?_))|refine az (by decide +kernel) ?_|((first|apply Ca|apply Cb)<;>intro hb)|refine Ai (by omega) ?_|(apply Ai<;>intro hb)
    (refine aQ bM (fun x:Nat=>l.length-x) (fun x=>x<=l.length/\pp l x) (b0+16) (fun x=>[(0,.sl false 4 (l.map bE)),(11,.sl false 4 (l.map bE)),(12,.int .i64 l.length),(13,.int .i64 x)]) (fun x=>[]) (0) [] ?_ ?_ ?_ ?_;rotate_left 1;(focus (show b0<=_;omega));(focus (refine⟨?_,?_⟩<;>(try simp only[aX,aE,Lm,ai,seval,ah,ap])<;>(try omega)));rotate_left 1)
    · exact⟨Nat.zero_le _,fun i a b hi=>by omega⟩
    · rintro k ⟨hk,hadj⟩
      by_cases hlt:k<l.length
      · obtain ⟨t,ht⟩:∃ t,l[k]? = some t:=⟨_,List.getElem?_eq_getElem hlt⟩
        have hat:=EZ ht
        have hd1:decide (k<l.length)=true:=decide_eq_true hlt
        have hwk:IntKind.i64.wrap ((k:Int)+1)=((k+1:Nat):Int):=bd
        by_cases h0:k=0
        · subst h0
          have hg:pp l (0+1):=fun i a b hi=>by omega
          have hd9:decide ((0:Int)<(l.length:Int))=true:=bR
          repeat' first|simp only[ak,ag,zF,al,ay,hat,bE,hd1,hd9,hlt,Int.lt_irrefl,Nat.lt_irrefl,Lm,ai,seval,ah]|exact rfl|refine aa (v:=.any) ?_|refine az (by decide +kernel) ?_|((first|apply Ca|apply Cb)<;>intro hb)|refine Ai (by omega) ?_|(apply Ai<;>intro hb)
          all_goals ((refine aC bM (0+1) [] ?_ ?_ ?_ ?_;rotate_left 2;(focus (show b0<=_;omega));(focus (refine⟨?_,?_⟩<;>(try simp only[aX,aE,hwk,show IntKind.i64.wrap 1=1 from by decide,Lm,ai,seval,ah,ap])<;>(try omega)))))
          all_goals (first|(show l.length-(0+1)<l.length-0;omega)|exact⟨by omega,hg⟩|skip)
        · obtain⟨m,rfl⟩:∃ m,k=m+1:=⟨k-1,by omega⟩
          have hlt0:m<l.length:=by omega
          obtain⟨p,hp⟩:∃ p,l[m]? = some p:=⟨_,List.getElem?_eq_getElem hlt0⟩
          have hpt:=EZ hp
          have hd0:decide ((0:Int)<((m+1:Nat):Int))=true:=bR
          have hwm:IntKind.i64.wrap (((m+1:Nat):Int)-1)=((m:Nat):Int):=by rw[bd];omega
          have hcs:(((t.kind:Int)==4)=false/\pp l (m+1+1))\/(((t.kind:Int)==4)=true/\((p.kind:Int)==(t.kind:Int))=false/\pp l (m+1+1))\/(((t.kind:Int)==4)=true/\((p.kind:Int)==(t.kind:Int))=true/\eP l=8):=by
            by_cases c2:t.kind=4
            · by_cases c1:p.kind=4
              · right;right
                exact⟨by rw[c2];rfl,by rw[c1,c2];rfl,Gv (H0 hp ht c1 c2)⟩
              · right;left
                refine⟨by rw[c2];rfl,beq_false_of_ne (by omega),sU hadj (fun a b ha hb _ h=>?_)⟩
                rw[Nat.add_sub_cancel,hp]at ha;cases ha;exact c1 h.1
            · left
              refine⟨beq_false_of_ne (by omega),sU hadj (fun a b ha hb _ h=>?_)⟩
              rw[ht]at hb;cases hb;exact c2 h.2
          rcases hcs with ⟨c1,hg⟩|⟨c1,c2,hg⟩|⟨c1,c2,he⟩
          · repeat' first|simp only[ak,ag,zF,al,ay,hat,hpt,bE,hd0,hd1,hlt,hlt0,hwm,c1,Lm,ai,seval,ah]|exact rfl|refine aa (v:=.any) ?_|refine az (by decide +kernel) ?_|((first|apply Ca|apply Cb)<;>intro hb)|refine Ai (by omega) ?_|(apply Ai<;>intro hb)
            all_goals ((refine aC bM (m+1+1) [] ?_ ?_ ?_ ?_;rotate_left 2;(focus (show b0<=_;omega));(focus (refine⟨?_,?_⟩<;>(try simp only[aX,aE,hwk,Lm,ai,seval,ah,ap])<;>(try omega)))))
            all_goals (first|(show l.length-(m+1+1)<l.length-(m+1);omega)|exact⟨by omega,hg⟩|skip)
          · repeat' first|simp only[ak,ag,zF,al,ay,hat,hpt,bE,hd0,hd1,hlt,hlt0,hwm,c1,c2,Lm,ai,seval,ah]|exact rfl|refine aa (v:=.any) ?_|refine az (by decide +kernel) ?_|((first|apply Ca|apply Cb)<;>intro hb)|refine Ai (by omega) ?_|(apply Ai<;>intro hb)
            all_goals ((refine aC bM (m+1+1) [] ?_ ?_ ?_ ?_;rotate_left 2;(focus (show b0<=_;omega));(focus (refine⟨?_,?_⟩<;>(try simp only[aX,aE,hwk,Lm,ai,seval,ah,ap])<;>(try omega)))))
            all_goals (first|(show l.length-(m+1+1)<l.length-(m+1);omega)|exact⟨by omega,hg⟩|skip)
          · have hj:=pX he (by omega)
            (repeat' first|simp only[ak,ag,zF,al,ay,hat,hpt,bE,hd0,hd1,hlt,hlt0,hwm,c1,c2,he,hj,Lm,ai,seval,ah]|exact rfl|refine aa (v:=.any) ?_|refine az (by decide +kernel) ?_|((first|apply Ca|apply Cb)<;>intro hb)|refine Ai (by omega) ?_|(apply Ai<;>intro hb)|refine Fin.pure ?_ ?_ ?_|simp only[ap])
      · have hke:k=l.length:=by omega
        subst hke
        have hd1:decide (l.length<l.length)=false:=bm
        have hadj':iZ l=false:=jm.2 hadj
        by_cases h512:512<l.length
        · have he:=ue hany hadj' (.inl h512)
          have hj:=pX he (by omega)
          have hd2:decide ((512:Int)<(l.length:Int))=true:=bR
          (repeat' first|simp only[ak,ag,zF,al,hd1,hd2,he,hj,Lm,ai,seval,ah]|exact rfl|refine aa (v:=.any) ?_|refine az (by decide +kernel) ?_|((first|apply Ca|apply Cb)<;>intro hb)|refine Ai (by omega) ?_|(apply Ai<;>intro hb)|refine Fin.pure ?_ ?_ ?_|simp only[ap])
        · have hd2:decide ((512:Int)<(l.length:Int))=false:=bm
          have htl:=yL hs (by omega)
          repeat' first|simp only[ak,ag,zF,al,hd1,hd2,Lm,ai,seval,ah]|exact rfl|refine aa (v:=.any) ?_|refine az (by decide +kernel) ?_|((first|apply Ca|apply Cb)<;>intro hb)|refine Ai (by omega) ?_|(apply Ai<;>intro hb)
          (refine aQ bM (fun x:Nat=>l.length-x) (fun x=>x<=l.length/\(bk (l.take x)).length<=16384) (b0+16) (fun x=>[(0,.sl false 4 (l.map bE)),(6,.ptr b0 0 0),(40,.sl false 4 (l.map bE)),(41,.int .i64 l.length),(42,.int .i64 x)]) (fun x=>[(b0,bS false b0 (b0+1) (bk (l.take x))),(b0+1,rK (bk (l.take x)))]) (0) [some (b0+80),none] ?_ ?_ ?_ ?_;rotate_left 1;(focus (show b0<=_;omega));(focus (refine⟨?_,?_⟩<;>(try simp only[aX,BK,Dh,Di,fY,dX,gf,dL,aE,Lm,List.take_zero,HN,ai,seval,ah,ap])<;>(try omega)));rotate_left 1)
          · exact⟨Nat.zero_le _,by simp[bk]⟩
          · rintro j ⟨hj,hsz⟩
            by_cases hlt3:j<l.length
            · obtain⟨t,ht⟩:∃ t,l[j]? = some t:=⟨_,List.getElem?_eq_getElem hlt3⟩
              have hat:=EZ ht
              have hd3:decide (j<l.length)=true:=decide_eq_true hlt3
              have hwj:IntKind.i64.wrap ((j:Int)+1)=((j+1:Nat):Int):=bd
              have htok:ed t=true:=by
                cases hh:ed t with
                | true=>rfl
                | false=>rw[Pc (p:=fun t=>!ed t) ht (by simp[hh])]at hany;cases hany
              have hwr:=DW t (hs t (List.mem_of_getElem? ht)).1 htok
              have hne:=LD htok
              have hnx:=DN ht
              have b2:=htl (j+1)
              have hll:(bk (l.take j)).length+(fJ t).length<=bc:=by
                rw[hnx,List.length_append]at b2;unfold bc;omega
              have hll2:(bk (l.take (j+1))).length<=bc:=by unfold bc;omega
              by_cases hbig:16384<(bk (l.take (j+1))).length
              · have hbl:16384<(bk l).length:=by
                  refine Nat.lt_of_lt_of_le hbig ?_
                  conv=>rhs;rw[<- List.take_append_drop (j+1) l]
                  unfold bk
                  rw[List.flatMap_append,List.length_append];omega
                have he:=ue hany hadj' (.inr hbl)
                have hjt:=pX he (by omega)
                have hd4:decide ((16384:Int)<((bk (l.take (j+1))).length:Int))=true:=bR
                (repeat' first|simp only[ak,ag,zF,al,ay,hat,bE,hd3,hlt3,hd4,he,hjt,hnx.symm,au,Lm,ai,seval,ah]|exact rfl|refine aa (v:=.any) ?_|(first|(refine ae ?_ (hwr _) ?_)|(refine ab ?_ (fun _=>hwr _) ?_))|(refine ac ?_ [b0,b0+1] (nX false b0 (b0+1) (bk (l.take j)) _ _ (fJ t) hne hll (by omega) ?_ ?_ aj (by omega) (by omega)) ?_ ?_)|(refine ac ?_ [b0,b0+128] (sv false b0 (b0+128) (bk (l.take (j+1))) _ _ (by omega) ?_ ?_ aj (by omega) (by omega)) ?_ ?_)|refine az (by decide +kernel) ?_|((first|apply Ca|apply Cb)<;>intro hb)|refine Ai (by omega) ?_|(apply Ai<;>intro hb)|refine Fin.pure ?_ ?_ ?_|simp only[ap])
              · have hd4:decide ((16384:Int)<((bk (l.take (j+1))).length:Int))=false:=bm
                repeat' first|simp only[ak,ag,zF,al,ay,hat,bE,hd3,hlt3,hd4,hnx.symm,au,Lm,ai,seval,ah]|exact rfl|refine aa (v:=.any) ?_|(first|(refine ae ?_ (hwr _) ?_)|(refine ab ?_ (fun _=>hwr _) ?_))|(refine ac ?_ [b0,b0+1] (nX false b0 (b0+1) (bk (l.take j)) _ _ (fJ t) hne hll (by omega) ?_ ?_ aj (by omega) (by omega)) ?_ ?_)|(refine ac ?_ [b0,b0+128] (sv false b0 (b0+128) (bk (l.take (j+1))) _ _ (by omega) ?_ ?_ aj (by omega) (by omega)) ?_ ?_)|refine az (by decide +kernel) ?_|((first|apply Ca|apply Cb)<;>intro hb)|refine Ai (by omega) ?_|(apply Ai<;>intro hb)
                all_goals ((refine aC bM (j+1) [some b0,some (b0+128)] ?_ ?_ ?_ ?_;rotate_left 2;(focus (show b0<=_;omega));(focus (refine⟨?_,?_⟩<;>(try simp only[aX,aE,hwj,hnx.symm,lS,gO,gf,dL,Option.getD_some,Option.isSome_some,Lm,ai,seval,ah,ap])<;>(try omega)))))
                all_goals (first|(show l.length-(j+1)<l.length-j;omega)|exact⟨by omega,by omega⟩|skip)
            · have hje:j=l.length:=by omega
              subst hje
              rw[List.take_length]at hsz
              have hd3:decide (l.length<l.length)=false:=bm
              have he:=JC hany hadj' (by omega)
              have hjt:=JD he
              have hll:(bk l).length<=bc:=by unfold bc;omega
              (repeat' first|simp only[ak,ag,zF,al,hd3,he,hjt,List.take_length,Lm,ai,seval,ah]|exact rfl|refine aa (v:=.any) ?_|(refine ac ?_ [b0,b0+1] (pw false b0 (b0+1) (bk l) _ _ hll (by omega) ?_ ?_ aj (by omega) (by omega)) ?_ ?_)|refine az (by decide +kernel) ?_|((first|apply Ca|apply Cb)<;>intro hb)|refine Ai (by omega) ?_|(apply Ai<;>intro hb)|refine Fin.pure ?_ ?_ ?_|simp only[ap])
end Go.Proofs.YtlnlopnpcmahgaaGreatDoor
