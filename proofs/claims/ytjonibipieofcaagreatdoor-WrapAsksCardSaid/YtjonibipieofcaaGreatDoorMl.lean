/-
 Texts joined: XLb,XLr,XEj,XLi,XLk.
-/
import Derived.Test.YtjonibipieofcaaGreatDoorMa
set_option linter.all false
namespace Go.Proofs.YtjonibipieofcaaGreatDoor
set_option maxRecDepth 100000
set_option maxHeartbeats 32000000
open Go Go.RowKit Vm Go.Lib Tryz
open Vm renaming aI->Ca,aP->Cb
open And renaming intro->Ai
open List renaming length_map->Lm,not_mem_nil->Ln,map_nil->Lo,map_cons->Lc,mem_cons->Lk
open Bool renaming not_false->Bf,not_true->Bt
def Ei (l:List Pr)(hl:l.length<=aT)(hs:∀ a∈l,a.name.length<=aT/\a.value.length<=aT)(nm:Nat):Ev cx 144 nm [.sl false 2 (l.map fm)] ao.nil (.bool (e8 l)) []:=by
 have hl':=hl
 unfold aT at hl'
 refine aX call144 func144 ?_;intro b0 hb0
 refine wR (a2 results144 ntmps144) trivial ?_
 (refine ew (fun x:Nat=>l.length-x) (fun x=>x<=l.length/\gK l x) (b0+16) (fun x=>[(0,.sl false 2 (l.map fm)),(3,.int .i64 x)]) (fun x=>[]) (0) [] ?_ ?_ ?_;(focus (refine⟨?_,?_⟩<;>(try simp only[aE,aC,aj,ai,aq,seval])<;>(try omega))))
 ·exact⟨Nat.zero_le _,fun i a hi=>by omega⟩
 ·rintro k ⟨hk,hn⟩
  by_cases hlt:k<l.length
  ·obtain⟨a,ha⟩:=ic hlt
   obtain⟨hs1,hs2⟩:=hs a (List.mem_of_getElem? ha)
   have hat:=yS ha
   have hd:=decide_eq_true hlt
   have hwk:=eD k
   have hki:(k:Int)<=(l.length:Int):=by omega
   have htk:(l.map fm).take k=(l.take k).map fm:=by rw[List.map_take]
   have hlen:(l.take k).length<=aT:=by rw[List.length_take];omega
   have hf:=oR a.name hs1
   have hh:=Mz (l.take k) a.name hlen
   have hc:=fN a.value hs2
   have hok:Iz (l.take k) a=(!((l.take k).any fun b=>a.name==b.name)&&bU a.name&&decide (aF a.value=0)):=rfl
   generalize h1:bU a.name=b1 at hf hok
   generalize h2:((l.take k).any fun b=>a.name==b.name)=b2 at hh hok
   have h3:(aF a.value != 0) = !decide (aF a.value=0):=by
    rw[Bool.eq_iff_iff];simp
   generalize decide (aF a.value=0)=b3 at h3 hok
   cases ho:Iz (l.take k) a with
   | false =>
    have hr:=qf ha ho
    rw[ho]at hok
    cases b1<;>cases b2<;>cases b3
    all_goals (try (exfalso;simp at hok;done))
    all_goals ((repeat' first|simp only[au,ap,results144,ntmps144,am,hat,fm,hd,hlt,hk,hki,htk,h3,hr,Bt,Bf,Lm,aj,ai,seval]|exact rfl|refine aa (v:=.any) ?_|(first|(refine ah ?_ (hf _) ?_)|(refine ac ?_ (fun _=>hf _) ?_)|(refine ah ?_ (hh _) ?_)|(refine ac ?_ (fun _=>hh _) ?_)|(refine ah ?_ (hc _) ?_)|(refine ac ?_ (fun _=>hc _) ?_))|(refine aa (v:=.any) ?_)|refine av (by decide +kernel) ?_|((first|apply Ca|apply Cb)<;>intro hb)|refine Ai (by omega) ?_|(apply Ai<;>intro hb)|apply Fin.pure|simp only[aq]))
   | true =>
    have hn':=nP hn ha ho
    rw[ho]at hok
    cases b1<;>cases b2<;>cases b3
    all_goals (try (exfalso;simp at hok;done))
    all_goals (refine wR (a3 results144 ntmps144 (a9 hat @fm.eq_1 hd hlt hk hki htk h3 hwk)) (a3 hf hh hc) ?_)
    all_goals ((refine de (k+1) [] ?_ ?_ ?_;(focus (refine⟨?_,?_⟩<;>(try simp only[aE,aC,hwk,aj,ai,aq,seval])<;>(try omega)))))
    all_goals (first|(show l.length-(k+1)<l.length-k;omega)|exact⟨hlt,hn'⟩|skip)
  ·have hke:k=l.length:=by omega
   subst hke
   have hd:decide (l.length<l.length)=false:=bi
   have hr:e8 l=decide (l.length<=16):=by
    rw[Bool.eq_iff_iff,eS,decide_eq_true_eq]
    exact⟨fun h=>h.1,fun h=>⟨h,hn⟩⟩
   have hz:decide ((l.length:Int)<=16)=decide (l.length<=16):=by
    rw[Bool.eq_iff_iff,decide_eq_true_eq,decide_eq_true_eq];omega
   exact wP (a5 results144 ntmps144 hd hr hz) trivial
def Hq (t:Tk)(h:t.okTo aT)(nm:Nat):Ev cx 104 nm [.agg (bQ t)] ao.nil (.bool (eQ t)) []:=by
 obtain⟨hl,hnl,htl,hal⟩:=h
 have hee:((t.attrs.length:Int)==0)=t.attrs.isEmpty:=lQ _
 have hne:=fK t.name
 have hxe:=fK t.text
 have hxb:(t.text != []) = !t.text.isEmpty:=congrArg not hxe
 have hz:decide (aF t.text=0)=(aF t.text==0):=by rw[Bool.eq_iff_iff];simp
 have hfull:=oR t.name hnl
 have hchk:=fN t.text htl
 have hat:=Ei t.attrs hl hal
 have hk:eQ t=(if t.kind=1\/t.kind=3 then bU t.name&&e8 t.attrs&&t.text.isEmpty
  else if t.kind=2 then bU t.name&&t.attrs.isEmpty&&t.text.isEmpty
  else if t.kind=4 then t.name.isEmpty&&t.attrs.isEmpty && !t.text.isEmpty&&(aF t.text==0)
  else false):=by rw[<- hz];rfl
 generalize he:t.attrs.isEmpty=e at hk hee
 generalize hn:t.name.isEmpty=n at hk hne
 generalize hx:t.text.isEmpty=x at hk hxe hxb
 generalize hf:bU t.name=f at hk hfull
 generalize hg:e8 t.attrs=g at hk hat
 generalize hy:(aF t.text==0)=z at hk
 rw[hk]
 rcases iT t.kind with ⟨q1,q3,q2,q4,hkd⟩|⟨q1,q3,q2,q4,hkd⟩|⟨q1,q3,q2,q4,hkd⟩|⟨q1,q3,q2,q4,hkd⟩|⟨q1,q3,q2,q4,hk1,hk3,hk2,hk4⟩
 ·rw[if_pos (.inl hkd)]
  cases f<;>cases g<;>(
   refine aX call104 func104 ?_;intro b0 hb0
   (repeat' first|simp only[au,ap,results104,ntmps104,am,aC,bQ,hxe,q1,q2,q3,q4,aj,ai,seval]|exact rfl|refine aa (v:=.any) ?_|(first|(refine ah ?_ (hfull _) ?_)|(refine ac ?_ (fun _=>hfull _) ?_)|(refine ah ?_ (hat _) ?_)|(refine ac ?_ (fun _=>hat _) ?_))|(refine aa (v:=.any) ?_)|((first|apply Ca|apply Cb)<;>intro hb)|refine Ai (by omega) ?_|(apply Ai<;>intro hb)|apply Fin.pure|simp only[aq]))
 ·rw[if_pos (.inr hkd)]
  cases f<;>cases g<;>(
   refine aX call104 func104 ?_;intro b0 hb0
   (repeat' first|simp only[au,ap,results104,ntmps104,am,aC,bQ,hxe,q1,q2,q3,q4,aj,ai,seval]|exact rfl|refine aa (v:=.any) ?_|(first|(refine ah ?_ (hfull _) ?_)|(refine ac ?_ (fun _=>hfull _) ?_)|(refine ah ?_ (hat _) ?_)|(refine ac ?_ (fun _=>hat _) ?_))|(refine aa (v:=.any) ?_)|((first|apply Ca|apply Cb)<;>intro hb)|refine Ai (by omega) ?_|(apply Ai<;>intro hb)|apply Fin.pure|simp only[aq]))
 ·rw[if_neg (by omega),if_pos hkd]
  cases f<;>cases e<;>(
   refine aX call104 func104 ?_;intro b0 hb0
   (repeat' first|simp only[au,ap,results104,ntmps104,am,aC,bQ,hxe,hee,Lm,q1,q2,q3,q4,aj,ai,seval]|exact rfl|refine aa (v:=.any) ?_|(first|(refine ah ?_ (hfull _) ?_)|(refine ac ?_ (fun _=>hfull _) ?_))|(refine aa (v:=.any) ?_)|((first|apply Ca|apply Cb)<;>intro hb)|refine Ai (by omega) ?_|(apply Ai<;>intro hb)|apply Fin.pure|simp only[aq]))
 ·rw[if_neg (by omega),if_neg (by omega),if_pos hkd]
  cases n<;>cases e<;>cases x<;>cases z<;>(
   refine aX call104 func104 ?_;intro b0 hb0
   (repeat' first|simp only[au,ap,results104,ntmps104,am,aC,bQ,hxe,hxb,hne,hee,hy,Lm,q1,q2,q3,q4,aj,ai,seval]|exact rfl|refine aa (v:=.any) ?_|(first|(refine ah ?_ (hchk _) ?_)|(refine ac ?_ (fun _=>hchk _) ?_))|(refine aa (v:=.any) ?_)|((first|apply Ca|apply Cb)<;>intro hb)|refine Ai (by omega) ?_|(apply Ai<;>intro hb)|apply Fin.pure|simp only[aq]))
 ·rw[if_neg (by omega),if_neg hk2,if_neg hk4]
  refine aX call104 func104 ?_;intro b0 hb0
  exact wP (a8 results104 ntmps104 @aC @bQ.eq_1 q1 q2 q3 q4) trivial
def yY (c:UInt8)(q:Bool)(nm:Nat):Ev cx 165 nm [.int .u8 c.toNat,.bool q] ao.nil (.str (lC q c)) []:=by
 have h1:((c.toNat:Int)==38)=decide (c=38):=dy c 38
 have h2:((c.toNat:Int)==60)=decide (c=60):=dy c 60
 have h3:((c.toNat:Int)==62)=decide (c=62):=dy c 62
 have h4:((c.toNat:Int)==13)=decide (c=13):=dy c 13
 have h5:((c.toNat:Int)==34)=decide (c=34):=dy c 34
 have h6:((c.toNat:Int)==9)=decide (c=9):=dy c 9
 have h7:((c.toNat:Int)==10)=decide (c=10):=dy c 10
 refine aX call165 func165 ?_;intro b0 hb0;have zF:=Ai results165 ntmps165
 (repeat' first|simp only[au,ap,zF,am,h1,h2,h3,h4,h5,h6,h7,aj,ai,seval]|exact rfl|refine aa (v:=.any) ?_|(refine gw (v:=?_) (bs:=[c]) ?_ ?_ ?_ ?_ ?_ ?_ ?_;rotate_left 1;(iterate 2 (focus (simp only[zF,am,h1,h2,h3,h4,h5,h6,h7,aj,ai,seval];done)));(focus (simp only[zF,am,h1,h2,h3,h4,h5,h6,h7,aj,ai,seval]<;>exact rfl));(focus (exact rfl));(focus (simp only[ap,zF,am,h1,h2,h3,h4,h5,h6,h7,aj,ai,seval];done));(focus (simp only[zF,am,h1,h2,h3,h4,h5,h6,h7,aj,ai,seval]<;>exact rfl)))|(refine bo ?_)|(refine bc ?_)|((first|apply Ca|apply Cb)<;>intro hb)|refine Ai (by omega) ?_|(apply Ai<;>intro hb)|apply Fin.pure|simp only[aq])
 all_goals (simp only[decide_eq_true_eq,decide_eq_false_iff_not]at *;simp[lC, *])
def lZ (s:List UInt8)(q:Bool)(hs:s.length<=1000000)(nm:Nat):Ev cx 145 nm [.str s,.bool q] ao.nil (.str (bI q s)) []:=by
 have hw:=bG q s
 refine aX call145 func145 ?_;intro b0 hb0;have zF:=Ai results145 ntmps145
 repeat' first|simp only[au,ap,zF,am,aj,ai,seval]|exact rfl|refine aa (v:=.any) ?_|((first|apply Ca|apply Cb)<;>intro hb)|refine Ai (by omega) ?_|(apply Ai<;>intro hb)
 (refine ew (fun x:Nat=>s.length-x) (fun x=>x<=s.length) (b0+16) (fun x=>[(0,.str s),(1,.bool q),(5,.own b0 0 (bI q (s.take x)).length),(6,.int .i64 x)]) (fun x=>[(b0,@Blk.mk 1 ((bI q (s.take x)).map aL) (.typed 5))]) (0) [none] ?_ ?_ ?_;(focus (refine⟨?_,?_⟩<;>(try simp only[aE,yA,List.take_zero,sd,Lo,List.length_nil,aj,ai,aq,seval])<;>(try omega))))
 ·exact Nat.zero_le _
 ·intro k hk
  by_cases hlt:k<s.length
  ·obtain⟨c,hc⟩:=ic hlt
   have hd:=decide_eq_true hlt
   have hwk:=eD k
   have hnx:=uI q hc
   have hw1:=bG q (s.take k)
   have hw2:=ji q c
   have hw3:(s.take k).length=k:=by rw[List.length_take];omega
   have hmp:(bI q (s.take k)).map aL++(lC q c).map aL=(bI q (s.take (k+1))).map aL:=by rw[hnx,List.map_append]
   have hnl:(bI q (s.take k)).length+(lC q c).length=(bI q (s.take (k+1))).length:=by rw[hnx,List.length_append]
   repeat' first|simp only[au,ap,zF,am,hc,hd,hlt,hwk,Option.bind_some,PK,if_true,pj,J8,Lm,List.take_of_length_le,Nat.le_refl,hmp,aj,ai,seval]|exact rfl|refine aa (v:=.any) ?_|(first|(refine ah ?_ (yY c q _) ?_)|(refine ac ?_ (fun _=>yY c q _) ?_))|((first|apply Ca|apply Cb)<;>intro hb)|refine Ai (by omega) ?_|(apply Ai<;>intro hb)
   ((refine de (k+1) [some (b0+176)] ?_ ?_ ?_;(focus (refine⟨?_,?_⟩<;>(try simp only[aE,Bg,wT,hwk,hnl,Option.bind_some,PK,if_true,pj,aj,ai,aq,seval])<;>(try omega)))))
   all_goals (first|(show s.length-(k+1)<s.length-k;omega)|(show k+1<=s.length;omega)|skip)
  ·have hke:k=s.length:=by omega
   subst hke
   have hd:decide (s.length<s.length)=false:=bi
   (repeat' first|simp only[au,ap,zF,am,hd,List.take_length,Lm,List.take_of_length_le,Nat.le_refl,aj,ai,seval]|exact rfl|refine aa (v:=.any) ?_|(refine gw (v:=?_) (bs:=bI q s) ?_ ?_ ?_ ?_ ?_ ?_ ?_;rotate_left 1;(iterate 2 (focus (simp only[zF,am,hd,List.take_length,Lm,List.take_of_length_le,Nat.le_refl,aj,ai,seval];done)));(focus (simp only[zF,am,hd,List.take_length,Lm,List.take_of_length_le,Nat.le_refl,aj,ai,seval]<;>exact rfl));(focus (exact rfl));(focus (simp only[ap,zF,am,hd,List.take_length,Lm,List.take_of_length_le,Nat.le_refl,aj,ai,seval];done));(focus (simp only[zF,am,hd,List.take_length,Lm,List.take_of_length_le,Nat.le_refl,aj,ai,seval]<;>exact rfl)))|(refine bo ?_)|(refine bc ?_)|((first|apply Ca|apply Cb)<;>intro hb)|refine Ai (by omega) ?_|(apply Ai<;>intro hb)|apply Fin.pure|simp only[aq])
def sW (t:Tk)(h:t.okTo 1000000)(h30:t.attrs.length<=30)(k3:Bool)(q2:((t.kind:Int)==2)=false)(q4:((t.kind:Int)==4)=false)(q3:((t.kind:Int)==3)=k3)(nm:Nat):Ev cx 105 nm [.agg (bQ t)] ao.nil (.str (if k3 then mO t t.attrs.length++[47,62] else mO t t.attrs.length++[62])) []:=by
 have hwl:=fun k=>tF t k h h30
 obtain⟨hl,hnl,htl,hal⟩:=h
 have hw0:=tG t
 refine aX call105 func105 ?_;intro b0 hb0;have zF:=Ai results105 ntmps105
 repeat' first|simp only[au,ap,zF,am,bQ,q2,q4,aj,ai,seval]|exact rfl|refine aa (v:=.any) ?_|refine ag (ps:=[(2,15),(4,15),(6,15)]) (by decide +kernel) (by simp only[List.forall_mem_cons,List.getD_cons_zero,List.getD_cons_succ,zF,am,bQ,q2,q4,aj,ai,seval]<;>(try simp)<;>(try omega)) ?_|refine av (by decide +kernel) ?_|((first|apply Ca|apply Cb)<;>intro hb)|refine Ai (by omega) ?_|(apply Ai<;>intro hb)
 (refine ew (fun x:Nat=>t.attrs.length-x) (fun x=>x<=t.attrs.length) (b0+16) (fun x=>[(1,.ptr b0 0 0),(3,.str (mO t x)),(4,.int .i64 x)]) (fun x=>[(b0,⟨4,[bQ t]⟩)]) (0) [some b0] ?_ ?_ ?_;(focus (refine⟨?_,?_⟩<;>(try simp only[aE,aC,iI,bQ,hw0,Lm,aj,ai,aq,seval])<;>(try omega))))
 ·exact Nat.zero_le _
 ·intro k hk
  by_cases hlt:k<t.attrs.length
  ·obtain⟨a,ha⟩:=ic hlt
   obtain⟨hs1,hs2⟩:=hal a (List.mem_of_getElem? ha)
   have hat0:=yS ha
   have hd:=decide_eq_true hlt
   have hwk:=eD k
   have hpv:=lZ a.value true hs2
   have hnx:=zu ha
   have hz:=hwl k
   have hew:=bG true a.value
   have l1:(a.name++[61,34]).length=a.name.length+2:=by simp
   have l2:(a.name++[61,34]++bI true a.value).length=a.name.length+2+(bI true a.value).length:=by simp;omega
   have l3:(a.name++[61,34]++bI true a.value++[34]).length=a.name.length+3+(bI true a.value).length:=by simp;omega
   repeat' first|simp only[au,ap,zF,am,aC,bQ,hat0,fm,hd,hlt,hnx,l1,l2,l3,Lm,aj,ai,seval]|exact rfl|refine aa (v:=.any) ?_|(first|(refine ah ?_ (hpv _) ?_)|(refine ac ?_ (fun _=>hpv _) ?_))|refine ag (ps:=[(2,15),(4,15),(6,15)]) (by decide +kernel) (by simp only[List.forall_mem_cons,List.getD_cons_zero,List.getD_cons_succ,zF,am,aC,bQ,hat0,fm,hd,hlt,hnx,l1,l2,l3,Lm,aj,ai,seval]<;>(try simp)<;>(try omega)) ?_|refine av (by decide +kernel) ?_|((first|apply Ca|apply Cb)<;>intro hb)|refine Ai (by omega) ?_|(apply Ai<;>intro hb)
   all_goals ((refine de (k+1) [some b0] ?_ ?_ ?_;(focus (refine⟨?_,?_⟩<;>(try simp only[aE,aC,iI,bQ,hwk,hnx,Lm,aj,ai,aq,seval])<;>(try omega)))))
   all_goals (first|(show t.attrs.length-(k+1)<t.attrs.length-k;omega)|(show k+1<=t.attrs.length;omega)|skip)
  ·have hke:k=t.attrs.length:=by omega
   subst hke
   have hd:decide (t.attrs.length<t.attrs.length)=false:=bi
   have hz:=hwl t.attrs.length
   cases k3<;>((repeat' first|simp only[au,ap,zF,am,aC,bQ,hd,q3,Lm,aj,ai,seval]|exact rfl|refine aa (v:=.any) ?_|refine ag (ps:=[(2,15),(4,15),(6,15)]) (by decide +kernel) (by simp only[List.forall_mem_cons,List.getD_cons_zero,List.getD_cons_succ,zF,am,aC,bQ,hd,q3,Lm,aj,ai,seval]<;>(try simp)<;>(try omega)) ?_|refine av (by decide +kernel) ?_|((first|apply Ca|apply Cb)<;>intro hb)|refine Ai (by omega) ?_|(apply Ai<;>intro hb)|apply Fin.pure|simp only[aq]))
def wS (t:Tk)(h:t.okTo 1000000)(h30:t.attrs.length<=30)(nm:Nat):Ev cx 105 nm [.agg (bQ t)] ao.nil (.str (dR t)) []:=by
 rcases iT t.kind with ⟨q1,q3,q2,q4,hkd⟩|⟨q1,q3,q2,q4,hkd⟩|⟨q1,q3,q2,q4,hkd⟩|⟨q1,q3,q2,q4,hkd⟩|⟨q1,q3,q2,q4,hk1,hk3,hk2,hk4⟩
 ·have hw:dR t=mO t t.attrs.length++[62]:=by unfold dR;rw[if_neg (by omega),if_neg (by omega),if_neg (by omega),o8]
  rw[hw]
  exact sW t h h30 false q2 q4 q3 nm
 ·have hw:dR t=mO t t.attrs.length++[47,62]:=by unfold dR;rw[if_neg (by omega),if_neg (by omega),if_pos hkd,o8]
  rw[hw]
  exact sW t h h30 true q2 q4 q3 nm
 ·obtain⟨hl,hnl,htl,hal⟩:=h
  have hw:dR t=60::47::(t.name++[62]):=by unfold dR;rw[if_neg (by omega),if_pos hkd];simp
  rw[hw]
  refine aX call105 func105 ?_;intro b0 hb0
  (repeat' first|simp only[au,ap,results105,ntmps105,am,aC,bQ,q1,q2,q3,q4,aj,ai,seval]|exact rfl|refine aa (v:=.any) ?_|refine ag (ps:=[(2,15),(4,15),(6,15)]) (by decide +kernel) (by simp only[List.forall_mem_cons,List.getD_cons_zero,List.getD_cons_succ,results105,ntmps105,am,aC,bQ,q1,q2,q3,q4,aj,ai,seval]<;>(try simp)<;>(try omega)) ?_|refine av (by decide +kernel) ?_|((first|apply Ca|apply Cb)<;>intro hb)|refine Ai (by omega) ?_|(apply Ai<;>intro hb)|apply Fin.pure|simp only[aq])
 ·obtain⟨hl,hnl,htl,hal⟩:=h
  have hw:dR t=bI false t.text:=by unfold dR;rw[if_pos hkd]
  rw[hw]
  refine aX call105 func105 ?_;intro b0 hb0
  (repeat' first|simp only[au,ap,results105,ntmps105,am,aC,bQ,q1,q2,q3,q4,aj,ai,seval]|exact rfl|refine aa (v:=.any) ?_|(first|(refine ah ?_ (lZ t.text false htl _) ?_)|(refine ac ?_ (fun _=>lZ t.text false htl _) ?_))|refine ag (ps:=[(2,15),(4,15),(6,15)]) (by decide +kernel) (by simp only[List.forall_mem_cons,List.getD_cons_zero,List.getD_cons_succ,results105,ntmps105,am,aC,bQ,q1,q2,q3,q4,aj,ai,seval]<;>(try simp)<;>(try omega)) ?_|refine av (by decide +kernel) ?_|((first|apply Ca|apply Cb)<;>intro hb)|refine Ai (by omega) ?_|(apply Ai<;>intro hb)|apply Fin.pure|simp only[aq])
 ·have hw:dR t=mO t t.attrs.length++[62]:=by unfold dR;rw[if_neg hk4,if_neg hk2,if_neg hk3,o8]
  rw[hw]
  exact sW t h h30 false q2 q4 q3 nm
def Hn (l:List Tk)(hl:l.length<=600)(hs:∀ t∈l,t.okTo 1000000/\t.attrs.length<=30)(nm:Nat):Ev cx 53 nm [.sl false 4 (l.map bQ)] ao.nil (.tup [.str (lN l),.int .i64 (fh l)]) []:=by
  have hlim:∀ t∈l,t.okTo aT:=fun t ht=>by
    obtain⟨⟨h1,h2,h3,h4⟩,_⟩:=hs t ht
    unfold aT
    exact⟨by omega,by omega,by omega,fun a ha=>by have:=h4 a ha;omega⟩
  refine aX call53 func53 ?_;intro b0 hb0;have zF:=Ai results53 ntmps53
  repeat' first|simp only[au,ap,zF,am,aj,ai,seval]|exact rfl|refine aa (v:=.any) ?_|((first|apply Ca|apply Cb)<;>intro hb)|refine Ai (by omega) ?_|(apply Ai<;>intro hb)
  (refine ew (fun x:Nat=>l.length-x) (fun x=>x<=l.length/\((l.take x).any fun t=>!eQ t)=false) (b0+16) (fun x=>[(0,.sl false 4 (l.map bQ)),(4,.str []),(5,.int .i64 x)]) (fun x=>[]) (0) [] ?_ ?_ ?_;(focus (refine⟨?_,?_⟩<;>(try simp only[aE,aM,Lm,aj,ai,aq,seval])<;>(try omega))))
  · exact⟨Nat.zero_le _,by simp⟩
  · rintro k ⟨hk,hno⟩
    by_cases hlt:k<l.length
    · obtain⟨t,ht⟩:=ic hlt
      have hat:=tr ht
      have hd:=decide_eq_true hlt
      have hwk:=eD k
      have hmy:=Hq t (hlim t (List.mem_of_getElem? ht))
      cases hp:eQ t with
      | false =>
        rw[hp]at hmy
        have he:=uS (Fa (p:=fun t=>!eQ t) ht (by simp[hp]))
        have hj:=g8 he (by omega)
        (repeat' first|simp only[au,ap,zF,am,aC,hat,bQ,hd,hlt,he,hj,Bf,Lm,aj,ai,seval]|exact rfl|refine aa (v:=.any) ?_|(first|(refine ah ?_ (hmy _) ?_)|(refine ac ?_ (fun _=>hmy _) ?_))|((first|apply Ca|apply Cb)<;>intro hb)|refine Ai (by omega) ?_|(apply Ai<;>intro hb)|apply Fin.pure|simp only[aq])
      | true =>
        rw[hp]at hmy
        have hno':=cB (p:=fun t=>!eQ t) hno ht (by simp[hp])
        repeat' first|simp only[au,ap,zF,am,aC,hat,bQ,hd,hlt,Bt,Lm,aj,ai,seval]|exact rfl|refine aa (v:=.any) ?_|(first|(refine ah ?_ (hmy _) ?_)|(refine ac ?_ (fun _=>hmy _) ?_))|((first|apply Ca|apply Cb)<;>intro hb)|refine Ai (by omega) ?_|(apply Ai<;>intro hb)
        all_goals ((refine de (k+1) [] ?_ ?_ ?_;(focus (refine⟨?_,?_⟩<;>(try simp only[aE,aM,hwk,Lm,aj,ai,aq,seval])<;>(try omega)))))
        all_goals (first|(show l.length-(k+1)<l.length-k;omega)|exact⟨hlt,hno'⟩|skip)
    · have hke:k=l.length:=by omega
      subst hke
      rw[List.take_length]at hno
      have hd:decide (l.length<l.length)=false:=bi
      repeat' first|simp only[au,ap,zF,am,hd,Lm,aj,ai,seval]|exact rfl|refine aa (v:=.any) ?_|((first|apply Ca|apply Cb)<;>intro hb)|refine Ai (by omega) ?_|(apply Ai<;>intro hb)
      (refine ew (fun x:Nat=>l.length-x) (fun x=>1<=x/\(x<=l.length\/x=1)/\kP l x) (b0+16) (fun x=>[(0,.sl false 4 (l.map bQ)),(4,.str []),(6,.int .i64 x)]) (fun x=>[]) (1) [] ?_ ?_ ?_;(focus (refine⟨?_,?_⟩<;>(try simp only[aE,aM,Lm,aj,ai,aq,seval])<;>(try omega))))
      · exact⟨Nat.le_refl _,.inr rfl,fun i a b hi=>by omega⟩
      · rintro k ⟨hk1,hk2,hadj⟩
        by_cases hlt:k<l.length
        · obtain⟨m,rfl⟩:∃ m,k=m+1:=⟨k-1,by omega⟩
          obtain⟨t,ht⟩:∃ t,l[m+1]? = some t:=⟨_,List.getElem?_eq_getElem hlt⟩
          have hlt0:m<l.length:=by omega
          obtain⟨p,hp⟩:∃ p,l[m]? = some p:=⟨_,List.getElem?_eq_getElem hlt0⟩
          have hat:=tr ht
          have hpt:=tr hp
          have hd1:decide (m+1<l.length)=true:=decide_eq_true hlt
          have hwk:IntKind.i64.wrap (((m+1:Nat):Int)+1)=((m+1+1:Nat):Int):=bH
          have hwm:IntKind.i64.wrap (((m+1:Nat):Int)-1)=((m:Nat):Int):=by rw[bH];omega
          have hcs:(((p.kind:Int)==4)=false/\kP l (m+1+1))\/(((p.kind:Int)==4)=true/\((t.kind:Int)==4)=false/\kP l (m+1+1))\/(((p.kind:Int)==4)=true/\((t.kind:Int)==4)=true/\fh l=8):=by
            by_cases c1:p.kind=4
            · by_cases c2:t.kind=4
              · right;right
                exact⟨by rw[c1];rfl,by rw[c2];rfl,uR (xg hp ht c1 c2)⟩
              · right;left
                refine⟨by rw[c1];rfl,beq_false_of_ne (by omega),j9 hadj (fun a b ha hb _ h=>?_)⟩
                rw[ht]at hb;cases hb;exact c2 h.2
            · left
              refine⟨beq_false_of_ne (by omega),j9 hadj (fun a b ha hb _ h=>?_)⟩
              rw[Nat.add_sub_cancel,hp]at ha;cases ha;exact c1 h.1
          rcases hcs with ⟨c1,hg⟩|⟨c1,c2,hg⟩|⟨c1,c2,he⟩
          · repeat' first|simp only[au,ap,zF,am,aC,hat,hpt,bQ,hd1,hlt,hlt0,hwm,c1,Lm,aj,ai,seval]|exact rfl|refine aa (v:=.any) ?_|((first|apply Ca|apply Cb)<;>intro hb)|refine Ai (by omega) ?_|(apply Ai<;>intro hb)
            all_goals ((refine de (m+1+1) [] ?_ ?_ ?_;(focus (refine⟨?_,?_⟩<;>(try simp only[aE,aM,hwk,Lm,aj,ai,aq,seval])<;>(try omega)))))
            all_goals (first|(show l.length-(m+1+1)<l.length-(m+1);omega)|exact⟨by omega,.inl hlt,hg⟩|skip)
          · repeat' first|simp only[au,ap,zF,am,aC,hat,hpt,bQ,hd1,hlt,hlt0,hwm,c1,c2,Lm,aj,ai,seval]|exact rfl|refine aa (v:=.any) ?_|((first|apply Ca|apply Cb)<;>intro hb)|refine Ai (by omega) ?_|(apply Ai<;>intro hb)
            all_goals ((refine de (m+1+1) [] ?_ ?_ ?_;(focus (refine⟨?_,?_⟩<;>(try simp only[aE,aM,hwk,Lm,aj,ai,aq,seval])<;>(try omega)))))
            all_goals (first|(show l.length-(m+1+1)<l.length-(m+1);omega)|exact⟨by omega,.inl hlt,hg⟩|skip)
          · have hj:=g8 he (by omega)
            (repeat' first|simp only[au,ap,zF,am,aC,hat,hpt,bQ,hd1,hlt,hlt0,hwm,c1,c2,he,hj,Lm,aj,ai,seval]|exact rfl|refine aa (v:=.any) ?_|((first|apply Ca|apply Cb)<;>intro hb)|refine Ai (by omega) ?_|(apply Ai<;>intro hb)|apply Fin.pure|simp only[aq])
        · have hd1:decide (k<l.length)=false:=decide_eq_false hlt
          have hadj':jE l=false:=mg.2 (fun i a b hi ha hb=>hadj i a b (by omega) ha hb)
          by_cases h512:512<l.length
          · have he:=kr hno hadj' (.inl h512)
            have hj:=g8 he (by omega)
            have hd2:decide ((512:Int)<(l.length:Int))=true:=dh
            (repeat' first|simp only[au,ap,zF,am,hd1,hd2,he,hj,Lm,aj,ai,seval]|exact rfl|refine aa (v:=.any) ?_|((first|apply Ca|apply Cb)<;>intro hb)|refine Ai (by omega) ?_|(apply Ai<;>intro hb)|apply Fin.pure|simp only[aq])
          · have hd2:decide ((512:Int)<(l.length:Int))=false:=bi
            have htl:=oZ hs (by omega)
            repeat' first|simp only[au,ap,zF,am,hd1,hd2,Lm,aj,ai,seval]|exact rfl|refine aa (v:=.any) ?_|((first|apply Ca|apply Cb)<;>intro hb)|refine Ai (by omega) ?_|(apply Ai<;>intro hb)
            (refine ew (fun x:Nat=>l.length-x) (fun x=>x<=l.length) (b0+16) (fun x=>[(0,.sl false 4 (l.map bQ)),(4,.str (cj (l.take x))),(7,.int .i64 x)]) (fun x=>[]) (0) [] ?_ ?_ ?_;(focus (refine⟨?_,?_⟩<;>(try simp only[aE,aM,Lm,List.take_zero,vw,aj,ai,aq,seval])<;>(try omega))))
            · exact Nat.zero_le _
            · intro j hj
              by_cases hlt3:j<l.length
              · obtain⟨t,ht⟩:=ic hlt3
                have hat:=tr ht
                have hd3:=decide_eq_true hlt3
                have hwj:=eD j
                have hwr:=wS t (hs t (List.mem_of_getElem? ht)).1 (hs t (List.mem_of_getElem? ht)).2
                have hnx:=tw ht
                have b1:=htl j
                have b2:=htl (j+1)
                rw[hnx,List.length_append]at b2
                repeat' first|simp only[au,ap,zF,am,aC,hat,bQ,hd3,hlt3,hnx.symm,Lm,aj,ai,seval]|exact rfl|refine aa (v:=.any) ?_|(first|(refine ah ?_ (hwr _) ?_)|(refine ac ?_ (fun _=>hwr _) ?_))|((first|apply Ca|apply Cb)<;>intro hb)|refine Ai (by omega) ?_|(apply Ai<;>intro hb)
                all_goals ((refine de (j+1) [] ?_ ?_ ?_;(focus (refine⟨?_,?_⟩<;>(try simp only[aE,aM,hwj,hnx.symm,Lm,aj,ai,aq,seval])<;>(try omega)))))
                all_goals (first|(show l.length-(j+1)<l.length-j;omega)|(show j+1<=l.length;omega)|skip)
              · have hje:j=l.length:=by omega
                subst hje
                have hd3:decide (l.length<l.length)=false:=bi
                by_cases hbig:16384<(cj l).length
                · have he:=kr hno hadj' (.inr hbig)
                  have hj:=g8 he (by omega)
                  have hd4:decide ((16384:Int)<((cj l).length:Int))=true:=dh
                  (repeat' first|simp only[au,ap,zF,am,hd3,hd4,he,hj,List.take_length,Lm,aj,ai,seval]|exact rfl|refine aa (v:=.any) ?_|((first|apply Ca|apply Cb)<;>intro hb)|refine Ai (by omega) ?_|(apply Ai<;>intro hb)|apply Fin.pure|simp only[aq])
                · have he:=yB hno hadj' (by omega)
                  have hj:=yC he
                  have hd4:decide ((16384:Int)<((cj l).length:Int))=false:=bi
                  (repeat' first|simp only[au,ap,zF,am,hd3,hd4,he,hj,List.take_length,Lm,aj,ai,seval]|exact rfl|refine aa (v:=.any) ?_|((first|apply Ca|apply Cb)<;>intro hb)|refine Ai (by omega) ?_|(apply Ai<;>intro hb)|apply Fin.pure|simp only[aq])
end Go.Proofs.YtjonibipieofcaaGreatDoor
