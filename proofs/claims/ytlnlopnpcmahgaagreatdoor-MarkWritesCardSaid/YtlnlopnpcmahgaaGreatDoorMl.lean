/-
 Texts joined: XLb,XLr,XEj,XLi,XLk.
-/
import Derived.Test.YtlnlopnpcmahgaaGreatDoorQk
import Derived.Test.YtlnlopnpcmahgaaGreatDoorQf
import Derived.Test.YtlnlopnpcmahgaaGreatDoorQo
import Derived.Test.YtlnlopnpcmahgaaGreatDoorQg
import Derived.Test.YtlnlopnpcmahgaaGreatDoorMa
set_option linter.all false
namespace Go.Proofs.YtlnlopnpcmahgaaGreatDoor
set_option maxRecDepth 100000
set_option maxHeartbeats 32000000
open Go Go.RowKit Vm Go.Lib Tryz
open Vm renaming aH->Ca,aL->Cb
open And renaming intro->Ai
open List renaming length_map->Lm,not_mem_nil->Ln,map_nil->Lo,map_cons->Lc,mem_cons->Lk
open Bool renaming not_false->Bf,not_true->Bt
def Bj (l:List Pr)(hl:l.length<=aS)(hs:∀ a∈l,a.name.length<=aS/\a.value.length<=aS)(nm:Nat):Ev cx 97 nm [.sl false 2 (l.map eh)] am.nil (.bool (dV l)) []:=by
 have hl':=hl
 unfold aS at hl'
 refine aV call97 func97 rfl (by kernel_rfl) rfl ?_;intro b0 hb0;have zF:=Ai results97 ntmps97
 repeat' first|simp only[aj,ag,zF,ap,ai,seval,ah]|exact rfl|refine aa (v:=.any) ?_|refine ao (by decide +kernel) ?_|((first|apply Ca|apply Cb)<;>intro hb)|refine Ai (by omega) ?_|(apply Ai<;>intro hb)
 (refine ay bu (fun x:Nat=>l.length-x) (fun x=>x<=l.length/\fC l x) (b0+16) (fun x=>[(0,.sl false 2 (l.map eh)),(3,.int .i64 x)]) (fun x=>[]) (0) [] ?_ ?_ ?_ ?_;rotate_left 1;(focus (show b0<=_;omega));(focus (refine⟨?_,?_⟩<;>(try simp only[aM,ax,ai,seval,ah,al])<;>(try omega)));rotate_left 1)
 ·exact⟨Nat.zero_le _,fun i a hi=>by omega⟩
 ·rintro k ⟨hk,hn⟩
  by_cases hlt:k<l.length
  ·obtain⟨a,ha⟩:∃ a,l[k]? = some a:=⟨_,List.getElem?_eq_getElem hlt⟩
   obtain⟨hs1,hs2⟩:=hs a (List.mem_of_getElem? ha)
   have hat:=wa ha
   have hd:decide (k<l.length)=true:=decide_eq_true hlt
   have hwk:IntKind.i64.wrap ((k:Int)+1)=((k+1:Nat):Int):=aK
   have hki:(k:Int)<=(l.length:Int):=by omega
   have htk:(l.map eh).take k=(l.take k).map eh:=by rw[List.map_take]
   have hlen:(l.take k).length<=aS:=by rw[List.length_take];omega
   have hf:=mL a.name hs1
   have hh:=Io (l.take k) a.name hlen
   have hc:=fw a.value hs2
   have hok:Fj (l.take k) a=(!((l.take k).any fun b=>a.name==b.name)&&bC a.name&&decide (az a.value=0)):=rfl
   generalize h1:bC a.name=b1 at hf hok
   generalize h2:((l.take k).any fun b=>a.name==b.name)=b2 at hh hok
   have h3:(az a.value != 0) = !decide (az a.value=0):=by
    rw[Bool.eq_iff_iff];simp
   generalize decide (az a.value=0)=b3 at h3 hok
   cases ho:Fj (l.take k) a with
   | false =>
    have hr:=oa ha ho
    rw[ho]at hok
    cases b1<;>cases b2<;>cases b3
    all_goals (try (exfalso;simp at hok;done))
    all_goals ((repeat' first|simp only[aj,ag,zF,ap,hat,eh,hd,hlt,hk,hki,htk,h3,hr,Bt,Bf,Lm,ai,seval,ah]|exact rfl|refine aa (v:=.any) ?_|(first|(refine ac ?_ (hf _) ?_)|(refine ab ?_ (fun _=>hf _) ?_)|(refine ac ?_ (hh _) ?_)|(refine ab ?_ (fun _=>hh _) ?_)|(refine ac ?_ (hc _) ?_)|(refine ab ?_ (fun _=>hc _) ?_))|(refine aa (v:=.any) ?_)|refine ao (by decide +kernel) ?_|((first|apply Ca|apply Cb)<;>intro hb)|refine Ai (by omega) ?_|(apply Ai<;>intro hb)|refine Fin.pure ?_ ?_ ?_|simp only[al]))
   | true =>
    have hn':=lS hn ha ho
    rw[ho]at hok
    cases b1<;>cases b2<;>cases b3
    all_goals (try (exfalso;simp at hok;done))
    all_goals (repeat' first|simp only[aj,ag,zF,ap,hat,eh,hd,hlt,hk,hki,htk,h3,hwk,Bt,Bf,Lm,ai,seval,ah]|exact rfl|refine aa (v:=.any) ?_|(first|(refine ac ?_ (hf _) ?_)|(refine ab ?_ (fun _=>hf _) ?_)|(refine ac ?_ (hh _) ?_)|(refine ab ?_ (fun _=>hh _) ?_)|(refine ac ?_ (hc _) ?_)|(refine ab ?_ (fun _=>hc _) ?_))|refine ao (by decide +kernel) ?_|((first|apply Ca|apply Cb)<;>intro hb)|refine Ai (by omega) ?_|(apply Ai<;>intro hb))
    all_goals ((refine au bu (k+1) [] ?_ ?_ ?_ ?_;rotate_left 2;(focus (show b0<=_;omega));(focus (refine⟨?_,?_⟩<;>(try simp only[aM,ax,hwk,ai,seval,ah,al])<;>(try omega)))))
    all_goals (first|(show l.length-(k+1)<l.length-k;omega)|exact⟨hlt,hn'⟩|skip)
  ·have hke:k=l.length:=by omega
   subst hke
   have hd:decide (l.length<l.length)=false:=aR
   have hr:dV l=decide (l.length<=16):=by
    rw[Bool.eq_iff_iff,dO,decide_eq_true_eq]
    exact⟨fun h=>h.1,fun h=>⟨h,hn⟩⟩
   have hz:decide ((l.length:Int)<=16)=decide (l.length<=16):=by
    rw[Bool.eq_iff_iff,decide_eq_true_eq,decide_eq_true_eq];omega
   (repeat' first|simp only[aj,ag,zF,ap,hd,hr,hz,Lm,ai,seval,ah]|exact rfl|refine aa (v:=.any) ?_|refine ao (by decide +kernel) ?_|((first|apply Ca|apply Cb)<;>intro hb)|refine Ai (by omega) ?_|(apply Ai<;>intro hb)|refine Fin.pure ?_ ?_ ?_|simp only[al])
def Eb (t:Tk)(h:t.okTo aS)(nm:Nat):Ev cx 55 nm [.agg (bv t)] am.nil (.bool (dN t)) []:=by
 obtain⟨hl,hnl,htl,hal⟩:=h
 have hee:((t.attrs.length:Int)==0)=t.attrs.isEmpty:=j5 _
 have hne:=eJ t.name
 have hxe:=eJ t.text
 have hxb:(t.text != []) = !t.text.isEmpty:=congrArg not hxe
 have hz:decide (az t.text=0)=(az t.text==0):=by rw[Bool.eq_iff_iff];simp
 have hfull:=mL t.name hnl
 have hchk:=fw t.text htl
 have hat:=Bj t.attrs hl hal
 have hk:dN t=(if t.kind=1\/t.kind=3 then bC t.name&&dV t.attrs&&t.text.isEmpty
  else if t.kind=2 then bC t.name&&t.attrs.isEmpty&&t.text.isEmpty
  else if t.kind=4 then t.name.isEmpty&&t.attrs.isEmpty && !t.text.isEmpty&&(az t.text==0)
  else false):=by rw[<- hz];rfl
 generalize he:t.attrs.isEmpty=e at hk hee
 generalize hn:t.name.isEmpty=n at hk hne
 generalize hx:t.text.isEmpty=x at hk hxe hxb
 generalize hf:bC t.name=f at hk hfull
 generalize hg:dV t.attrs=g at hk hat
 generalize hy:(az t.text==0)=z at hk
 rw[hk]
 rcases gz t.kind with ⟨q1,q3,q2,q4,hkd⟩|⟨q1,q3,q2,q4,hkd⟩|⟨q1,q3,q2,q4,hkd⟩|⟨q1,q3,q2,q4,hkd⟩|⟨q1,q3,q2,q4,hk1,hk3,hk2,hk4⟩
 ·rw[if_pos (.inl hkd)]
  cases f<;>cases g<;>(
   refine aV call55 func55 rfl (by kernel_rfl) rfl ?_;intro b0 hb0
   (repeat' first|simp only[aj,ag,results55,ntmps55,ap,ax,bv,hxe,q1,q2,q3,q4,ai,seval,ah]|exact rfl|refine aa (v:=.any) ?_|(first|(refine ac ?_ (hfull _) ?_)|(refine ab ?_ (fun _=>hfull _) ?_)|(refine ac ?_ (hat _) ?_)|(refine ab ?_ (fun _=>hat _) ?_))|(refine aa (v:=.any) ?_)|((first|apply Ca|apply Cb)<;>intro hb)|refine Ai (by omega) ?_|(apply Ai<;>intro hb)|refine Fin.pure ?_ ?_ ?_|simp only[al]))
 ·rw[if_pos (.inr hkd)]
  cases f<;>cases g<;>(
   refine aV call55 func55 rfl (by kernel_rfl) rfl ?_;intro b0 hb0
   (repeat' first|simp only[aj,ag,results55,ntmps55,ap,ax,bv,hxe,q1,q2,q3,q4,ai,seval,ah]|exact rfl|refine aa (v:=.any) ?_|(first|(refine ac ?_ (hfull _) ?_)|(refine ab ?_ (fun _=>hfull _) ?_)|(refine ac ?_ (hat _) ?_)|(refine ab ?_ (fun _=>hat _) ?_))|(refine aa (v:=.any) ?_)|((first|apply Ca|apply Cb)<;>intro hb)|refine Ai (by omega) ?_|(apply Ai<;>intro hb)|refine Fin.pure ?_ ?_ ?_|simp only[al]))
 ·rw[if_neg (by omega),if_pos hkd]
  cases f<;>cases e<;>(
   refine aV call55 func55 rfl (by kernel_rfl) rfl ?_;intro b0 hb0
   (repeat' first|simp only[aj,ag,results55,ntmps55,ap,ax,bv,hxe,hee,Lm,q1,q2,q3,q4,ai,seval,ah]|exact rfl|refine aa (v:=.any) ?_|(first|(refine ac ?_ (hfull _) ?_)|(refine ab ?_ (fun _=>hfull _) ?_))|(refine aa (v:=.any) ?_)|((first|apply Ca|apply Cb)<;>intro hb)|refine Ai (by omega) ?_|(apply Ai<;>intro hb)|refine Fin.pure ?_ ?_ ?_|simp only[al]))
 ·rw[if_neg (by omega),if_neg (by omega),if_pos hkd]
  cases n<;>cases e<;>cases x<;>cases z<;>(
   refine aV call55 func55 rfl (by kernel_rfl) rfl ?_;intro b0 hb0
   (repeat' first|simp only[aj,ag,results55,ntmps55,ap,ax,bv,hxe,hxb,hne,hee,hy,Lm,q1,q2,q3,q4,ai,seval,ah]|exact rfl|refine aa (v:=.any) ?_|(first|(refine ac ?_ (hchk _) ?_)|(refine ab ?_ (fun _=>hchk _) ?_))|(refine aa (v:=.any) ?_)|((first|apply Ca|apply Cb)<;>intro hb)|refine Ai (by omega) ?_|(apply Ai<;>intro hb)|refine Fin.pure ?_ ?_ ?_|simp only[al]))
 ·rw[if_neg (by omega),if_neg hk2,if_neg hk4]
  refine aV call55 func55 rfl (by kernel_rfl) rfl ?_;intro b0 hb0
  (repeat' first|simp only[aj,ag,results55,ntmps55,ap,ax,bv,q1,q2,q3,q4,ai,seval,ah]|exact rfl|refine aa (v:=.any) ?_|((first|apply Ca|apply Cb)<;>intro hb)|refine Ai (by omega) ?_|(apply Ai<;>intro hb)|refine Fin.pure ?_ ?_ ?_|simp only[al])
def we (c:UInt8)(q:Bool)(nm:Nat):Ev cx 143 nm [.int .u8 c.toNat,.bool q] am.nil (.str (jO q c)) []:=by
 have h1:((c.toNat:Int)==38)=decide (c=38):=cP c 38
 have h2:((c.toNat:Int)==60)=decide (c=60):=cP c 60
 have h3:((c.toNat:Int)==62)=decide (c=62):=cP c 62
 have h4:((c.toNat:Int)==13)=decide (c=13):=cP c 13
 have h5:((c.toNat:Int)==34)=decide (c=34):=cP c 34
 have h6:((c.toNat:Int)==9)=decide (c=9):=cP c 9
 have h7:((c.toNat:Int)==10)=decide (c=10):=cP c 10
 refine aV call143 func143 rfl (by kernel_rfl) rfl ?_;intro b0 hb0;have zF:=Ai results143 ntmps143
 (repeat' first|simp only[aj,ag,zF,ap,h1,h2,h3,h4,h5,h6,h7,ai,seval,ah]|exact rfl|refine aa (v:=.any) ?_|(refine fh (v:=?_) (bs:=[c]) ?_ ?_ ?_ ?_ ?_ ?_ ?_;rotate_left 1;(iterate 2 (focus (simp only[zF,ap,h1,h2,h3,h4,h5,h6,h7,ai,seval,ah];done)));(focus (simp only[zF,ap,h1,h2,h3,h4,h5,h6,h7,ai,seval,ah]<;>exact rfl));(focus (exact rfl));(focus (simp only[ag,zF,ap,h1,h2,h3,h4,h5,h6,h7,ai,seval,ah];done));(focus (simp only[zF,ap,h1,h2,h3,h4,h5,h6,h7,ai,seval,ah]<;>exact rfl)))|(refine bf ?_)|(refine aW ?_)|((first|apply Ca|apply Cb)<;>intro hb)|refine Ai (by omega) ?_|(apply Ai<;>intro hb)|refine Fin.pure ?_ ?_ ?_|simp only[al])
 all_goals (simp only[decide_eq_true_eq,decide_eq_false_iff_not]at *;simp[jO, *])
def kc (s:List UInt8)(q:Bool)(hs:s.length<=1000000)(nm:Nat):Ev cx 98 nm [.str s,.bool q] am.nil (.str (bo q s)) []:=by
 have hw:=bm q s
 refine aV call98 func98 rfl (by kernel_rfl) rfl ?_;intro b0 hb0;have zF:=Ai results98 ntmps98
 repeat' first|simp only[aj,ag,zF,ap,ai,seval,ah]|exact rfl|refine aa (v:=.any) ?_|((first|apply Ca|apply Cb)<;>intro hb)|refine Ai (by omega) ?_|(apply Ai<;>intro hb)
 (refine ay bu (fun x:Nat=>s.length-x) (fun x=>x<=s.length) (b0+16) (fun x=>[(0,.str s),(1,.bool q),(5,.own b0 0 (bo q (s.take x)).length),(6,.int .i64 x)]) (fun x=>[(b0,@Blk.mk 1 ((bo q (s.take x)).map aE) (.typed 5))]) (0) [none] ?_ ?_ ?_ ?_;rotate_left 1;(focus (show b0<=_;omega));(focus (refine⟨?_,?_⟩<;>(try simp only[aM,vQ,List.take_zero,pW,Lo,List.length_nil,ai,seval,ah,al])<;>(try omega)));rotate_left 1)
 ·exact Nat.zero_le _
 ·intro k hk
  by_cases hlt:k<s.length
  ·obtain⟨c,hc⟩:∃ c,s[k]? = some c:=⟨_,List.getElem?_eq_getElem hlt⟩
   have hd:decide (k<s.length)=true:=decide_eq_true hlt
   have hwk:IntKind.i64.wrap ((k:Int)+1)=((k+1:Nat):Int):=aK
   have hnx:=sj q hc
   have hw1:=bm q (s.take k)
   have hw2:=gP q c
   have hw3:(s.take k).length=k:=by rw[List.length_take];omega
   have hmp:(bo q (s.take k)).map aE++(jO q c).map aE=(bo q (s.take (k+1))).map aE:=by rw[hnx,List.map_append]
   have hnl:(bo q (s.take k)).length+(jO q c).length=(bo q (s.take (k+1))).length:=by rw[hnx,List.length_append]
   repeat' first|simp only[aj,ag,zF,ap,hc,hd,hlt,hwk,Option.bind_some,LF,if_true,na,GQ,Lm,List.take_of_length_le,Nat.le_refl,hmp,ai,seval,ah]|exact rfl|refine aa (v:=.any) ?_|(first|(refine ac ?_ (we c q _) ?_)|(refine ab ?_ (fun _=>we c q _) ?_))|((first|apply Ca|apply Cb)<;>intro hb)|refine Ai (by omega) ?_|(apply Ai<;>intro hb)
   ((refine au bu (k+1) [some (b0+176)] ?_ ?_ ?_ ?_;rotate_left 2;(focus (show b0<=_;omega));(focus (refine⟨?_,?_⟩<;>(try simp only[aM,yl,uq,hwk,hnl,Option.bind_some,LF,if_true,na,ai,seval,ah,al])<;>(try omega)))))
   all_goals (first|(show s.length-(k+1)<s.length-k;omega)|(show k+1<=s.length;omega)|skip)
  ·have hke:k=s.length:=by omega
   subst hke
   have hd:decide (s.length<s.length)=false:=aR
   (repeat' first|simp only[aj,ag,zF,ap,hd,List.take_length,Lm,List.take_of_length_le,Nat.le_refl,ai,seval,ah]|exact rfl|refine aa (v:=.any) ?_|(refine fh (v:=?_) (bs:=bo q s) ?_ ?_ ?_ ?_ ?_ ?_ ?_;rotate_left 1;(iterate 2 (focus (simp only[zF,ap,hd,List.take_length,Lm,List.take_of_length_le,Nat.le_refl,ai,seval,ah];done)));(focus (simp only[zF,ap,hd,List.take_length,Lm,List.take_of_length_le,Nat.le_refl,ai,seval,ah]<;>exact rfl));(focus (exact rfl));(focus (simp only[ag,zF,ap,hd,List.take_length,Lm,List.take_of_length_le,Nat.le_refl,ai,seval,ah];done));(focus (simp only[zF,ap,hd,List.take_length,Lm,List.take_of_length_le,Nat.le_refl,ai,seval,ah]<;>exact rfl)))|(refine bf ?_)|(refine aW ?_)|((first|apply Ca|apply Cb)<;>intro hb)|refine Ai (by omega) ?_|(apply Ai<;>intro hb)|refine Fin.pure ?_ ?_ ?_|simp only[al])
def qF (t:Tk)(h:t.okTo 1000000)(h30:t.attrs.length<=30)(k3:Bool)(q2:((t.kind:Int)==2)=false)(q4:((t.kind:Int)==4)=false)(q3:((t.kind:Int)==3)=k3)(nm:Nat):Ev cx 56 nm [.agg (bv t)] am.nil (.str (if k3 then kU t t.attrs.length++[47,62] else kU t t.attrs.length++[62])) []:=by
 have hwl:=fun k=>ri t k h h30
 obtain⟨hl,hnl,htl,hal⟩:=h
 have hw0:=rj t
 refine aV call56 func56 rfl (by kernel_rfl) rfl ?_;intro b0 hb0;have zF:=Ai results56 ntmps56
 repeat' first|simp only[aj,ag,zF,ap,bv,q2,q4,ai,seval,ah]|exact rfl|refine aa (v:=.any) ?_|refine aq (ps:=[(2,15),(4,15),(6,15)]) (by decide +kernel) (by simp only[List.forall_mem_cons,List.getD_cons_zero,List.getD_cons_succ,zF,ap,bv,q2,q4,ai,seval,ah]<;>(try simp)<;>(try omega)) ?_|refine ao (by decide +kernel) ?_|((first|apply Ca|apply Cb)<;>intro hb)|refine Ai (by omega) ?_|(apply Ai<;>intro hb)
 (refine ay bu (fun x:Nat=>t.attrs.length-x) (fun x=>x<=t.attrs.length) (b0+16) (fun x=>[(1,.ptr b0 0 0),(3,.str (kU t x)),(4,.int .i64 x)]) (fun x=>[(b0,⟨4,[bv t]⟩)]) (0) [some b0] ?_ ?_ ?_ ?_;rotate_left 1;(focus (show b0<=_;omega));(focus (refine⟨?_,?_⟩<;>(try simp only[aM,ax,gn,bv,hw0,Lm,ai,seval,ah,al])<;>(try omega)));rotate_left 1)
 ·exact Nat.zero_le _
 ·intro k hk
  by_cases hlt:k<t.attrs.length
  ·obtain⟨a,ha⟩:∃ a,t.attrs[k]? = some a:=⟨_,List.getElem?_eq_getElem hlt⟩
   obtain⟨hs1,hs2⟩:=hal a (List.mem_of_getElem? ha)
   have hat0:=wa ha
   have hd:decide (k<t.attrs.length)=true:=decide_eq_true hlt
   have hwk:IntKind.i64.wrap ((k:Int)+1)=((k+1:Nat):Int):=aK
   have hpv:=kc a.value true hs2
   have hnx:=wJ ha
   have hz:=hwl k
   have hew:=bm true a.value
   have l1:(a.name++[61,34]).length=a.name.length+2:=by simp
   have l2:(a.name++[61,34]++bo true a.value).length=a.name.length+2+(bo true a.value).length:=by simp;omega
   have l3:(a.name++[61,34]++bo true a.value++[34]).length=a.name.length+3+(bo true a.value).length:=by simp;omega
   repeat' first|simp only[aj,ag,zF,ap,ax,bv,hat0,eh,hd,hlt,hnx,l1,l2,l3,Lm,ai,seval,ah]|exact rfl|refine aa (v:=.any) ?_|(first|(refine ac ?_ (hpv _) ?_)|(refine ab ?_ (fun _=>hpv _) ?_))|refine aq (ps:=[(2,15),(4,15),(6,15)]) (by decide +kernel) (by simp only[List.forall_mem_cons,List.getD_cons_zero,List.getD_cons_succ,zF,ap,ax,bv,hat0,eh,hd,hlt,hnx,l1,l2,l3,Lm,ai,seval,ah]<;>(try simp)<;>(try omega)) ?_|refine ao (by decide +kernel) ?_|((first|apply Ca|apply Cb)<;>intro hb)|refine Ai (by omega) ?_|(apply Ai<;>intro hb)
   all_goals ((refine au bu (k+1) [some b0] ?_ ?_ ?_ ?_;rotate_left 2;(focus (show b0<=_;omega));(focus (refine⟨?_,?_⟩<;>(try simp only[aM,ax,gn,bv,hwk,hnx,Lm,ai,seval,ah,al])<;>(try omega)))))
   all_goals (first|(show t.attrs.length-(k+1)<t.attrs.length-k;omega)|(show k+1<=t.attrs.length;omega)|skip)
  ·have hke:k=t.attrs.length:=by omega
   subst hke
   have hd:decide (t.attrs.length<t.attrs.length)=false:=aR
   have hz:=hwl t.attrs.length
   cases k3<;>((repeat' first|simp only[aj,ag,zF,ap,ax,bv,hd,q3,Lm,ai,seval,ah]|exact rfl|refine aa (v:=.any) ?_|refine aq (ps:=[(2,15),(4,15),(6,15)]) (by decide +kernel) (by simp only[List.forall_mem_cons,List.getD_cons_zero,List.getD_cons_succ,zF,ap,ax,bv,hd,q3,Lm,ai,seval,ah]<;>(try simp)<;>(try omega)) ?_|refine ao (by decide +kernel) ?_|((first|apply Ca|apply Cb)<;>intro hb)|refine Ai (by omega) ?_|(apply Ai<;>intro hb)|refine Fin.pure ?_ ?_ ?_|simp only[al]))
def uo (t:Tk)(h:t.okTo 1000000)(h30:t.attrs.length<=30)(nm:Nat):Ev cx 56 nm [.agg (bv t)] am.nil (.str (c9 t)) []:=by
 rcases gz t.kind with ⟨q1,q3,q2,q4,hkd⟩|⟨q1,q3,q2,q4,hkd⟩|⟨q1,q3,q2,q4,hkd⟩|⟨q1,q3,q2,q4,hkd⟩|⟨q1,q3,q2,q4,hk1,hk3,hk2,hk4⟩
 ·have hw:c9 t=kU t t.attrs.length++[62]:=by unfold c9;rw[if_neg (by omega),if_neg (by omega),if_neg (by omega),mU]
  rw[hw]
  exact qF t h h30 false q2 q4 q3 nm
 ·have hw:c9 t=kU t t.attrs.length++[47,62]:=by unfold c9;rw[if_neg (by omega),if_neg (by omega),if_pos hkd,mU]
  rw[hw]
  exact qF t h h30 true q2 q4 q3 nm
 ·obtain⟨hl,hnl,htl,hal⟩:=h
  have hw:c9 t=60::47::(t.name++[62]):=by unfold c9;rw[if_neg (by omega),if_pos hkd];simp
  rw[hw]
  refine aV call56 func56 rfl (by kernel_rfl) rfl ?_;intro b0 hb0
  (repeat' first|simp only[aj,ag,results56,ntmps56,ap,ax,bv,q1,q2,q3,q4,ai,seval,ah]|exact rfl|refine aa (v:=.any) ?_|refine aq (ps:=[(2,15),(4,15),(6,15)]) (by decide +kernel) (by simp only[List.forall_mem_cons,List.getD_cons_zero,List.getD_cons_succ,results56,ntmps56,ap,ax,bv,q1,q2,q3,q4,ai,seval,ah]<;>(try simp)<;>(try omega)) ?_|refine ao (by decide +kernel) ?_|((first|apply Ca|apply Cb)<;>intro hb)|refine Ai (by omega) ?_|(apply Ai<;>intro hb)|refine Fin.pure ?_ ?_ ?_|simp only[al])
 ·obtain⟨hl,hnl,htl,hal⟩:=h
  have hw:c9 t=bo false t.text:=by unfold c9;rw[if_pos hkd]
  rw[hw]
  refine aV call56 func56 rfl (by kernel_rfl) rfl ?_;intro b0 hb0
  (repeat' first|simp only[aj,ag,results56,ntmps56,ap,ax,bv,q1,q2,q3,q4,ai,seval,ah]|exact rfl|refine aa (v:=.any) ?_|(first|(refine ac ?_ (kc t.text false htl _) ?_)|(refine ab ?_ (fun _=>kc t.text false htl _) ?_))|refine aq (ps:=[(2,15),(4,15),(6,15)]) (by decide +kernel) (by simp only[List.forall_mem_cons,List.getD_cons_zero,List.getD_cons_succ,results56,ntmps56,ap,ax,bv,q1,q2,q3,q4,ai,seval,ah]<;>(try simp)<;>(try omega)) ?_|refine ao (by decide +kernel) ?_|((first|apply Ca|apply Cb)<;>intro hb)|refine Ai (by omega) ?_|(apply Ai<;>intro hb)|refine Fin.pure ?_ ?_ ?_|simp only[al])
 ·have hw:c9 t=kU t t.attrs.length++[62]:=by unfold c9;rw[if_neg hk4,if_neg hk2,if_neg hk3,mU]
  rw[hw]
  exact qF t h h30 false q2 q4 q3 nm
def D7 (l:List Tk)(hl:l.length<=600)(hs:∀ t∈l,t.okTo 1000000/\t.attrs.length<=30)(nm:Nat):Ev cx 30 nm [.sl false 4 (l.map bv)] am.nil (.tup [.str (jY l),.int .i64 (ed l)]) []:=by
  have hlim:∀ t∈l,t.okTo aS:=fun t ht=>by
    obtain⟨⟨h1,h2,h3,h4⟩,_⟩:=hs t ht
    unfold aS
    exact⟨by omega,by omega,by omega,fun a ha=>by have:=h4 a ha;omega⟩
  refine aV call30 func30 rfl (by kernel_rfl) rfl ?_;intro b0 hb0;have zF:=Ai results30 ntmps30
  repeat' first|simp only[aj,ag,zF,ap,ai,seval,ah]|exact rfl|refine aa (v:=.any) ?_|((first|apply Ca|apply Cb)<;>intro hb)|refine Ai (by omega) ?_|(apply Ai<;>intro hb)
  (refine ay bu (fun x:Nat=>l.length-x) (fun x=>x<=l.length/\((l.take x).any fun t=>!dN t)=false) (b0+16) (fun x=>[(0,.sl false 4 (l.map bv)),(4,.str []),(5,.int .i64 x)]) (fun x=>[]) (0) [] ?_ ?_ ?_ ?_;rotate_left 1;(focus (show b0<=_;omega));(focus (refine⟨?_,?_⟩<;>(try simp only[aM,aF,Lm,ai,seval,ah,al])<;>(try omega)));rotate_left 1)
  · exact⟨Nat.zero_le _,by simp⟩
  · rintro k ⟨hk,hno⟩
    by_cases hlt:k<l.length
    · obtain⟨t,ht⟩:∃ t,l[k]? = some t:=⟨_,List.getElem?_eq_getElem hlt⟩
      have hat:=qV ht
      have hd:decide (k<l.length)=true:=decide_eq_true hlt
      have hwk:IntKind.i64.wrap ((k:Int)+1)=((k+1:Nat):Int):=aK
      have hmy:=Eb t (hlim t (List.mem_of_getElem? ht))
      cases hp:dN t with
      | false =>
        rw[hp]at hmy
        have he:=sy (Cg (p:=fun t=>!dN t) ht (by simp[hp]))
        have hj:=fQ he (by omega)
        (repeat' first|simp only[aj,ag,zF,ap,ax,hat,bv,hd,hlt,he,hj,Bf,Lm,ai,seval,ah]|exact rfl|refine aa (v:=.any) ?_|(first|(refine ac ?_ (hmy _) ?_)|(refine ab ?_ (fun _=>hmy _) ?_))|((first|apply Ca|apply Cb)<;>intro hb)|refine Ai (by omega) ?_|(apply Ai<;>intro hb)|refine Fin.pure ?_ ?_ ?_|simp only[al])
      | true =>
        rw[hp]at hmy
        have hno':=dH (p:=fun t=>!dN t) hno ht (by simp[hp])
        repeat' first|simp only[aj,ag,zF,ap,ax,hat,bv,hd,hlt,Bt,Lm,ai,seval,ah]|exact rfl|refine aa (v:=.any) ?_|(first|(refine ac ?_ (hmy _) ?_)|(refine ab ?_ (fun _=>hmy _) ?_))|((first|apply Ca|apply Cb)<;>intro hb)|refine Ai (by omega) ?_|(apply Ai<;>intro hb)
        all_goals ((refine au bu (k+1) [] ?_ ?_ ?_ ?_;rotate_left 2;(focus (show b0<=_;omega));(focus (refine⟨?_,?_⟩<;>(try simp only[aM,aF,hwk,Lm,ai,seval,ah,al])<;>(try omega)))))
        all_goals (first|(show l.length-(k+1)<l.length-k;omega)|exact⟨hlt,hno'⟩|skip)
    · have hke:k=l.length:=by omega
      subst hke
      rw[List.take_length]at hno
      have hd:decide (l.length<l.length)=false:=aR
      repeat' first|simp only[aj,ag,zF,ap,hd,Lm,ai,seval,ah]|exact rfl|refine aa (v:=.any) ?_|((first|apply Ca|apply Cb)<;>intro hb)|refine Ai (by omega) ?_|(apply Ai<;>intro hb)
      (refine ay bu (fun x:Nat=>l.length-x) (fun x=>1<=x/\(x<=l.length\/x=1)/\ji l x) (b0+16) (fun x=>[(0,.sl false 4 (l.map bv)),(4,.str []),(6,.int .i64 x)]) (fun x=>[]) (1) [] ?_ ?_ ?_ ?_;rotate_left 1;(focus (show b0<=_;omega));(focus (refine⟨?_,?_⟩<;>(try simp only[aM,aF,Lm,ai,seval,ah,al])<;>(try omega)));rotate_left 1)
      · exact⟨Nat.le_refl _,.inr rfl,fun i a b hi=>by omega⟩
      · rintro k ⟨hk1,hk2,hadj⟩
        by_cases hlt:k<l.length
        · obtain⟨m,rfl⟩:∃ m,k=m+1:=⟨k-1,by omega⟩
          obtain⟨t,ht⟩:∃ t,l[m+1]? = some t:=⟨_,List.getElem?_eq_getElem hlt⟩
          have hlt0:m<l.length:=by omega
          obtain⟨p,hp⟩:∃ p,l[m]? = some p:=⟨_,List.getElem?_eq_getElem hlt0⟩
          have hat:=qV ht
          have hpt:=qV hp
          have hd1:decide (m+1<l.length)=true:=decide_eq_true hlt
          have hwk:IntKind.i64.wrap (((m+1:Nat):Int)+1)=((m+1+1:Nat):Int):=aK
          have hwm:IntKind.i64.wrap (((m+1:Nat):Int)-1)=((m:Nat):Int):=by rw[aK];omega
          have hcs:(((p.kind:Int)==4)=false/\ji l (m+1+1))\/(((p.kind:Int)==4)=true/\((t.kind:Int)==4)=false/\ji l (m+1+1))\/(((p.kind:Int)==4)=true/\((t.kind:Int)==4)=true/\ed l=8):=by
            by_cases c1:p.kind=4
            · by_cases c2:t.kind=4
              · right;right
                exact⟨by rw[c1];rfl,by rw[c2];rfl,sw (uI hp ht c1 c2)⟩
              · right;left
                refine⟨by rw[c1];rfl,beq_false_of_ne (by omega),iF hadj (fun a b ha hb _ h=>?_)⟩
                rw[ht]at hb;cases hb;exact c2 h.2
            · left
              refine⟨beq_false_of_ne (by omega),iF hadj (fun a b ha hb _ h=>?_)⟩
              rw[Nat.add_sub_cancel,hp]at ha;cases ha;exact c1 h.1
          rcases hcs with ⟨c1,hg⟩|⟨c1,c2,hg⟩|⟨c1,c2,he⟩
          · repeat' first|simp only[aj,ag,zF,ap,ax,hat,hpt,bv,hd1,hlt,hlt0,hwm,c1,Lm,ai,seval,ah]|exact rfl|refine aa (v:=.any) ?_|((first|apply Ca|apply Cb)<;>intro hb)|refine Ai (by omega) ?_|(apply Ai<;>intro hb)
            all_goals ((refine au bu (m+1+1) [] ?_ ?_ ?_ ?_;rotate_left 2;(focus (show b0<=_;omega));(focus (refine⟨?_,?_⟩<;>(try simp only[aM,aF,hwk,Lm,ai,seval,ah,al])<;>(try omega)))))
            all_goals (first|(show l.length-(m+1+1)<l.length-(m+1);omega)|exact⟨by omega,.inl hlt,hg⟩|skip)
          · repeat' first|simp only[aj,ag,zF,ap,ax,hat,hpt,bv,hd1,hlt,hlt0,hwm,c1,c2,Lm,ai,seval,ah]|exact rfl|refine aa (v:=.any) ?_|((first|apply Ca|apply Cb)<;>intro hb)|refine Ai (by omega) ?_|(apply Ai<;>intro hb)
            all_goals ((refine au bu (m+1+1) [] ?_ ?_ ?_ ?_;rotate_left 2;(focus (show b0<=_;omega));(focus (refine⟨?_,?_⟩<;>(try simp only[aM,aF,hwk,Lm,ai,seval,ah,al])<;>(try omega)))))
            all_goals (first|(show l.length-(m+1+1)<l.length-(m+1);omega)|exact⟨by omega,.inl hlt,hg⟩|skip)
          · have hj:=fQ he (by omega)
            (repeat' first|simp only[aj,ag,zF,ap,ax,hat,hpt,bv,hd1,hlt,hlt0,hwm,c1,c2,he,hj,Lm,ai,seval,ah]|exact rfl|refine aa (v:=.any) ?_|((first|apply Ca|apply Cb)<;>intro hb)|refine Ai (by omega) ?_|(apply Ai<;>intro hb)|refine Fin.pure ?_ ?_ ?_|simp only[al])
        · have hd1:decide (k<l.length)=false:=decide_eq_false hlt
          have hadj':ia l=false:=kw.2 (fun i a b hi ha hb=>hadj i a b (by omega) ha hb)
          by_cases h512:512<l.length
          · have he:=iQ hno hadj' (.inl h512)
            have hj:=fQ he (by omega)
            have hd2:decide ((512:Int)<(l.length:Int))=true:=cn
            (repeat' first|simp only[aj,ag,zF,ap,hd1,hd2,he,hj,Lm,ai,seval,ah]|exact rfl|refine aa (v:=.any) ?_|((first|apply Ca|apply Cb)<;>intro hb)|refine Ai (by omega) ?_|(apply Ai<;>intro hb)|refine Fin.pure ?_ ?_ ?_|simp only[al])
          · have hd2:decide ((512:Int)<(l.length:Int))=false:=aR
            have htl:=mR hs (by omega)
            repeat' first|simp only[aj,ag,zF,ap,hd1,hd2,Lm,ai,seval,ah]|exact rfl|refine aa (v:=.any) ?_|((first|apply Ca|apply Cb)<;>intro hb)|refine Ai (by omega) ?_|(apply Ai<;>intro hb)
            (refine ay bu (fun x:Nat=>l.length-x) (fun x=>x<=l.length) (b0+16) (fun x=>[(0,.sl false 4 (l.map bv)),(4,.str (bI (l.take x))),(7,.int .i64 x)]) (fun x=>[]) (0) [] ?_ ?_ ?_ ?_;rotate_left 1;(focus (show b0<=_;omega));(focus (refine⟨?_,?_⟩<;>(try simp only[aM,aF,Lm,List.take_zero,s6,ai,seval,ah,al])<;>(try omega)));rotate_left 1)
            · exact Nat.zero_le _
            · intro j hj
              by_cases hlt3:j<l.length
              · obtain⟨t,ht⟩:∃ t,l[j]? = some t:=⟨_,List.getElem?_eq_getElem hlt3⟩
                have hat:=qV ht
                have hd3:decide (j<l.length)=true:=decide_eq_true hlt3
                have hwj:IntKind.i64.wrap ((j:Int)+1)=((j+1:Nat):Int):=aK
                have hwr:=uo t (hs t (List.mem_of_getElem? ht)).1 (hs t (List.mem_of_getElem? ht)).2
                have hnx:=qY ht
                have b1:=htl j
                have b2:=htl (j+1)
                rw[hnx,List.length_append]at b2
                repeat' first|simp only[aj,ag,zF,ap,ax,hat,bv,hd3,hlt3,hnx.symm,Lm,ai,seval,ah]|exact rfl|refine aa (v:=.any) ?_|(first|(refine ac ?_ (hwr _) ?_)|(refine ab ?_ (fun _=>hwr _) ?_))|((first|apply Ca|apply Cb)<;>intro hb)|refine Ai (by omega) ?_|(apply Ai<;>intro hb)
                all_goals ((refine au bu (j+1) [] ?_ ?_ ?_ ?_;rotate_left 2;(focus (show b0<=_;omega));(focus (refine⟨?_,?_⟩<;>(try simp only[aM,aF,hwj,hnx.symm,Lm,ai,seval,ah,al])<;>(try omega)))))
                all_goals (first|(show l.length-(j+1)<l.length-j;omega)|(show j+1<=l.length;omega)|skip)
              · have hje:j=l.length:=by omega
                subst hje
                have hd3:decide (l.length<l.length)=false:=aR
                by_cases hbig:16384<(bI l).length
                · have he:=iQ hno hadj' (.inr hbig)
                  have hj:=fQ he (by omega)
                  have hd4:decide ((16384:Int)<((bI l).length:Int))=true:=cn
                  (repeat' first|simp only[aj,ag,zF,ap,hd3,hd4,he,hj,List.take_length,Lm,ai,seval,ah]|exact rfl|refine aa (v:=.any) ?_|((first|apply Ca|apply Cb)<;>intro hb)|refine Ai (by omega) ?_|(apply Ai<;>intro hb)|refine Fin.pure ?_ ?_ ?_|simp only[al])
                · have he:=vS hno hadj' (by omega)
                  have hj:=vT he
                  have hd4:decide ((16384:Int)<((bI l).length:Int))=false:=aR
                  (repeat' first|simp only[aj,ag,zF,ap,hd3,hd4,he,hj,List.take_length,Lm,ai,seval,ah]|exact rfl|refine aa (v:=.any) ?_|((first|apply Ca|apply Cb)<;>intro hb)|refine Ai (by omega) ?_|(apply Ai<;>intro hb)|refine Fin.pure ?_ ?_ ?_|simp only[al])
end Go.Proofs.YtlnlopnpcmahgaaGreatDoor
