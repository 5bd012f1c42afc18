/-
 Texts joined: XAf.
-/
import Derived.Test.YtjonibipieofcaaGreatDoorMt
set_option maxHeartbeats 16000000
set_option maxRecDepth 100000
set_option linter.all false
namespace Go.Proofs.YtjonibipieofcaaGreatDoor
open Go Go.RowKit Vm Go.Lib Tryz
open Vm renaming aI->Ca,aP->Cb
open And renaming intro->Ai
open List renaming length_map->Lm,not_mem_nil->Ln,map_nil->Lo,map_cons->Lc,mem_cons->Lk
open Bool renaming not_false->Bf,not_true->Bt
def Jk (a b:List (List Nd))(f:Nat)(caps:List V)(hf:∀ x∈a,∀ y∈b,∀ nm,Ev cx f nm (c8 x::c8 y::caps) ao.nil (.bool (decide (x=y))) [])(ha:a.length<=aT)(hb:b.length<=aT)(hpl:plainL caps=true)(nm:Nat):Ev cx 19 nm [.sl false 1 (a.map aR),.sl false 1 (b.map aR),.fn f caps] ao.nil (.bool (decide (a=b))) []:=by
 unfold aT at ha hb
 by_cases hl:a.length=b.length
 ·have e1:(((a.length:Nat):Int) !=((b.length:Nat):Int))=false:=gC hl
  refine aX call19 func19 ?_;intro b0 hb0
  refine wR (a3 (results19) (ntmps19) e1) trivial ?_
  (refine ew (fun x:Nat=>a.length-x) (fun x=>x<=a.length/\kI a b x) (b0+16) (fun x=>[(1,.sl false 1 (b.map aR)),(2,.fn f caps),(15,.sl false 1 (a.map aR)),(16,.int .i64 a.length),(17,.int .i64 x)]) (fun x=>[]) (0) [] ?_ ?_ ?_;(focus (refine⟨?_,?_⟩<;>(try simp only[aE,ad,bd hpl,aU hpl,Lm,aj,ai,aq,seval])<;>(try omega))))
  ·exact⟨Nat.zero_le _,fun i hi=>by omega⟩
  ·rintro k ⟨hk,hsm⟩
   by_cases hlt:k<a.length
   ·obtain⟨x,hx⟩:=ic hlt
    obtain⟨y,hy⟩:∃ y,b[k]? = some y:=⟨_,List.getElem?_eq_getElem (hl ▸ hlt)⟩
    have hax:=lW hx
    have hby:=lW hy
    have hd:=decide_eq_true hlt
    have hlt2:k<b.length:=hl ▸ hlt
    have hwk:=eD k
    have hfh:=hf x (List.mem_of_getElem? hx) y (List.mem_of_getElem? hy)
    by_cases hxy:x=y
    ·subst hxy
     have hsm':=fR hsm hx hy
     rw[decide_eq_true rfl]at hfh
     unfold c8 at hfh
     repeat' first|simp only[au,ap,results19,ntmps19,am,ad,hax,hby,aR,c8,ae,hd,hlt,hlt2,hwk,Bt,Lm,aj,ai,seval]|exact rfl|refine aa (v:=.any) ?_|refine bw (g:=f) (caps:=caps) (by simp only[results19,ntmps19,am,ad,hax,hby,aR,c8,ae,hd,hlt,hlt2,hwk,Bt,Lm,aj,ai,seval]<;>exact rfl) (by simp only[results19,ntmps19,am,ad,hax,hby,aR,c8,ae,hd,hlt,hlt2,hwk,Bt,Lm,aj,ai,seval]<;>exact rfl) (hfh _) ?_|((first|apply Ca|apply Cb)<;>intro hb)|refine Ai (by omega) ?_|(apply Ai<;>intro hb)
     all_goals ((refine de (k+1) [] ?_ ?_ ?_;(focus (refine⟨?_,?_⟩<;>(try simp only[aE,ad,bd hpl,aU hpl,hwk,Lm,aj,ai,aq,seval])<;>(try omega)))))
     all_goals (first|(show a.length-(k+1)<a.length-k;omega)|exact⟨hlt,hsm'⟩|skip)
    ·have hr:decide (a=b)=false:=decide_eq_false (mD hx hy hxy)
     rw[decide_eq_false hxy]at hfh
     unfold c8 at hfh
     (repeat' first|simp only[au,ap,results19,ntmps19,am,ad,hax,hby,aR,c8,ae,hd,hlt,hlt2,hr,Bf,Lm,aj,ai,seval]|exact rfl|refine aa (v:=.any) ?_|refine bw (g:=f) (caps:=caps) (by simp only[results19,ntmps19,am,ad,hax,hby,aR,c8,ae,hd,hlt,hlt2,hr,Bf,Lm,aj,ai,seval]<;>exact rfl) (by simp only[results19,ntmps19,am,ad,hax,hby,aR,c8,ae,hd,hlt,hlt2,hr,Bf,Lm,aj,ai,seval]<;>exact rfl) (hfh _) ?_|((first|apply Ca|apply Cb)<;>intro hb)|refine Ai (by omega) ?_|(apply Ai<;>intro hb)|apply Fin.pure|simp only[aq])
   ·have hke:k=a.length:=by omega
    subst hke
    have hr:decide (a=b)=true:=decide_eq_true (j5 hl hsm)
    have hd:decide (a.length<a.length)=false:=bi
    exact wP (a4 (results19) (ntmps19) hd hr) trivial
 ·have e1:(((a.length:Nat):Int) !=((b.length:Nat):Int))=true:=gD hl
  have hr:decide (a=b)=false:=decide_eq_false (fun e=>hl (congrArg List.length e))
  refine aX call19 func19 ?_;intro b0 hb0
  exact wP (a4 (results19) (ntmps19) e1 hr) trivial
def qy (a b:Ak):Bool:=(a.rid==b.rid)&&(a.sid==b.sid)&&(a.dst==b.dst)&&(a.src==b.src)&&(a.lang==b.lang)&&(a.wait==b.wait)&&(a.hold==b.hold)&&(a.great==b.great)&&(a.small==b.small)&&(a.ack==b.ack)&&(a.pause==b.pause)&&(a.key==b.key)&&(a.fresh==b.fresh)&&(a.fin==b.fin)&&(a.rst==b.rst)&&decide (a.load=b.load)
def zp (a b:Ak)(ha:a.ok)(hb:b.ok)(nm:Nat):Ev cx 8 nm [.agg (aQ a),.agg (aQ b)] ao.nil (.bool (qy a b)) []:=by
 have hl:=Jk a.load b.load 20 [] (fun x hx y hy nm=>HA x y (ha.l2 x hx).1 (hb.l2 y hy).1 (fun t ht=>((ha.l2 x hx).2 t ht).1.1) (fun t ht=>((hb.l2 y hy).2 t ht).1.1) nm) ha.l1 hb.l1 rfl
 unfold qy
 refine aX call8 func8 ?_;intro b0 hb0
 exact wP (a6 results8 ntmps8 @aQ.eq_1 @aV.eq_1 @ad @Bool.and_assoc) hl
def wQ (a b:List (List Nd))(ha:a.length<=aT)(hb:b.length<=aT)(ha2:∀ v∈a,v.length<=aT /\ ∀ n∈v,n.okTo aT/\n.i64)(hb2:∀ v∈b,v.length<=aT /\ ∀ n∈v,n.okTo aT/\n.i64)(nm:Nat):Ev cx 21 nm [.sl false 1 (a.map aR),.sl false 1 (b.map aR)] ao.nil (.bool (decide (a=b))) []:=by
 unfold aT at ha hb
 by_cases hl:a.length=b.length
 ·have e1:(((a.length:Nat):Int) !=((b.length:Nat):Int))=false:=gC hl
  refine aX call21 func21 ?_;intro b0 hb0
  refine wR (a3 results21 ntmps21 e1) trivial ?_
  (refine ew (fun x:Nat=>a.length-x) (fun x=>x<=a.length/\kI a b x) (b0+16) (fun x=>[(0,.sl false 1 (a.map aR)),(1,.sl false 1 (b.map aR)),(5,.int .i64 x)]) (fun x=>[]) (0) [] ?_ ?_ ?_;(focus (refine⟨?_,?_⟩<;>(try simp only[aE,ad,Lm,aj,ai,aq,seval])<;>(try omega))))
  ·exact⟨Nat.zero_le _,fun i hi=>by omega⟩
  ·rintro k ⟨hk,hsm⟩
   by_cases hlt:k<a.length
   ·obtain⟨x,hx⟩:=ic hlt
    obtain⟨y,hy⟩:∃ y,b[k]? = some y:=⟨_,List.getElem?_eq_getElem (hl ▸ hlt)⟩
    have hax:=lW hx
    have hby:=lW hy
    have hd:=decide_eq_true hlt
    have hlt2:k<b.length:=hl ▸ hlt
    have hwk:=eD k
    have ha3:=ha2 x (List.mem_of_getElem? hx)
    have hb3:=hb2 y (List.mem_of_getElem? hy)
    have hsp:=Et x y ha3.1 hb3.1 (fun t ht=>(ha3.2 t ht).1.1) (fun t ht=>(hb3.2 t ht).1.1)
    by_cases hxy:x=y
    ·subst hxy
     have hsm':=fR hsm hx hy
     rw[decide_eq_true rfl]at hsp
     refine wR (a2 results21 (a9 ntmps21 @ae hax hby @aR.eq_1 hd hlt hlt2 hwk)) hsp ?_
     all_goals ((refine de (k+1) [] ?_ ?_ ?_;(focus (refine⟨?_,?_⟩<;>(try simp only[aE,ad,hwk,Lm,aj,ai,aq,seval])<;>(try omega)))))
     all_goals (first|(show a.length-(k+1)<a.length-k;omega)|exact⟨hlt,hsm'⟩|skip)
    ·have hr:decide (a=b)=false:=decide_eq_false (mD hx hy hxy)
     rw[decide_eq_false hxy]at hsp
     exact wP (a2 results21 (a9 ntmps21 @ae hax hby @aR.eq_1 hd hlt hlt2 hr)) hsp
   ·have hke:k=a.length:=by omega
    subst hke
    have hr:decide (a=b)=true:=decide_eq_true (j5 hl hsm)
    have hd:decide (a.length<a.length)=false:=bi
    exact wP (a4 results21 ntmps21 hd hr) trivial
 ·have e1:(((a.length:Nat):Int) !=((b.length:Nat):Int))=true:=gD hl
  have hr:decide (a=b)=false:=decide_eq_false (fun e=>hl (congrArg List.length e))
  refine aX call21 func21 ?_;intro b0 hb0
  exact wP (a4 results21 ntmps21 e1 hr) trivial
def Oq (a b:Ak):Bool:=(a.rid != b.rid) || !(a.sid==b.sid) || !(a.dst==b.dst) || !(a.src==b.src) || !(a.lang==b.lang)||(a.wait != b.wait)||(a.hold != b.hold)||(a.great != b.great)||(a.small != b.small)
def Ph (a b:Ak):Bool:=(a.ack==b.ack)&&(a.pause==b.pause)&&(a.key==b.key)&&(a.fresh==b.fresh)&&(a.fin==b.fin)&&(a.rst==b.rst)&&decide (a.load=b.load)
def Bl (a b:Ak):qy a b=(!Oq a b&&Ph a b):=by
 simp only[qy,Oq,Ph,bne,Bool.not_or,Bool.not_not,Bool.and_assoc]
def sV (a b:Ak)(ha:a.ok)(hb:b.ok)(nm:Nat):Ev cx 9 nm [.agg (aQ a),.agg (aQ b)] ao.nil (.bool (qy a b)) []:=by
 have hl:=wQ a.load b.load ha.l1 hb.l1 ha.l2 hb.l2
 rw[Bl]
 cases hn:Oq a b with
 | true =>
  unfold Oq at hn
  refine aX call9 func9 ?_;intro b0 hb0
  exact wP (a6 results9 ntmps9 @aQ.eq_1 @aV.eq_1 hn @ad) trivial
 | false =>
  unfold Oq at hn
  unfold Ph
  refine aX call9 func9 ?_;intro b0 hb0
  exact wP (a7 results9 ntmps9 @aQ.eq_1 @aV.eq_1 hn @ad @Bool.and_assoc) hl
end Go.Proofs.YtjonibipieofcaaGreatDoor
