/-
 Texts joined: XJp.
-/
import Derived.Test.YtjonibipieofcaaGreatDoorMp
set_option linter.all false
namespace Go.Proofs.YtjonibipieofcaaGreatDoor
open Go Go.RowKit Vm Go.Lib Tryz
open Vm renaming aI->Ca,aP->Cb
open And renaming intro->Ai
open List renaming length_map->Lm,not_mem_nil->Ln,map_nil->Lo,map_cons->Lc,mem_cons->Lk
open Bool renaming not_false->Bf,not_true->Bt
def zQ (v:List Nd):decide (cn v=0)=(!(v.any jF)&&nA v):=by
 unfold cn nA
 cases v.any jF<;>simp
set_option maxRecDepth 100000 in
set_option maxHeartbeats 16000000 in
def yW (v:List Nd)(hv:v.length<=1000)(hok:∀ n∈v,n.okTo aT)(nm:Nat):Ev cx 44 nm [.sl false 6 (v.map aD)] ao.nil (.bool (decide (cn v=0))) []:=by
  rw[zQ]
  have hmt:=lX v (by omega) hok
  refine aX call44 func44 ?_;intro b0 hb0
  refine wR (a2 results44 ntmps44) trivial ?_
  (refine ew (fun x:Nat=>v.length-x) (fun x=>x<=v.length/\(v.take x).any jF=false) (b0+16) (fun x=>[(0,.sl false 6 (v.map aD)),(3,.int .i64 x)]) (fun x=>[]) (0) [] ?_ ?_ ?_;(focus (refine⟨?_,?_⟩<;>(try simp only[aE,ae,Lm,aj,ai,aq,seval])<;>(try omega))))
  · exact⟨Nat.zero_le _,rfl⟩
  · rintro i ⟨hi,hno⟩
    by_cases hlt:i<v.length
    · obtain⟨x,hx⟩:=ic hlt
      have hat:=dS hx
      have hxo:=hok x (List.mem_of_getElem? hx)
      have hxl:=hxo.1
      unfold aT at hxl
      have hii:=jB i v.length
      have d1:decide ((i:Int)<(v.length:Int))=true:=decide_eq_true hii
      have d2:=decide_eq_true hlt
      have wi:=eD i
      have hnm:=lY x.name hxo.2.2.1
      have hkk:((x.kind:Int)==1)=decide (x.kind=1):=by rw[Bool.eq_iff_iff];simp;omega
      obtain⟨bk,hbk⟩:∃ b,b=decide (x.kind=1):=⟨_,rfl⟩
      obtain⟨bn,hbn⟩:∃ b,b=dG x.name:=⟨_,rfl⟩
      rw[<- hbk]at hkk
      rw[<- hbn]at hnm
      have hbad:jF x=(((bk && !bn)||dN x.space)||x.attrs.any rG):=by rw[hbk,hbn];rfl
      unfold dN me nN at hbad
      cases c1:(x.space==[104,116,116,112,58,47,47,119,119,119,46,119,51,46,111,114,103,47,88,77,76,47,49,57,57,56,47,110,97,109,101,115,112,97,99,101])<;>cases c2:(x.space==[104,116,116,112,58,47,47,119,119,119,46,119,51,46,111,114,103,47,50,48,48,48,47,120,109,108,110,115,47])<;>cases bk<;>cases bn
      all_goals (rw[c1,c2]at hbad;simp only[Bool.and_self,Bool.and_false,Bool.false_and,Bool.or_false,Bool.false_or,Bool.or_true,Bool.true_or,Bt,Bf]at hbad)
      all_goals first
        | (have hr:v.any jF=true:=fx hx hbad
           rw[hr]
           simp only[Bt,Bool.false_and]
           (repeat' first|simp only[au,ap,results44,ntmps44,am,d1,d2,hat,aD,hlt,hii,hkk,c1,c2,bF,Bt,Bf,Lm,aj,ai,seval]|exact rfl|refine aa (v:=.any) ?_|(first|(refine ah ?_ (hnm _) ?_)|(refine ac ?_ (fun _=>hnm _) ?_))|(refine aa (v:=.any) ?_)|((first|apply Ca|apply Cb)<;>intro hb)|refine Ai (by omega) ?_|(apply Ai<;>intro hb)|apply Fin.pure|simp only[aq]))
        | skip
      all_goals (
        repeat' first|simp only[au,ap,results44,ntmps44,am,d1,d2,hat,aD,hlt,hii,hkk,c1,c2,bF,Bt,Bf,Lm,aj,ai,seval]|exact rfl|refine aa (v:=.any) ?_|(first|(refine ah ?_ (hnm _) ?_)|(refine ac ?_ (fun _=>hnm _) ?_))|(refine aa (v:=.any) ?_)|((first|apply Ca|apply Cb)<;>intro hb)|refine Ai (by omega) ?_|(apply Ai<;>intro hb)
        (refine ew (fun j:Nat=>x.attrs.length-j) (fun j=>j<=x.attrs.length/\(x.attrs.take j).any rG=false) (b0+16) (fun j=>[(0,.sl false 6 (v.map aD)),(3,.int .i64 i),(4,.int .i64 j)]) (fun j=>[]) (0) [] ?_ ?_ ?_;(focus (refine⟨?_,?_⟩<;>(try simp only[aE,ae,ab,Lm,aj,ai,aq,seval])<;>(try omega)))))
      all_goals first
        | exact⟨Nat.zero_le _,rfl⟩
        | skip
      all_goals (
        rintro j ⟨hj,hna⟩
        by_cases hja:j<x.attrs.length
        · obtain⟨a,ha⟩:=ic hja
          have haa:=iu ha
          have hao:=hxo.2.2.2.2 a (List.mem_of_getElem? ha)
          have hji:=jB j x.attrs.length
          have f1:decide ((j:Int)<(x.attrs.length:Int))=true:=decide_eq_true hji
          have f2:=decide_eq_true hja
          have wj:=eD j
          have hna2:=lY a.name hao.2.1
          obtain⟨an,han⟩:∃ b,b=dG a.name:=⟨_,rfl⟩
          rw[<- han]at hna2
          have hba:rG a=((!an||((a.space==[])&&(a.name==[120,109,108,110,115])))||(a.space==[104,116,116,112,58,47,47,119,119,119,46,119,51,46,111,114,103,47,50,48,48,48,47,120,109,108,110,115,47])):=by rw[han];rfl
          cases e1:(a.space==[])<;>cases e2:(a.name==[120,109,108,110,115])<;>cases e3:(a.space==[104,116,116,112,58,47,47,119,119,119,46,119,51,46,111,114,103,47,50,48,48,48,47,120,109,108,110,115,47])<;>cases an
          all_goals (rw[e1,e2,e3]at hba;simp only[Bool.and_self,Bool.and_false,Bool.false_and,Bool.or_false,Bool.false_or,Bool.or_true,Bool.true_or,Bt,Bf]at hba)
          all_goals first
            | (have hr:v.any jF=true:=fx hx (by rw[hbad,fx ha hba])
               rw[hr]
               simp only[Bt,Bool.false_and]
               (repeat' first|simp only[au,ap,results44,ntmps44,am,f1,f2,hat,haa,aD,bf,hlt,hii,hja,hji,e1,e2,e3,bF,Bt,Bf,Lm,aj,ai,seval]|exact rfl|refine aa (v:=.any) ?_|(first|(refine ah ?_ (hna2 _) ?_)|(refine ac ?_ (fun _=>hna2 _) ?_))|(refine aa (v:=.any) ?_)|((first|apply Ca|apply Cb)<;>intro hb)|refine Ai (by omega) ?_|(apply Ai<;>intro hb)|apply Fin.pure|simp only[aq]))
            | (have hna':=gq ha hna hba
               repeat' first|simp only[au,ap,results44,ntmps44,am,f1,f2,hat,haa,aD,bf,hlt,hii,hja,hji,e1,e2,e3,wj,bF,Bt,Bf,Lm,aj,ai,seval]|exact rfl|refine aa (v:=.any) ?_|(first|(refine ah ?_ (hna2 _) ?_)|(refine ac ?_ (fun _=>hna2 _) ?_))|(refine aa (v:=.any) ?_)|((first|apply Ca|apply Cb)<;>intro hb)|refine Ai (by omega) ?_|(apply Ai<;>intro hb)
               all_goals ((refine de (j+1) [] ?_ ?_ ?_;(focus (refine⟨?_,?_⟩<;>(try simp only[aE,ae,wj,Lm,aj,ai,aq,seval])<;>(try omega)))))
               all_goals (first|(show x.attrs.length-(j+1)<x.attrs.length-j;omega)|exact⟨hja,hna'⟩|skip))
        · have hje:j=x.attrs.length:=by omega
          subst hje
          have f1:=nu x.attrs.length x.attrs.length
          have f2:decide (x.attrs.length<x.attrs.length)=false:=bi
          rw[List.take_length]at hna
          have hno':=gq hx hno (hbad.trans hna)
          refine wR (a9 results44 ntmps44 f1 f2 hat @aD.eq_1 hlt hii wi) trivial ?_
          all_goals ((refine de (i+1) [] ?_ ?_ ?_;(focus (refine⟨?_,?_⟩<;>(try simp only[aE,ae,wi,Lm,aj,ai,aq,seval])<;>(try omega)))))
          all_goals (first|(show v.length-(i+1)<v.length-i;omega)|exact⟨hlt,hno'⟩|skip))
    · have hie:i=v.length:=by omega
      subst hie
      have d1:=nu v.length v.length
      have d2:decide (v.length<v.length)=false:=bi
      rw[List.take_length]at hno
      rw[hno]
      simp only[Bf,Bool.true_and]
      exact wP (a5 results44 ntmps44 d1 d2 @ae) hmt
end Go.Proofs.YtjonibipieofcaaGreatDoor
