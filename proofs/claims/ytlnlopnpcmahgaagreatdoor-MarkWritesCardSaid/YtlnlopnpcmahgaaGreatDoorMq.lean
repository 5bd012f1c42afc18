/-
 Texts joined: XJp.
-/
import Derived.Test.YtlnlopnpcmahgaaGreatDoorMp
set_option linter.all false
namespace Go.Proofs.YtlnlopnpcmahgaaGreatDoor
open Go Go.RowKit Vm Go.Lib Tryz
open Vm renaming aH->Ca,aL->Cb
open And renaming intro->Ai
open List renaming length_map->Lm,not_mem_nil->Ln,map_nil->Lo,map_cons->Lc,mem_cons->Lk
open Bool renaming not_false->Bf,not_true->Bt
def wZ (v:List Nd):decide (ct v=0)=(!(v.any ib)&&xS v):=by
 unfold ct xS
 cases v.any ib<;>simp
set_option maxRecDepth 100000 in
set_option maxHeartbeats 16000000 in
def Ec (v:List Nd)(hv:v.length<=1000)(hok:∀ n∈v,n.okTo aS)(nm:Nat):Ev cx 49 nm [.sl false 6 (v.map aG)] am.nil (.bool (decide (ct v=0))) []:=by
  rw[wZ]
  have hmt:=wb v (by omega) hok
  refine aV call49 func49 rfl (by kernel_rfl) rfl ?_;intro b0 hb0;have zF:=Ai results49 ntmps49
  repeat' first|simp only[aj,ag,zF,ap,ai,seval,ah]|exact rfl|refine aa (v:=.any) ?_|((first|apply Ca|apply Cb)<;>intro hb)|refine Ai (by omega) ?_|(apply Ai<;>intro hb)
  (refine ay bu (fun x:Nat=>v.length-x) (fun x=>x<=v.length/\(v.take x).any ib=false) (b0+16) (fun x=>[(0,.sl false 6 (v.map aG)),(3,.int .i64 x)]) (fun x=>[]) (0) [] ?_ ?_ ?_ ?_;rotate_left 1;(focus (show b0<=_;omega));(focus (refine⟨?_,?_⟩<;>(try simp only[aM,ad,Lm,ai,seval,ah,al])<;>(try omega)));rotate_left 1)
  · exact⟨Nat.zero_le _,rfl⟩
  · rintro i ⟨hi,hno⟩
    by_cases hlt:i<v.length
    · obtain⟨x,hx⟩:∃ x,v[i]? = some x:=⟨_,List.getElem?_eq_getElem hlt⟩
      have hat:=dG hx
      have hxo:=hok x (List.mem_of_getElem? hx)
      have hxl:=hxo.1
      unfold aS at hxl
      have hii:(i:Int)<(v.length:Int):=by omega
      have d1:decide ((i:Int)<(v.length:Int))=true:=decide_eq_true hii
      have d2:decide (i<v.length)=true:=decide_eq_true hlt
      have wi:IntKind.i64.wrap ((i:Int)+1)=((i+1:Nat):Int):=aK
      have hnm:=j9 x.name hxo.2.2.1
      have hkk:((x.kind:Int)==1)=decide (x.kind=1):=by rw[Bool.eq_iff_iff];simp;omega
      obtain⟨bk,hbk⟩:∃ b,b=decide (x.kind=1):=⟨_,rfl⟩
      obtain⟨bn,hbn⟩:∃ b,b=cU x.name:=⟨_,rfl⟩
      rw[<- hbk]at hkk
      rw[<- hbn]at hnm
      have hbad:ib x=(((bk && !bn)||cZ x.space)||x.attrs.any pE):=by rw[hbk,hbn];rfl
      unfold cZ ks lQ at hbad
      cases c1:(x.space==[104,116,116,112,58,47,47,119,119,119,46,119,51,46,111,114,103,47,88,77,76,47,49,57,57,56,47,110,97,109,101,115,112,97,99,101])<;>cases c2:(x.space==[104,116,116,112,58,47,47,119,119,119,46,119,51,46,111,114,103,47,50,48,48,48,47,120,109,108,110,115,47])<;>cases bk<;>cases bn
      all_goals (rw[c1,c2]at hbad;simp only[Bool.and_self,Bool.and_false,Bool.false_and,Bool.or_false,Bool.false_or,Bool.or_true,Bool.true_or,Bt,Bf]at hbad)
      all_goals first
        | (have hr:v.any ib=true:=ew hx hbad
           rw[hr]
           simp only[Bt,Bool.false_and]
           (repeat' first|simp only[aj,ag,zF,ap,d1,d2,hat,aG,hlt,hii,hkk,c1,c2,bx,Bt,Bf,Lm,ai,seval,ah]|exact rfl|refine aa (v:=.any) ?_|(first|(refine ac ?_ (hnm _) ?_)|(refine ab ?_ (fun _=>hnm _) ?_))|(refine aa (v:=.any) ?_)|((first|apply Ca|apply Cb)<;>intro hb)|refine Ai (by omega) ?_|(apply Ai<;>intro hb)|refine Fin.pure ?_ ?_ ?_|simp only[al]))
        | skip
      all_goals (
        repeat' first|simp only[aj,ag,zF,ap,d1,d2,hat,aG,hlt,hii,hkk,c1,c2,bx,Bt,Bf,Lm,ai,seval,ah]|exact rfl|refine aa (v:=.any) ?_|(first|(refine ac ?_ (hnm _) ?_)|(refine ab ?_ (fun _=>hnm _) ?_))|(refine aa (v:=.any) ?_)|((first|apply Ca|apply Cb)<;>intro hb)|refine Ai (by omega) ?_|(apply Ai<;>intro hb)
        (refine ay bu (fun j:Nat=>x.attrs.length-j) (fun j=>j<=x.attrs.length/\(x.attrs.take j).any pE=false) (b0+16) (fun j=>[(0,.sl false 6 (v.map aG)),(3,.int .i64 i),(4,.int .i64 j)]) (fun j=>[]) (0) [] ?_ ?_ ?_ ?_;rotate_left 1;(focus (show b0<=_;omega));(focus (refine⟨?_,?_⟩<;>(try simp only[aM,ad,ae,Lm,ai,seval,ah,al])<;>(try omega)));rotate_left 1))
      all_goals first
        | exact⟨Nat.zero_le _,rfl⟩
        | skip
      all_goals (
        rintro j ⟨hj,hna⟩
        by_cases hja:j<x.attrs.length
        · obtain⟨a,ha⟩:∃ a,x.attrs[j]? = some a:=⟨_,List.getElem?_eq_getElem hja⟩
          have haa:=gN ha
          have hao:=hxo.2.2.2.2 a (List.mem_of_getElem? ha)
          have hji:(j:Int)<(x.attrs.length:Int):=by omega
          have f1:decide ((j:Int)<(x.attrs.length:Int))=true:=decide_eq_true hji
          have f2:decide (j<x.attrs.length)=true:=decide_eq_true hja
          have wj:IntKind.i64.wrap ((j:Int)+1)=((j+1:Nat):Int):=aK
          have hna2:=j9 a.name hao.2.1
          obtain⟨an,han⟩:∃ b,b=cU a.name:=⟨_,rfl⟩
          rw[<- han]at hna2
          have hba:pE a=((!an||((a.space==[])&&(a.name==[120,109,108,110,115])))||(a.space==[104,116,116,112,58,47,47,119,119,119,46,119,51,46,111,114,103,47,50,48,48,48,47,120,109,108,110,115,47])):=by rw[han];rfl
          cases e1:(a.space==[])<;>cases e2:(a.name==[120,109,108,110,115])<;>cases e3:(a.space==[104,116,116,112,58,47,47,119,119,119,46,119,51,46,111,114,103,47,50,48,48,48,47,120,109,108,110,115,47])<;>cases an
          all_goals (rw[e1,e2,e3]at hba;simp only[Bool.and_self,Bool.and_false,Bool.false_and,Bool.or_false,Bool.false_or,Bool.or_true,Bool.true_or,Bt,Bf]at hba)
          all_goals first
            | (have hr:v.any ib=true:=ew hx (by rw[hbad,ew ha hba])
               rw[hr]
               simp only[Bt,Bool.false_and]
               (repeat' first|simp only[aj,ag,zF,ap,f1,f2,hat,haa,aG,bh,hlt,hii,hja,hji,e1,e2,e3,bx,Bt,Bf,Lm,ai,seval,ah]|exact rfl|refine aa (v:=.any) ?_|(first|(refine ac ?_ (hna2 _) ?_)|(refine ab ?_ (fun _=>hna2 _) ?_))|(refine aa (v:=.any) ?_)|((first|apply Ca|apply Cb)<;>intro hb)|refine Ai (by omega) ?_|(apply Ai<;>intro hb)|refine Fin.pure ?_ ?_ ?_|simp only[al]))
            | (have hna':=fg ha hna hba
               repeat' first|simp only[aj,ag,zF,ap,f1,f2,hat,haa,aG,bh,hlt,hii,hja,hji,e1,e2,e3,wj,bx,Bt,Bf,Lm,ai,seval,ah]|exact rfl|refine aa (v:=.any) ?_|(first|(refine ac ?_ (hna2 _) ?_)|(refine ab ?_ (fun _=>hna2 _) ?_))|(refine aa (v:=.any) ?_)|((first|apply Ca|apply Cb)<;>intro hb)|refine Ai (by omega) ?_|(apply Ai<;>intro hb)
               all_goals ((refine au bu (j+1) [] ?_ ?_ ?_ ?_;rotate_left 2;(focus (show b0<=_;omega));(focus (refine⟨?_,?_⟩<;>(try simp only[aM,ad,wj,Lm,ai,seval,ah,al])<;>(try omega)))))
               all_goals (first|(show x.attrs.length-(j+1)<x.attrs.length-j;omega)|exact⟨hja,hna'⟩|skip))
        · have hje:j=x.attrs.length:=by omega
          subst hje
          have f1:decide ((x.attrs.length:Int)<(x.attrs.length:Int))=false:=aR
          have f2:decide (x.attrs.length<x.attrs.length)=false:=aR
          rw[List.take_length]at hna
          have hno':=fg hx hno (hbad.trans hna)
          repeat' first|simp only[aj,ag,zF,ap,f1,f2,hat,aG,hlt,hii,wi,Lm,ai,seval,ah]|exact rfl|refine aa (v:=.any) ?_|((first|apply Ca|apply Cb)<;>intro hb)|refine Ai (by omega) ?_|(apply Ai<;>intro hb)
          all_goals ((refine au bu (i+1) [] ?_ ?_ ?_ ?_;rotate_left 2;(focus (show b0<=_;omega));(focus (refine⟨?_,?_⟩<;>(try simp only[aM,ad,wi,Lm,ai,seval,ah,al])<;>(try omega)))))
          all_goals (first|(show v.length-(i+1)<v.length-i;omega)|exact⟨hlt,hno'⟩|skip))
    · have hie:i=v.length:=by omega
      subst hie
      have d1:decide ((v.length:Int)<(v.length:Int))=false:=aR
      have d2:decide (v.length<v.length)=false:=aR
      rw[List.take_length]at hno
      rw[hno]
      simp only[Bf,Bool.true_and]
      (repeat' first|simp only[aj,ag,zF,ap,d1,d2,ad,Lm,ai,seval,ah]|exact rfl|refine aa (v:=.any) ?_|(first|(refine ac ?_ (hmt _) ?_)|(refine ab ?_ (fun _=>hmt _) ?_))|((first|apply Ca|apply Cb)<;>intro hb)|refine Ai (by omega) ?_|(apply Ai<;>intro hb)|refine Fin.pure ?_ ?_ ?_|simp only[al])
end Go.Proofs.YtlnlopnpcmahgaaGreatDoor
