/-
 Texts joined: XGo,XNs,XGp,XGr,XNt,XNu.
-/
import Derived.Test.YtjonibipieofcaaGreatDoorQm
set_option linter.all false
namespace Go.Proofs.YtjonibipieofcaaGreatDoor
set_option maxRecDepth 100000
set_option maxHeartbeats 32000000
open Go Go.RowKit Vm Go.Lib Tryz
open Vm renaming aI->Ca,aP->Cb
open And renaming intro->Ai
open List renaming length_map->Lm,not_mem_nil->Ln,map_nil->Lo,map_cons->Lc,mem_cons->Lk
open Bool renaming not_false->Bf,not_true->Bt
def qj:∀(k n:Nat),n<10 ^ (k+1)->(dC n).length<=k+1
 | 0,n,h=>by rw[dY (by omega)];simp
 | k+1,n,h=>by
  by_cases h9:n<=9
  ·rw[dY h9];simp
  ·rw[fG (by omega),List.length_append,List.length_singleton]
   have:=qj k (n / 10) (by rw[Nat.pow_succ]at h;omega)
   omega
def NN {d:Nat}(h:d<=9):((UInt8.ofNat (48+d)).toNat:Int)=48+(d:Int):=by simp;omega
def iZ (n:Nat)(hn:n<10 ^ 17)(nm:Nat):Ev cx 100 nm [.int .i64 n] ao.nil (.str (dC n)) []:=by
 have hl:=qj 16 n hn
 have hn':n<100000000000000000:=hn
 refine aX call100 func100 ?_;intro b0 hb0
 refine wR (a2 results100 ntmps100) trivial ?_
 (refine ew (fun x:Nat×List UInt8=>x.1) (fun x=>x.1<=n/\dC n=dC x.1++x.2) (b0+16) (fun x=>[(0,.int .i64 x.1),(3,.str x.2)]) (fun x=>[]) ((n,[])) [] ?_ ?_ ?_;(focus (refine⟨?_,?_⟩<;>(try simp only[aE,aj,ai,aq,seval])<;>(try omega))))
 ·exact⟨Nat.le_refl _,(List.append_nil _).symm⟩
 ·rintro ⟨m,acc⟩ ⟨h1,h2⟩
  simp only at h1 h2
  have hal:acc.length<=17:=by
   have:=congrArg List.length h2
   rw[List.length_append]at this;omega
  by_cases h9:9<m
  ·have hd:decide ((9:Int)<(m:Int))=true:=dh
   have q1:(m:Int).tmod 10=((m % 10:Nat):Int):=by rw[Int.tmod_eq_emod_of_nonneg (by omega)];rfl
   have q2:(m:Int).tdiv 10=((m / 10:Nat):Int):=by rw[Int.tdiv_eq_ediv_of_nonneg (by omega)];rfl
   have w1:IntKind.i64.wrap ((m % 10:Nat):Int)=((m % 10:Nat):Int):=bH
   have w2:IntKind.i64.wrap (48+((m % 10:Nat):Int))=48+((m % 10:Nat):Int):=bH
   have w3:IntKind.u8.wrap (48+((m % 10:Nat):Int))=((UInt8.ofNat (48+m % 10)).toNat:Int):=by rw[IntWalk.u8_in _ (by omega),NN (by omega)]
   have w4:IntKind.i64.wrap ((m / 10:Nat):Int)=((m / 10:Nat):Int):=bH
   generalize hg:UInt8.ofNat (48+m % 10)=g at w3
   have hcl:([g]++acc).length=acc.length+1:=by simp
   repeat' first|simp only[au,ap,results100,ntmps100,am,hd,q1,q2,w1,w2,w3,w4,hcl,aL,aj,ai,seval]|exact rfl|refine aa (v:=.any) ?_|(refine gw (v:=?_) (bs:=[g]) ?_ ?_ ?_ ?_ ?_ ?_ ?_;rotate_left 1;(iterate 2 (focus (simp only[results100,ntmps100,am,hd,q1,q2,w1,w2,w3,w4,hcl,aL,aj,ai,seval];done)));(focus (simp only[results100,ntmps100,am,hd,q1,q2,w1,w2,w3,w4,hcl,aL,aj,ai,seval]<;>exact rfl));(focus (exact rfl));(focus (simp only[ap,results100,ntmps100,am,hd,q1,q2,w1,w2,w3,w4,hcl,aL,aj,ai,seval];done));(focus (simp only[results100,ntmps100,am,hd,q1,q2,w1,w2,w3,w4,hcl,aL,aj,ai,seval]<;>exact rfl)))|(refine bo ?_)|(refine bc ?_)|((first|apply Ca|apply Cb)<;>intro hb)|refine Ai (by omega) ?_|(apply Ai<;>intro hb)
   all_goals ((refine de ((m / 10,[g]++acc)) [] ?_ ?_ ?_;(focus (refine⟨?_,?_⟩<;>(try simp only[aE,aj,ai,aq,seval])<;>(try omega)))))
   all_goals (first|(show m / 10<m;omega)|(refine⟨by show m / 10<=n;omega,?_⟩;rw[h2,fG h9,hg,List.append_assoc])|skip)
  ·have hd:decide ((9:Int)<(m:Int))=false:=bi
   have w2:IntKind.i64.wrap (48+(m:Int))=48+(m:Int):=bH
   have w3:IntKind.u8.wrap (48+(m:Int))=((UInt8.ofNat (48+m)).toNat:Int):=by rw[IntWalk.u8_in _ (by omega),NN (by omega)]
   have hr:dC n=[UInt8.ofNat (48+m)]++acc:=by rw[h2,dY (by omega)]
   generalize hg:UInt8.ofNat (48+m)=g at w3 hr
   have hcl:([g]++acc).length=acc.length+1:=by simp
   (repeat' first|simp only[au,ap,results100,ntmps100,am,hd,w2,w3,hr,hcl,aL,aj,ai,seval]|exact rfl|refine aa (v:=.any) ?_|(refine gw (v:=?_) (bs:=[g]) ?_ ?_ ?_ ?_ ?_ ?_ ?_;rotate_left 1;(iterate 2 (focus (simp only[results100,ntmps100,am,hd,w2,w3,hr,hcl,aL,aj,ai,seval];done)));(focus (simp only[results100,ntmps100,am,hd,w2,w3,hr,hcl,aL,aj,ai,seval]<;>exact rfl));(focus (exact rfl));(focus (simp only[ap,results100,ntmps100,am,hd,w2,w3,hr,hcl,aL,aj,ai,seval];done));(focus (simp only[results100,ntmps100,am,hd,w2,w3,hr,hcl,aL,aj,ai,seval]<;>exact rfl)))|(refine bo ?_)|(refine bc ?_)|((first|apply Ca|apply Cb)<;>intro hb)|refine Ai (by omega) ?_|(apply Ai<;>intro hb)|apply Fin.pure|simp only[aq])
structure QSt where
 i:Nat
 out:List UInt8
def QSt.inv (s:List UInt8)(x:QSt):Prop:=x.i<=s.length/\dD s=(dD (s.drop x.i)).map (x.out ++ ·)/\x.out.length<=4*x.i
end Go.Proofs.YtjonibipieofcaaGreatDoor
