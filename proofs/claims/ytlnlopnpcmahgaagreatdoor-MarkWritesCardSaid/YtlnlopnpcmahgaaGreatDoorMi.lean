/-
 Texts joined: XGo,XNs,XGp,XGr,XNt,XNu.
-/
import Derived.Test.YtlnlopnpcmahgaaGreatDoorQg
import Derived.Test.YtlnlopnpcmahgaaGreatDoorQm
import Derived.Test.YtlnlopnpcmahgaaGreatDoorQk
import Derived.Test.YtlnlopnpcmahgaaGreatDoorQj
set_option linter.all false
namespace Go.Proofs.YtlnlopnpcmahgaaGreatDoor
set_option maxRecDepth 100000
set_option maxHeartbeats 32000000
open Go Go.RowKit Vm Go.Lib Tryz
open Vm renaming aH->Ca,aL->Cb
open And renaming intro->Ai
open List renaming length_map->Lm,not_mem_nil->Ln,map_nil->Lo,map_cons->Lc,mem_cons->Lk
open Bool renaming not_false->Bf,not_true->Bt
def pN:∀(k n:Nat),n<10 ^ (k+1)->(ei n).length<=k+1
 | 0,n,h=>by rw[gq (by omega)];simp
 | k+1,n,h=>by
  by_cases h9:n<=9
  ·rw[gq h9];simp
  ·rw[jL (by omega),List.length_append,List.length_singleton]
   have:=pN k (n / 10) (by rw[Nat.pow_succ]at h;omega)
   omega
def JB {d:Nat}(h:d<=9):((UInt8.ofNat (48+d)).toNat:Int)=48+(d:Int):=by simp;omega
def iY (n:Nat)(hn:n<10 ^ 17)(nm:Nat):Ev cx 178 nm [.int .i64 n] am.nil (.str (ei n)) []:=by
 have hl:=pN 16 n hn
 have hn':n<100000000000000000:=hn
 refine aV call178 func178 rfl (by kernel_rfl) rfl ?_;intro b0 hb0;have zF:=Ai results178 ntmps178
 repeat' first|simp only[aj,ag,zF,ap,ai,seval,ah]|exact rfl|refine aa (v:=.any) ?_|((first|apply Ca|apply Cb)<;>intro hb)|refine Ai (by omega) ?_|(apply Ai<;>intro hb)
 (refine ay bu (fun x:Nat×List UInt8=>x.1) (fun x=>x.1<=n/\ei n=ei x.1++x.2) (b0+16) (fun x=>[(0,.int .i64 x.1),(3,.str x.2)]) (fun x=>[]) ((n,[])) [] ?_ ?_ ?_ ?_;rotate_left 1;(focus (show b0<=_;omega));(focus (refine⟨?_,?_⟩<;>(try simp only[aM,ai,seval,ah,al])<;>(try omega)));rotate_left 1)
 ·exact⟨Nat.le_refl _,(List.append_nil _).symm⟩
 ·rintro ⟨m,acc⟩ ⟨h1,h2⟩
  simp only at h1 h2
  have hal:acc.length<=17:=by
   have:=congrArg List.length h2
   rw[List.length_append]at this;omega
  by_cases h9:9<m
  ·have hd:decide ((9:Int)<(m:Int))=true:=cn
   have q1:(m:Int).tmod 10=((m % 10:Nat):Int):=by rw[Int.tmod_eq_emod_of_nonneg (by omega)];rfl
   have q2:(m:Int).tdiv 10=((m / 10:Nat):Int):=by rw[Int.tdiv_eq_ediv_of_nonneg (by omega)];rfl
   have w1:IntKind.i64.wrap ((m % 10:Nat):Int)=((m % 10:Nat):Int):=aK
   have w2:IntKind.i64.wrap (48+((m % 10:Nat):Int))=48+((m % 10:Nat):Int):=aK
   have w3:IntKind.u8.wrap (48+((m % 10:Nat):Int))=((UInt8.ofNat (48+m % 10)).toNat:Int):=by rw[IntWalk.u8_in _ (by omega),JB (by omega)]
   have w4:IntKind.i64.wrap ((m / 10:Nat):Int)=((m / 10:Nat):Int):=aK
   generalize hg:UInt8.ofNat (48+m % 10)=g at w3
   have hcl:([g]++acc).length=acc.length+1:=by simp
   repeat' first|simp only[aj,ag,zF,ap,hd,q1,q2,w1,w2,w3,w4,hcl,aE,ai,seval,ah]|exact rfl|refine aa (v:=.any) ?_|(refine fh (v:=?_) (bs:=[g]) ?_ ?_ ?_ ?_ ?_ ?_ ?_;rotate_left 1;(iterate 2 (focus (simp only[zF,ap,hd,q1,q2,w1,w2,w3,w4,hcl,aE,ai,seval,ah];done)));(focus (simp only[zF,ap,hd,q1,q2,w1,w2,w3,w4,hcl,aE,ai,seval,ah]<;>exact rfl));(focus (exact rfl));(focus (simp only[ag,zF,ap,hd,q1,q2,w1,w2,w3,w4,hcl,aE,ai,seval,ah];done));(focus (simp only[zF,ap,hd,q1,q2,w1,w2,w3,w4,hcl,aE,ai,seval,ah]<;>exact rfl)))|(refine bf ?_)|(refine aW ?_)|((first|apply Ca|apply Cb)<;>intro hb)|refine Ai (by omega) ?_|(apply Ai<;>intro hb)
   all_goals ((refine au bu ((m / 10,[g]++acc)) [] ?_ ?_ ?_ ?_;rotate_left 2;(focus (show b0<=_;omega));(focus (refine⟨?_,?_⟩<;>(try simp only[aM,ai,seval,ah,al])<;>(try omega)))))
   all_goals (first|(show m / 10<m;omega)|(refine⟨by show m / 10<=n;omega,?_⟩;rw[h2,jL h9,hg,List.append_assoc])|skip)
  ·have hd:decide ((9:Int)<(m:Int))=false:=aR
   have w2:IntKind.i64.wrap (48+(m:Int))=48+(m:Int):=aK
   have w3:IntKind.u8.wrap (48+(m:Int))=((UInt8.ofNat (48+m)).toNat:Int):=by rw[IntWalk.u8_in _ (by omega),JB (by omega)]
   have hr:ei n=[UInt8.ofNat (48+m)]++acc:=by rw[h2,gq (by omega)]
   generalize hg:UInt8.ofNat (48+m)=g at w3 hr
   have hcl:([g]++acc).length=acc.length+1:=by simp
   (repeat' first|simp only[aj,ag,zF,ap,hd,w2,w3,hr,hcl,aE,ai,seval,ah]|exact rfl|refine aa (v:=.any) ?_|(refine fh (v:=?_) (bs:=[g]) ?_ ?_ ?_ ?_ ?_ ?_ ?_;rotate_left 1;(iterate 2 (focus (simp only[zF,ap,hd,w2,w3,hr,hcl,aE,ai,seval,ah];done)));(focus (simp only[zF,ap,hd,w2,w3,hr,hcl,aE,ai,seval,ah]<;>exact rfl));(focus (exact rfl));(focus (simp only[ag,zF,ap,hd,w2,w3,hr,hcl,aE,ai,seval,ah];done));(focus (simp only[zF,ap,hd,w2,w3,hr,hcl,aE,ai,seval,ah]<;>exact rfl)))|(refine bf ?_)|(refine aW ?_)|((first|apply Ca|apply Cb)<;>intro hb)|refine Ai (by omega) ?_|(apply Ai<;>intro hb)|refine Fin.pure ?_ ?_ ?_|simp only[al])
structure QSt where
 i:Nat
 out:List UInt8
def QSt.inv (s:List UInt8)(x:QSt):Prop:=x.i<=s.length/\cS s=(cS (s.drop x.i)).map (x.out ++ ·)/\x.out.length<=4*x.i
end Go.Proofs.YtlnlopnpcmahgaaGreatDoor
