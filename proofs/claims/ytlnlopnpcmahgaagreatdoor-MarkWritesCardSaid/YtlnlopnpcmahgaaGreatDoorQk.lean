/-
 Texts joined: XEl,XEm,XLt,XNc,XNd,XNe,XNf.
-/
import Derived.Test.YtlnlopnpcmahgaaGreatDoorQj
import Derived.Test.YtlnlopnpcmahgaaGreatDoorQi
import Derived.Test.YtlnlopnpcmahgaaGreatDoorQf
import Derived.Test.YtlnlopnpcmahgaaGreatDoorQe
import Derived.Test.YtlnlopnpcmahgaaGreatDoorQh
set_option linter.all false
namespace Go.Proofs.YtlnlopnpcmahgaaGreatDoor
set_option maxRecDepth 100000
set_option maxHeartbeats 32000000
open Go Go.RowKit Vm Go.Lib Tryz
open Vm renaming aH->Ca,aL->Cb
open And renaming intro->Ai
open List renaming length_map->Lm,not_mem_nil->Ln,map_nil->Lo,map_cons->Lc,mem_cons->Lk
open Bool renaming not_false->Bf,not_true->Bt
def mM:∀ l z a b p8 p9:Bool,(l=true)\/(l=false/\z=true)\/(l=false/\z=false/\a=true/\p8=true)\/(l=false/\z=false/\a=true/\p8=false/\p9=true)\/(l=false/\z=false/\a=true/\p8=false/\p9=false) \/
  (l=false/\z=false/\a=false/\b=true/\p8=true)\/(l=false/\z=false/\a=false/\b=true/\p8=false/\p9=true)\/(l=false/\z=false/\a=false/\b=true/\p8=false/\p9=false)\/(l=false/\z=false/\a=false/\b=false):=by
 intro l z a b p8 p9;cases l<;>cases z<;>cases a<;>cases b<;>cases p8<;>cases p9<;>simp
def Ba {c:UInt8}{f l a b p8 p9:Bool}(h1:xM c=l)(h2:decide ((c.toNat:Int)<48)=a)(h3:decide ((57:Int)<c.toNat)=b)(h8:decide (c=46)=p8)(h9:decide (c=45)=p9):iz f c=(l||(!f&&((!a && !b)||p8||p9))):=by
 unfold iz
 rw[h1,<- h2,<- h3,<- h8,<- h9]
 have e1:decide (48<=c.toNat) = !decide ((c.toNat:Int)<48):=by rw[Bool.eq_iff_iff];simp;omega
 have e2:decide (c.toNat<=57) = !decide ((57:Int)<c.toNat):=by rw[Bool.eq_iff_iff];simp;omega
 rw[e1,e2]
def mC {s:List UInt8}{k:Nat}{c:UInt8}(h:mB s k)(hc:s[k]? = some c)(hp:iz (k==0) c=true):mB s (k+1):=by
 intro i x hi hx
 by_cases e:i=k
 ·subst e;rw[hc]at hx;cases hx;exact hp
 ·exact h i x (by omega) hx
def wK (k:Nat):((k:Int)==0)=(k==0):=by
 rw[Bool.eq_iff_iff,beq_iff_eq,beq_iff_eq];omega
def j9 (s:List UInt8)(hs:s.length<=aS)(nm:Nat):Ev cx 90 nm [.str s] am.nil (.bool (cU s)) []:=by
 unfold aS at hs
 refine aV call90 func90 rfl (by kernel_rfl) rfl ?_;intro b0 hb0;have zF:=Ai results90 ntmps90
 repeat' first|simp only[aj,ag,zF,ap,ai,seval,ah]|exact rfl|refine aa (v:=.any) ?_|((first|apply Ca|apply Cb)<;>intro hb)|refine Ai (by omega) ?_|(apply Ai<;>intro hb)
 (refine ay bu (fun x:Nat=>s.length-x) (fun x=>x<=s.length/\mB s x) (b0+16) (fun x=>[(0,.str s),(3,.int .i64 x)]) (fun x=>[]) (0) [] ?_ ?_ ?_ ?_;rotate_left 1;(focus (show b0<=_;omega));(focus (refine⟨?_,?_⟩<;>(try simp only[aM,ai,seval,ah,al])<;>(try omega)));rotate_left 1)
 ·exact⟨Nat.zero_le _,fun i c hi=>by omega⟩
 ·rintro k ⟨hk,hn⟩
  by_cases hlt:k<s.length
  ·obtain⟨c,hc⟩:∃ c,s[k]? = some c:=⟨_,List.getElem?_eq_getElem hlt⟩
   have hd:decide (k<s.length)=true:=decide_eq_true hlt
   have hwk:IntKind.i64.wrap ((k:Int)+1)=((k+1:Nat):Int):=aK
   have hle:=yb c
   have q8:((c.toNat:Int) != 46) = !decide (c=46):=congrArg not (cP c 46)
   have q9:((c.toNat:Int) != 45) = !decide (c=45):=congrArg not (cP c 45)
   have qz:=wK k
   generalize h1:xM c=l at hle
   generalize h2:decide ((c.toNat:Int)<48)=a
   generalize h3:decide ((57:Int)<c.toNat)=b
   generalize h8:decide (c=46)=p8
   generalize h9:decide (c=45)=p9
   have he:=Ba (f:=k==0) h1 h2 h3 h8 h9
   cases hp:iz (k==0) c with
   | false =>
    have hnf:=oA hc hp
    rw[hp]at he
    generalize hz:(k==0)=z at he qz
    rcases mM l z a b p8 p9 with rfl|⟨rfl,rfl⟩|⟨rfl,rfl,rfl,rfl⟩|⟨rfl,rfl,rfl,rfl,rfl⟩|⟨rfl,rfl,rfl,rfl,rfl⟩|⟨rfl,rfl,rfl,rfl,rfl⟩|⟨rfl,rfl,rfl,rfl,rfl,rfl⟩|⟨rfl,rfl,rfl,rfl,rfl,rfl⟩|⟨rfl,rfl,rfl,rfl⟩
    all_goals (try (exfalso;simp at he;done))
    all_goals ((repeat' first|simp only[aj,ag,zF,ap,hc,hd,hlt,hnf,q8,q9,qz,h2,h3,h8,h9,Bt,Bf,ai,seval,ah]|exact rfl|refine aa (v:=.any) ?_|(first|(refine ac ?_ (hle _) ?_)|(refine ab ?_ (fun _=>hle _) ?_))|((first|apply Ca|apply Cb)<;>intro hb)|refine Ai (by omega) ?_|(apply Ai<;>intro hb)|refine Fin.pure ?_ ?_ ?_|simp only[al]))
   | true =>
    have hn':=mC hn hc hp
    rw[hp]at he
    generalize hz:(k==0)=z at he qz
    rcases mM l z a b p8 p9 with rfl|⟨rfl,rfl⟩|⟨rfl,rfl,rfl,rfl⟩|⟨rfl,rfl,rfl,rfl,rfl⟩|⟨rfl,rfl,rfl,rfl,rfl⟩|⟨rfl,rfl,rfl,rfl,rfl⟩|⟨rfl,rfl,rfl,rfl,rfl,rfl⟩|⟨rfl,rfl,rfl,rfl,rfl,rfl⟩|⟨rfl,rfl,rfl,rfl⟩
    all_goals (try (exfalso;simp at he;done))
    all_goals (repeat' first|simp only[aj,ag,zF,ap,hc,hd,hlt,hwk,q8,q9,qz,h2,h3,h8,h9,Bt,Bf,ai,seval,ah]|exact rfl|refine aa (v:=.any) ?_|(first|(refine ac ?_ (hle _) ?_)|(refine ab ?_ (fun _=>hle _) ?_))|((first|apply Ca|apply Cb)<;>intro hb)|refine Ai (by omega) ?_|(apply Ai<;>intro hb))
    all_goals ((refine au bu (k+1) [] ?_ ?_ ?_ ?_;rotate_left 2;(focus (show b0<=_;omega));(focus (refine⟨?_,?_⟩<;>(try simp only[aM,hwk,ai,seval,ah,al])<;>(try omega)))))
    all_goals (first|(show s.length-(k+1)<s.length-k;omega)|exact⟨hlt,hn'⟩|skip)
  ·have hke:k=s.length:=by omega
   subst hke
   have hd:decide (s.length<s.length)=false:=aR
   by_cases hne:s=[]
   ·subst hne
    have hb:(([]:List UInt8)==[])=true:=rfl
    have e:cU []=false:=rfl
    (repeat' first|simp only[aj,ag,zF,ap,hd,hb,e,ai,seval,ah]|exact rfl|refine aa (v:=.any) ?_|((first|apply Ca|apply Cb)<;>intro hb)|refine Ai (by omega) ?_|(apply Ai<;>intro hb)|refine Fin.pure ?_ ?_ ?_|simp only[al])
   ·have hb:(s==[])=false:=beq_false_of_ne hne
    have e:=qy hne hn
    (repeat' first|simp only[aj,ag,zF,ap,hd,hb,e,ai,seval,ah]|exact rfl|refine aa (v:=.any) ?_|((first|apply Ca|apply Cb)<;>intro hb)|refine Ai (by omega) ?_|(apply Ai<;>intro hb)|refine Fin.pure ?_ ?_ ?_|simp only[al])
def yV {s:List UInt8}(h:s≠[]):s.isEmpty=false:=by cases s with|nil=>exact absurd rfl h|cons=>rfl
def mz (s:List UInt8)(hs:s.length<=aS)(nm:Nat):Ev cx 123 nm [.str s] am.nil (.bool (cU s)) []:=by
 unfold aS at hs
 have hb:(s==[])=s.isEmpty:=by cases s<;>rfl
 refine aV call123 func123 rfl (by kernel_rfl) rfl ?_;intro b0 hb0;have zF:=Ai results123 ntmps123
 repeat' first|simp only[aj,ag,zF,ap,hb,ai,seval,ah]|exact rfl|refine aa (v:=.any) ?_|((first|apply Ca|apply Cb)<;>intro hb)|refine Ai (by omega) ?_|(apply Ai<;>intro hb)
 (refine ay bu (fun x:Nat=>s.length-x) (fun x=>x<=s.length/\mB s x) (b0+16) (fun x=>[(0,.str s),(3,.bool (!s.isEmpty)),(8,.int .i64 s.length),(9,.int .i64 x)]) (fun x=>[]) (0) [] ?_ ?_ ?_ ?_;rotate_left 1;(focus (show b0<=_;omega));(focus (refine⟨?_,?_⟩<;>(try simp only[aM,ai,seval,ah,al])<;>(try omega)));rotate_left 1)
 ·exact⟨Nat.zero_le _,fun i c hi=>by omega⟩
 ·rintro k ⟨hk,hn⟩
  by_cases hlt:k<s.length
  ·obtain⟨c,hc⟩:∃ c,s[k]? = some c:=⟨_,List.getElem?_eq_getElem hlt⟩
   have hne:s≠[]:=by rintro rfl;simp at hlt
   have hie:=yV hne
   have hd:decide (k<s.length)=true:=decide_eq_true hlt
   have hwk:IntKind.i64.wrap ((k:Int)+1)=((k+1:Nat):Int):=aK
   have hle:=GW c (k==0)
   have qz:=wK k
   cases hp:iz (k==0) c with
   | false =>
    have hnf:=oA hc hp
    rw[hp]at hle
    (repeat' first|simp only[aj,ag,zF,ap,hc,hd,hlt,hie,hnf,qz,ai,seval,ah]|exact rfl|refine aa (v:=.any) ?_|(first|(refine ac ?_ (hle _) ?_)|(refine ab ?_ (fun _=>hle _) ?_))|((first|apply Ca|apply Cb)<;>intro hb)|refine Ai (by omega) ?_|(apply Ai<;>intro hb)|refine Fin.pure ?_ ?_ ?_|simp only[al])
   | true =>
    have hn':=mC hn hc hp
    rw[hp]at hle
    repeat' first|simp only[aj,ag,zF,ap,hc,hd,hlt,hwk,hie,qz,ai,seval,ah]|exact rfl|refine aa (v:=.any) ?_|(first|(refine ac ?_ (hle _) ?_)|(refine ab ?_ (fun _=>hle _) ?_))|((first|apply Ca|apply Cb)<;>intro hb)|refine Ai (by omega) ?_|(apply Ai<;>intro hb)
    all_goals ((refine au bu (k+1) [] ?_ ?_ ?_ ?_;rotate_left 2;(focus (show b0<=_;omega));(focus (refine⟨?_,?_⟩<;>(try simp only[aM,hwk,hie,ai,seval,ah,al])<;>(try omega)))))
    all_goals (first|(show s.length-(k+1)<s.length-k;omega)|exact⟨hlt,hn'⟩|skip)
  ·have hke:k=s.length:=by omega
   subst hke
   have hd:decide (s.length<s.length)=false:=aR
   by_cases hne:s=[]
   ·subst hne
    have e:cU []=false:=rfl
    (repeat' first|simp only[aj,ag,zF,ap,hd,List.isEmpty_nil,e,ai,seval,ah]|exact rfl|refine aa (v:=.any) ?_|((first|apply Ca|apply Cb)<;>intro hb)|refine Ai (by omega) ?_|(apply Ai<;>intro hb)|refine Fin.pure ?_ ?_ ?_|simp only[al])
   ·have hie:=yV hne
    have e:=qy hne hn
    (repeat' first|simp only[aj,ag,zF,ap,hd,hie,e,ai,seval,ah]|exact rfl|refine aa (v:=.any) ?_|((first|apply Ca|apply Cb)<;>intro hb)|refine Ai (by omega) ?_|(apply Ai<;>intro hb)|refine Fin.pure ?_ ?_ ?_|simp only[al])
def mg (s:List UInt8)(hs:s.length<=aS)(nm:Nat):Ev cx 131 nm [.str s] am.nil (.bool (bC s)) []:=by
 have hev:=HZ s 58 hs
 cases hc:eA 58 s with
 | none =>
  have ev:l6 58 s = .tup [.str s,.str [],.bool false]:=by unfold l6;rw[hc]
  have hf:bC s=cU s:=by unfold bC;rw[hc]
  have hn:=mz s hs
  rw[ev]at hev
  rw[hf]
  cases h:cU s<;>rw[h]at hn<;>(
   refine aV call131 func131 rfl (by kernel_rfl) rfl ?_;intro b0 hb0
   (repeat' first|simp only[aj,ag,results131,ntmps131,ap,ai,seval,ah]|exact rfl|refine aa (v:=.any) ?_|(first|(refine ac ?_ (hev _) ?_)|(refine ab ?_ (fun _=>hev _) ?_)|(refine ac ?_ (hn _) ?_)|(refine ab ?_ (fun _=>hn _) ?_))|(refine aa (v:=.any) ?_)|((first|apply Ca|apply Cb)<;>intro hb)|refine Ai (by omega) ?_|(apply Ai<;>intro hb)|refine Fin.pure ?_ ?_ ?_|simp only[al]))
 | some p =>
  obtain⟨a,b⟩:=p
  obtain⟨_,_,_,e3⟩:=jX hc
  have ev:l6 58 s = .tup [.str a,.str b,.bool true]:=by unfold l6;rw[hc]
  have hf:bC s=(cU a&&cU b):=by unfold bC;rw[hc]
  have hn1:=mz a (by omega)
  have hn2:=mz b (by omega)
  rw[ev]at hev
  rw[hf]
  cases h1:cU a<;>rw[h1]at hn1<;>(
   refine aV call131 func131 rfl (by kernel_rfl) rfl ?_;intro b0 hb0
   (repeat' first|simp only[aj,ag,results131,ntmps131,ap,ai,seval,ah]|exact rfl|refine aa (v:=.any) ?_|((first|(refine ac ?_ (hn1 _) ?_)|(refine ab ?_ (fun _=>hn1 _) ?_));(focus (simp only[results131,ntmps131,ap,ai,seval,ah]<;>exact rfl)))|((first|(refine ac ?_ (hn2 _) ?_)|(refine ab ?_ (fun _=>hn2 _) ?_));(focus (simp only[results131,ntmps131,ap,ai,seval,ah]<;>exact rfl)))|(first|(refine ac ?_ (hev _) ?_)|(refine ab ?_ (fun _=>hev _) ?_))|(refine aa (v:=.any) ?_)|((first|apply Ca|apply Cb)<;>intro hb)|refine Ai (by omega) ?_|(apply Ai<;>intro hb)|refine Fin.pure ?_ ?_ ?_|simp only[al]))
def cM (d:UInt8)(s:List UInt8):V:=match eA d s with
 | none=>.tup [.str [],.str s,.bool false]
 | some (a,b)=>.tup [.str a,.str b,.bool true]
def xV {d:UInt8}{s:List UInt8}{k:Nat}{c:UInt8}(h:d ∉ s.take k)(hc:s[k]? = some c)(hne:c≠d):d ∉ s.take (k+1):=by
 obtain⟨hk,rfl⟩:=List.getElem?_eq_some_iff.1 hc
 rw[List.take_succ_eq_append_getElem hk]
 simp only[List.mem_append,List.mem_singleton,not_or]
 exact⟨h,fun e=>hne e.symm⟩
def Bk (s:List UInt8)(hs:s.length<=aS)(nm:Nat):Ev cx 141 nm [.str s] am.nil (cM 58 s) []:=by
 unfold aS at hs
 refine aV call141 func141 rfl (by kernel_rfl) rfl ?_;intro b0 hb0;have zF:=Ai results141 ntmps141
 repeat' first|simp only[aj,ag,zF,ap,ai,seval,ah]|exact rfl|refine aa (v:=.any) ?_|refine ao (by decide +kernel) ?_|((first|apply Ca|apply Cb)<;>intro hb)|refine Ai (by omega) ?_|(apply Ai<;>intro hb)
 (refine ay bu (fun x:Nat=>s.length-x) (fun x=>x<=s.length/\(58:UInt8) ∉ s.take x) (b0+16) (fun x=>[(0,.str s),(5,.int .i64 x)]) (fun x=>[]) (0) [] ?_ ?_ ?_ ?_;rotate_left 1;(focus (show b0<=_;omega));(focus (refine⟨?_,?_⟩<;>(try simp only[aM,ai,seval,ah,al])<;>(try omega)));rotate_left 1)
 ·exact⟨Nat.zero_le _,by simp⟩
 ·rintro k ⟨hk,hn⟩
  by_cases hlt:k<s.length
  ·obtain⟨c,hc⟩:∃ c,s[k]? = some c:=⟨_,List.getElem?_eq_getElem hlt⟩
   have hd:decide (k<s.length)=true:=decide_eq_true hlt
   have hwk:IntKind.i64.wrap ((k:Int)+1)=((k+1:Nat):Int):=aK
   have q8:((c.toNat:Int)==58)=decide (c=58):=cP c 58
   by_cases h8:c=58
   ·have h8':decide (c=58)=true:=decide_eq_true h8
    subst h8
    have ev:cM 58 s = .tup [.str (s.take k),.str (s.drop (k+1)),.bool true]:=by unfold cM;rw[yQ hn hc]
    have h3:((k+1:Nat):Int)<=s.length:=by omega
    have h5:k+1<=s.length:=by omega
    (repeat' first|simp only[aj,ag,zF,ap,hc,hd,hlt,hwk,q8,h8',ev,h3,h5,hk,ai,seval,ah]|exact rfl|refine aa (v:=.any) ?_|refine ao (by decide +kernel) ?_|((first|apply Ca|apply Cb)<;>intro hb)|refine Ai (by omega) ?_|(apply Ai<;>intro hb)|refine Fin.pure ?_ ?_ ?_|simp only[al])
   ·have h8':decide (c=58)=false:=decide_eq_false h8
    repeat' first|simp only[aj,ag,zF,ap,hc,hd,hlt,hwk,q8,h8',ai,seval,ah]|exact rfl|refine aa (v:=.any) ?_|refine ao (by decide +kernel) ?_|((first|apply Ca|apply Cb)<;>intro hb)|refine Ai (by omega) ?_|(apply Ai<;>intro hb)
    all_goals ((refine au bu (k+1) [] ?_ ?_ ?_ ?_;rotate_left 2;(focus (show b0<=_;omega));(focus (refine⟨?_,?_⟩<;>(try simp only[aM,hwk,ai,seval,ah,al])<;>(try omega)))))
    all_goals (first|(show s.length-(k+1)<s.length-k;omega)|exact⟨hlt,xV hn hc h8⟩|skip)
  ·have hke:k=s.length:=by omega
   subst hke
   rw[List.take_length]at hn
   have hd:decide (s.length<s.length)=false:=aR
   have ev:cM 58 s = .tup [.str [],.str s,.bool false]:=by unfold cM;rw[nd.2 hn]
   (repeat' first|simp only[aj,ag,zF,ap,hd,ev,ai,seval,ah]|exact rfl|refine aa (v:=.any) ?_|refine ao (by decide +kernel) ?_|((first|apply Ca|apply Cb)<;>intro hb)|refine Ai (by omega) ?_|(apply Ai<;>intro hb)|refine Fin.pure ?_ ?_ ?_|simp only[al])
def mL (s:List UInt8)(hs:s.length<=aS)(nm:Nat):Ev cx 96 nm [.str s] am.nil (.bool (bC s)) []:=by
 have hev:=Bk s hs
 cases hc:eA 58 s with
 | none =>
  have ev:cM 58 s = .tup [.str [],.str s,.bool false]:=by unfold cM;rw[hc]
  have hf:bC s=cU s:=by unfold bC;rw[hc]
  have hn:=j9 s hs
  rw[ev]at hev
  rw[hf]
  cases h:cU s<;>rw[h]at hn<;>(
   refine aV call96 func96 rfl (by kernel_rfl) rfl ?_;intro b0 hb0
   (repeat' first|simp only[aj,ag,results96,ntmps96,ap,ai,seval,ah]|exact rfl|refine aa (v:=.any) ?_|(first|(refine ac ?_ (hev _) ?_)|(refine ab ?_ (fun _=>hev _) ?_)|(refine ac ?_ (hn _) ?_)|(refine ab ?_ (fun _=>hn _) ?_))|(refine aa (v:=.any) ?_)|((first|apply Ca|apply Cb)<;>intro hb)|refine Ai (by omega) ?_|(apply Ai<;>intro hb)|refine Fin.pure ?_ ?_ ?_|simp only[al]))
 | some p =>
  obtain⟨a,b⟩:=p
  obtain⟨_,_,_,e3⟩:=jX hc
  have ev:cM 58 s = .tup [.str a,.str b,.bool true]:=by unfold cM;rw[hc]
  have hf:bC s=(cU b&&cU a):=by unfold bC;rw[hc,Bool.and_comm]
  have hn1:=j9 a (by omega)
  have hn2:=j9 b (by omega)
  rw[ev]at hev
  rw[hf]
  cases h1:cU b<;>rw[h1]at hn2<;>(
   refine aV call96 func96 rfl (by kernel_rfl) rfl ?_;intro b0 hb0
   (repeat' first|simp only[aj,ag,results96,ntmps96,ap,ai,seval,ah]|exact rfl|refine aa (v:=.any) ?_|((first|(refine ac ?_ (hn1 _) ?_)|(refine ab ?_ (fun _=>hn1 _) ?_));(focus (simp only[results96,ntmps96,ap,ai,seval,ah]<;>exact rfl)))|((first|(refine ac ?_ (hn2 _) ?_)|(refine ab ?_ (fun _=>hn2 _) ?_));(focus (simp only[results96,ntmps96,ap,ai,seval,ah]<;>exact rfl)))|(first|(refine ac ?_ (hev _) ?_)|(refine ab ?_ (fun _=>hev _) ?_))|(refine aa (v:=.any) ?_)|((first|apply Ca|apply Cb)<;>intro hb)|refine Ai (by omega) ?_|(apply Ai<;>intro hb)|refine Fin.pure ?_ ?_ ?_|simp only[al]))
def eh (a:Pr):List V:=[.str a.name,.str a.value]
def bv (t:Tk):List V:=[.int .u8 t.kind,.str t.name,.sl false 2 (t.attrs.map eh),.str t.text]
def wa {l:List Pr}{k:Nat}{a:Pr}(h:l[k]? = some a):(l.map eh)[k]? = some (eh a):=by rw[List.getElem?_map,h];rfl
def qV {l:List Tk}{k:Nat}{a:Tk}(h:l[k]? = some a):(l.map bv)[k]? = some (bv a):=by rw[List.getElem?_map,h];rfl
def ax (l:List Pr):plainLL (l.map eh)=true:=bR _ (fun _=>rfl) l
def aF (l:List Tk):plainLL (l.map bv)=true:=bR _ (fun t=>by simp[bv,plainL,V.plain,ax]) l
def dH {α:Type}{p:α->Bool}{l:List α}{k:Nat}{x:α}(h:(l.take k).any p=false)(hc:l[k]? = some x)(hx:p x=false):(l.take (k+1)).any p=false:=by
 obtain⟨hk,rfl⟩:=List.getElem?_eq_some_iff.1 hc
 rw[List.take_succ_eq_append_getElem hk,List.any_append,h]
 simp[hx]
def Io (l:List Pr)(s:List UInt8)(hl:l.length<=aS)(nm:Nat):Ev cx 142 nm [.sl false 2 (l.map eh),.str s] am.nil (.bool (l.any fun b=>s==b.name)) []:=by
 unfold aS at hl
 refine aV call142 func142 rfl (by kernel_rfl) rfl ?_;intro b0 hb0;have zF:=Ai results142 ntmps142
 repeat' first|simp only[aj,ag,zF,ap,ai,seval,ah]|exact rfl|refine aa (v:=.any) ?_|((first|apply Ca|apply Cb)<;>intro hb)|refine Ai (by omega) ?_|(apply Ai<;>intro hb)
 (refine ay bu (fun x:Nat=>l.length-x) (fun x=>x<=l.length/\((l.take x).any fun b=>s==b.name)=false) (b0+16) (fun x=>[(0,.sl false 2 (l.map eh)),(1,.str s),(5,.int .i64 x)]) (fun x=>[]) (0) [] ?_ ?_ ?_ ?_;rotate_left 1;(focus (show b0<=_;omega));(focus (refine⟨?_,?_⟩<;>(try simp only[aM,ax,ai,seval,ah,al])<;>(try omega)));rotate_left 1)
 ·exact⟨Nat.zero_le _,by simp⟩
 ·rintro k ⟨hk,hn⟩
  by_cases hlt:k<l.length
  ·obtain⟨a,ha⟩:∃ a,l[k]? = some a:=⟨_,List.getElem?_eq_getElem hlt⟩
   have hat:=wa ha
   have hd:decide (k<l.length)=true:=decide_eq_true hlt
   have hwk:IntKind.i64.wrap ((k:Int)+1)=((k+1:Nat):Int):=aK
   cases hp:(a.name==s) with
   | true =>
    have hr:(l.any fun b=>s==b.name)=true:=List.any_eq_true.2 ⟨a,List.mem_of_getElem? ha,by rw[beq_iff_eq]at hp ⊢;exact hp.symm⟩
    (repeat' first|simp only[aj,ag,zF,ap,hat,eh,hd,hlt,hp,hr,Lm,ai,seval,ah]|exact rfl|refine aa (v:=.any) ?_|((first|apply Ca|apply Cb)<;>intro hb)|refine Ai (by omega) ?_|(apply Ai<;>intro hb)|refine Fin.pure ?_ ?_ ?_|simp only[al])
   | false =>
    have hx:(s==a.name)=false:=by
     rw[beq_eq_false_iff_ne]at hp ⊢;exact fun e=>hp e.symm
    have hn':=dH (p:=fun b:Pr=>s==b.name) hn ha hx
    repeat' first|simp only[aj,ag,zF,ap,hat,eh,hd,hlt,hp,hwk,Lm,ai,seval,ah]|exact rfl|refine aa (v:=.any) ?_|((first|apply Ca|apply Cb)<;>intro hb)|refine Ai (by omega) ?_|(apply Ai<;>intro hb)
    all_goals ((refine au bu (k+1) [] ?_ ?_ ?_ ?_;rotate_left 2;(focus (show b0<=_;omega));(focus (refine⟨?_,?_⟩<;>(try simp only[aM,ax,hwk,ai,seval,ah,al])<;>(try omega)))))
    all_goals (first|(show l.length-(k+1)<l.length-k;omega)|exact⟨hlt,hn'⟩|skip)
  ·have hke:k=l.length:=by omega
   subst hke
   rw[List.take_length]at hn
   have hd:decide (l.length<l.length)=false:=aR
   (repeat' first|simp only[aj,ag,zF,ap,hd,hn,Lm,ai,seval,ah]|exact rfl|refine aa (v:=.any) ?_|((first|apply Ca|apply Cb)<;>intro hb)|refine Ai (by omega) ?_|(apply Ai<;>intro hb)|refine Fin.pure ?_ ?_ ?_|simp only[al])
def lS {l:List Pr}{k:Nat}{a:Pr}(h:fC l k)(ha:l[k]? = some a)(ho:Fj (l.take k) a=true):fC l (k+1):=by
 intro i b hi hb
 by_cases e:i=k
 ·subst e;rw[ha]at hb;cases hb;exact ho
 ·exact h i b (by omega) hb
def oa {l:List Pr}{k:Nat}{a:Pr}(ha:l[k]? = some a)(ho:Fj (l.take k) a=false):dV l=false:=by
 cases h:dV l with
 | false=>rfl
 | true =>
  have:=(dO.1 h).2 k a (List.getElem?_eq_some_iff.1 ha).1 ha
  rw[ho]at this;cases this
def GB {z:Int}(h0:0<=z)(h:z<128):encodeRune z=[z.toNat.toUInt8]:=by
 have key:∀ n:Fin 128,encodeRune (n.val:Int)=[(n.val:Int).toNat.toUInt8]:=by decide +kernel
 have:=key ⟨z.toNat,by omega⟩
 have e:((z.toNat:Nat):Int)=z:=by omega
 simpa only[e] using this
end Go.Proofs.YtlnlopnpcmahgaaGreatDoor
