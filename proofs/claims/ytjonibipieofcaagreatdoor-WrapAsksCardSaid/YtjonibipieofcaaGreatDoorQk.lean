/-
 Texts joined: XEl,XEm,XLt,XNc,XNd,XNe,XNf.
-/
import Derived.Test.YtjonibipieofcaaGreatDoorQj
set_option linter.all false
namespace Go.Proofs.YtjonibipieofcaaGreatDoor
set_option maxRecDepth 100000
set_option maxHeartbeats 32000000
open Go Go.RowKit Vm Go.Lib Tryz
open Vm renaming aI->Ca,aP->Cb
open And renaming intro->Ai
open List renaming length_map->Lm,not_mem_nil->Ln,map_nil->Lo,map_cons->Lc,mem_cons->Lk
open Bool renaming not_false->Bf,not_true->Bt
def oT:∀ l z a b p8 p9:Bool,(l=true)\/(l=false/\z=true)\/(l=false/\z=false/\a=true/\p8=true)\/(l=false/\z=false/\a=true/\p8=false/\p9=true)\/(l=false/\z=false/\a=true/\p8=false/\p9=false) \/
  (l=false/\z=false/\a=false/\b=true/\p8=true)\/(l=false/\z=false/\a=false/\b=true/\p8=false/\p9=true)\/(l=false/\z=false/\a=false/\b=true/\p8=false/\p9=false)\/(l=false/\z=false/\a=false/\b=false):=by
 intro l z a b p8 p9;cases l<;>cases z<;>cases a<;>cases b<;>cases p8<;>cases p9<;>simp
def D7 {c:UInt8}{f l a b p8 p9:Bool}(h1:AG c=l)(h2:decide ((c.toNat:Int)<48)=a)(h3:decide ((57:Int)<c.toNat)=b)(h8:decide (c=46)=p8)(h9:decide (c=45)=p9):jX f c=(l||(!f&&((!a && !b)||p8||p9))):=by
 unfold jX
 rw[h1,<- h2,<- h3,<- h8,<- h9]
 have e1:decide (48<=c.toNat) = !decide ((c.toNat:Int)<48):=by rw[Bool.eq_iff_iff];simp;omega
 have e2:decide (c.toNat<=57) = !decide ((57:Int)<c.toNat):=by rw[Bool.eq_iff_iff];simp;omega
 rw[e1,e2]
def oL {s:List UInt8}{k:Nat}{c:UInt8}(h:oK s k)(hc:s[k]? = some c)(hp:jX (k==0) c=true):oK s (k+1):=by
 intro i x hi hx
 by_cases e:i=k
 ·subst e;rw[hc]at hx;cases hx;exact hp
 ·exact h i x (by omega) hx
def zw (k:Nat):((k:Int)==0)=(k==0):=by
 rw[Bool.eq_iff_iff,beq_iff_eq,beq_iff_eq];omega
def lY (s:List UInt8)(hs:s.length<=aT)(nm:Nat):Ev cx 94 nm [.str s] ao.nil (.bool (dG s)) []:=by
 unfold aT at hs
 refine aX call94 func94 ?_;intro b0 hb0
 refine wR (a2 results94 ntmps94) trivial ?_
 (refine ew (fun x:Nat=>s.length-x) (fun x=>x<=s.length/\oK s x) (b0+16) (fun x=>[(0,.str s),(3,.int .i64 x)]) (fun x=>[]) (0) [] ?_ ?_ ?_;(focus (refine⟨?_,?_⟩<;>(try simp only[aE,aj,ai,aq,seval])<;>(try omega))))
 ·exact⟨Nat.zero_le _,fun i c hi=>by omega⟩
 ·rintro k ⟨hk,hn⟩
  by_cases hlt:k<s.length
  ·obtain⟨c,hc⟩:=ic hlt
   have hd:=decide_eq_true hlt
   have hwk:=eD k
   have hle:=A4 c
   have q8:((c.toNat:Int) != 46) = !decide (c=46):=congrArg not (dy c 46)
   have q9:((c.toNat:Int) != 45) = !decide (c=45):=congrArg not (dy c 45)
   have qz:=zw k
   generalize h1:AG c=l at hle
   generalize h2:decide ((c.toNat:Int)<48)=a
   generalize h3:decide ((57:Int)<c.toNat)=b
   generalize h8:decide (c=46)=p8
   generalize h9:decide (c=45)=p9
   have he:=D7 (f:=k==0) h1 h2 h3 h8 h9
   cases hp:jX (k==0) c with
   | false =>
    have hnf:=qv hc hp
    rw[hp]at he
    generalize hz:(k==0)=z at he qz
    rcases oT l z a b p8 p9 with rfl|⟨rfl,rfl⟩|⟨rfl,rfl,rfl,rfl⟩|⟨rfl,rfl,rfl,rfl,rfl⟩|⟨rfl,rfl,rfl,rfl,rfl⟩|⟨rfl,rfl,rfl,rfl,rfl⟩|⟨rfl,rfl,rfl,rfl,rfl,rfl⟩|⟨rfl,rfl,rfl,rfl,rfl,rfl⟩|⟨rfl,rfl,rfl,rfl⟩
    all_goals (try (exfalso;simp at he;done))
    all_goals (exact wP (a5 results94 ntmps94 hc hd (a9 hlt hnf q8 q9 qz h2 h3 h8 h9)) hle)
   | true =>
    have hn':=oL hn hc hp
    rw[hp]at he
    generalize hz:(k==0)=z at he qz
    rcases oT l z a b p8 p9 with rfl|⟨rfl,rfl⟩|⟨rfl,rfl,rfl,rfl⟩|⟨rfl,rfl,rfl,rfl,rfl⟩|⟨rfl,rfl,rfl,rfl,rfl⟩|⟨rfl,rfl,rfl,rfl,rfl⟩|⟨rfl,rfl,rfl,rfl,rfl,rfl⟩|⟨rfl,rfl,rfl,rfl,rfl,rfl⟩|⟨rfl,rfl,rfl,rfl⟩
    all_goals (try (exfalso;simp at he;done))
    all_goals (refine wR (a5 results94 ntmps94 hc hd (a9 hlt hwk q8 q9 qz h2 h3 h8 h9)) hle ?_)
    all_goals ((refine de (k+1) [] ?_ ?_ ?_;(focus (refine⟨?_,?_⟩<;>(try simp only[aE,hwk,aj,ai,aq,seval])<;>(try omega)))))
    all_goals (first|(show s.length-(k+1)<s.length-k;omega)|exact⟨hlt,hn'⟩|skip)
  ·have hke:k=s.length:=by omega
   subst hke
   have hd:decide (s.length<s.length)=false:=bi
   by_cases hne:s=[]
   ·subst hne
    have hb:(([]:List UInt8)==[])=true:=rfl
    have e:dG []=false:=rfl
    exact wP (a5 results94 ntmps94 hd hb e) trivial
   ·have hb:(s==[])=false:=beq_false_of_ne hne
    have e:=sN hne hn
    exact wP (a5 results94 ntmps94 hd hb e) trivial
def BT {s:List UInt8}(h:s≠[]):s.isEmpty=false:=by cases s with|nil=>exact absurd rfl h|cons=>rfl
def oJ (s:List UInt8)(hs:s.length<=aT)(nm:Nat):Ev cx 61 nm [.str s] ao.nil (.bool (dG s)) []:=by
 unfold aT at hs
 have hb:(s==[])=s.isEmpty:=by cases s<;>rfl
 refine aX call61 func61 ?_;intro b0 hb0;have zF:=Ai results61 ntmps61
 repeat' first|simp only[au,ap,zF,am,hb,aj,ai,seval]|exact rfl|refine aa (v:=.any) ?_|((first|apply Ca|apply Cb)<;>intro hb)|refine Ai (by omega) ?_|(apply Ai<;>intro hb)
 (refine ew (fun x:Nat=>s.length-x) (fun x=>x<=s.length/\oK s x) (b0+16) (fun x=>[(0,.str s),(3,.bool (!s.isEmpty)),(8,.int .i64 s.length),(9,.int .i64 x)]) (fun x=>[]) (0) [] ?_ ?_ ?_;(focus (refine⟨?_,?_⟩<;>(try simp only[aE,aj,ai,aq,seval])<;>(try omega))))
 ·exact⟨Nat.zero_le _,fun i c hi=>by omega⟩
 ·rintro k ⟨hk,hn⟩
  by_cases hlt:k<s.length
  ·obtain⟨c,hc⟩:=ic hlt
   have hne:s≠[]:=by rintro rfl;simp at hlt
   have hie:=BT hne
   have hd:=decide_eq_true hlt
   have hwk:=eD k
   have hle:=Kx c (k==0)
   have qz:=zw k
   cases hp:jX (k==0) c with
   | false =>
    have hnf:=qv hc hp
    rw[hp]at hle
    (repeat' first|simp only[au,ap,zF,am,hc,hd,hlt,hie,hnf,qz,aj,ai,seval]|exact rfl|refine aa (v:=.any) ?_|(first|(refine ah ?_ (hle _) ?_)|(refine ac ?_ (fun _=>hle _) ?_))|((first|apply Ca|apply Cb)<;>intro hb)|refine Ai (by omega) ?_|(apply Ai<;>intro hb)|apply Fin.pure|simp only[aq])
   | true =>
    have hn':=oL hn hc hp
    rw[hp]at hle
    repeat' first|simp only[au,ap,zF,am,hc,hd,hlt,hwk,hie,qz,aj,ai,seval]|exact rfl|refine aa (v:=.any) ?_|(first|(refine ah ?_ (hle _) ?_)|(refine ac ?_ (fun _=>hle _) ?_))|((first|apply Ca|apply Cb)<;>intro hb)|refine Ai (by omega) ?_|(apply Ai<;>intro hb)
    all_goals ((refine de (k+1) [] ?_ ?_ ?_;(focus (refine⟨?_,?_⟩<;>(try simp only[aE,hwk,hie,aj,ai,aq,seval])<;>(try omega)))))
    all_goals (first|(show s.length-(k+1)<s.length-k;omega)|exact⟨hlt,hn'⟩|skip)
  ·have hke:k=s.length:=by omega
   subst hke
   have hd:decide (s.length<s.length)=false:=bi
   by_cases hne:s=[]
   ·subst hne
    have e:dG []=false:=rfl
    (repeat' first|simp only[au,ap,zF,am,hd,List.isEmpty_nil,e,aj,ai,seval]|exact rfl|refine aa (v:=.any) ?_|((first|apply Ca|apply Cb)<;>intro hb)|refine Ai (by omega) ?_|(apply Ai<;>intro hb)|apply Fin.pure|simp only[aq])
   ·have hie:=BT hne
    have e:=sN hne hn
    (repeat' first|simp only[au,ap,zF,am,hd,hie,e,aj,ai,seval]|exact rfl|refine aa (v:=.any) ?_|((first|apply Ca|apply Cb)<;>intro hb)|refine Ai (by omega) ?_|(apply Ai<;>intro hb)|apply Fin.pure|simp only[aq])
def ou (s:List UInt8)(hs:s.length<=aT)(nm:Nat):Ev cx 85 nm [.str s] ao.nil (.bool (bU s)) []:=by
 have hev:=L0 s 58 hs
 cases hc:fA 58 s with
 | none =>
  have ev:oa 58 s = .tup [.str s,.str [],.bool false]:=by unfold oa;rw[hc]
  have hf:bU s=dG s:=by unfold bU;rw[hc]
  have hn:=oJ s hs
  rw[ev]at hev
  rw[hf]
  cases h:dG s<;>rw[h]at hn<;>(
   refine aX call85 func85 ?_;intro b0 hb0
   (repeat' first|simp only[au,ap,results85,ntmps85,am,aj,ai,seval]|exact rfl|refine aa (v:=.any) ?_|(first|(refine ah ?_ (hev _) ?_)|(refine ac ?_ (fun _=>hev _) ?_)|(refine ah ?_ (hn _) ?_)|(refine ac ?_ (fun _=>hn _) ?_))|(refine aa (v:=.any) ?_)|((first|apply Ca|apply Cb)<;>intro hb)|refine Ai (by omega) ?_|(apply Ai<;>intro hb)|apply Fin.pure|simp only[aq]))
 | some p =>
  obtain⟨a,b⟩:=p
  obtain⟨_,_,_,e3⟩:=lL hc
  have ev:oa 58 s = .tup [.str a,.str b,.bool true]:=by unfold oa;rw[hc]
  have hf:bU s=(dG a&&dG b):=by unfold bU;rw[hc]
  have hn1:=oJ a (by omega)
  have hn2:=oJ b (by omega)
  rw[ev]at hev
  rw[hf]
  cases h1:dG a<;>rw[h1]at hn1<;>(
   refine aX call85 func85 ?_;intro b0 hb0
   (repeat' first|simp only[au,ap,results85,ntmps85,am,aj,ai,seval]|exact rfl|refine aa (v:=.any) ?_|((first|(refine ah ?_ (hn1 _) ?_)|(refine ac ?_ (fun _=>hn1 _) ?_));(focus (simp only[results85,ntmps85,am,aj,ai,seval]<;>exact rfl)))|((first|(refine ah ?_ (hn2 _) ?_)|(refine ac ?_ (fun _=>hn2 _) ?_));(focus (simp only[results85,ntmps85,am,aj,ai,seval]<;>exact rfl)))|(first|(refine ah ?_ (hev _) ?_)|(refine ac ?_ (fun _=>hev _) ?_))|(refine aa (v:=.any) ?_)|((first|apply Ca|apply Cb)<;>intro hb)|refine Ai (by omega) ?_|(apply Ai<;>intro hb)|apply Fin.pure|simp only[aq]))
def dq (d:UInt8)(s:List UInt8):V:=match fA d s with
 | none=>.tup [.str [],.str s,.bool false]
 | some (a,b)=>.tup [.str a,.str b,.bool true]
def AO {d:UInt8}{s:List UInt8}{k:Nat}{c:UInt8}(h:d ∉ s.take k)(hc:s[k]? = some c)(hne:c≠d):d ∉ s.take (k+1):=by
 obtain⟨hk,rfl⟩:=List.getElem?_eq_some_iff.1 hc
 rw[List.take_succ_eq_append_getElem hk]
 simp only[List.mem_append,List.mem_singleton,not_or]
 exact⟨h,fun e=>hne e.symm⟩
def Ej (s:List UInt8)(hs:s.length<=aT)(nm:Nat):Ev cx 140 nm [.str s] ao.nil (dq 58 s) []:=by
 unfold aT at hs
 refine aX call140 func140 ?_;intro b0 hb0
 refine wR (a2 results140 ntmps140) trivial ?_
 (refine ew (fun x:Nat=>s.length-x) (fun x=>x<=s.length/\(58:UInt8) ∉ s.take x) (b0+16) (fun x=>[(0,.str s),(5,.int .i64 x)]) (fun x=>[]) (0) [] ?_ ?_ ?_;(focus (refine⟨?_,?_⟩<;>(try simp only[aE,aj,ai,aq,seval])<;>(try omega))))
 ·exact⟨Nat.zero_le _,by simp⟩
 ·rintro k ⟨hk,hn⟩
  by_cases hlt:k<s.length
  ·obtain⟨c,hc⟩:=ic hlt
   have hd:=decide_eq_true hlt
   have hwk:=eD k
   have q8:((c.toNat:Int)==58)=decide (c=58):=dy c 58
   by_cases h8:c=58
   ·have h8':decide (c=58)=true:=decide_eq_true h8
    subst h8
    have ev:dq 58 s = .tup [.str (s.take k),.str (s.drop (k+1)),.bool true]:=by unfold dq;rw[BO hn hc]
    have h3:((k+1:Nat):Int)<=s.length:=by omega
    have h5:k+1<=s.length:=by omega
    exact wP (a4 results140 ntmps140 hc (a9 hd hlt hwk q8 h8' ev h3 h5 hk)) trivial
   ·have h8':decide (c=58)=false:=decide_eq_false h8
    refine wR (a8 results140 ntmps140 hc hd hlt hwk q8 h8') trivial ?_
    all_goals ((refine de (k+1) [] ?_ ?_ ?_;(focus (refine⟨?_,?_⟩<;>(try simp only[aE,hwk,aj,ai,aq,seval])<;>(try omega)))))
    all_goals (first|(show s.length-(k+1)<s.length-k;omega)|exact⟨hlt,AO hn hc h8⟩|skip)
  ·have hke:k=s.length:=by omega
   subst hke
   rw[List.take_length]at hn
   have hd:decide (s.length<s.length)=false:=bi
   have ev:dq 58 s = .tup [.str [],.str s,.bool false]:=by unfold dq;rw[po.2 hn]
   exact wP (a4 results140 ntmps140 hd ev) trivial
def oR (s:List UInt8)(hs:s.length<=aT)(nm:Nat):Ev cx 98 nm [.str s] ao.nil (.bool (bU s)) []:=by
 have hev:=Ej s hs
 cases hc:fA 58 s with
 | none =>
  have ev:dq 58 s = .tup [.str [],.str s,.bool false]:=by unfold dq;rw[hc]
  have hf:bU s=dG s:=by unfold bU;rw[hc]
  have hn:=lY s hs
  rw[ev]at hev
  rw[hf]
  cases h:dG s<;>rw[h]at hn<;>(
   refine aX call98 func98 ?_;intro b0 hb0
   (repeat' first|simp only[au,ap,results98,ntmps98,am,aj,ai,seval]|exact rfl|refine aa (v:=.any) ?_|(first|(refine ah ?_ (hev _) ?_)|(refine ac ?_ (fun _=>hev _) ?_)|(refine ah ?_ (hn _) ?_)|(refine ac ?_ (fun _=>hn _) ?_))|(refine aa (v:=.any) ?_)|((first|apply Ca|apply Cb)<;>intro hb)|refine Ai (by omega) ?_|(apply Ai<;>intro hb)|apply Fin.pure|simp only[aq]))
 | some p =>
  obtain⟨a,b⟩:=p
  obtain⟨_,_,_,e3⟩:=lL hc
  have ev:dq 58 s = .tup [.str a,.str b,.bool true]:=by unfold dq;rw[hc]
  have hf:bU s=(dG b&&dG a):=by unfold bU;rw[hc,Bool.and_comm]
  have hn1:=lY a (by omega)
  have hn2:=lY b (by omega)
  rw[ev]at hev
  rw[hf]
  cases h1:dG b<;>rw[h1]at hn2<;>(
   refine aX call98 func98 ?_;intro b0 hb0
   (repeat' first|simp only[au,ap,results98,ntmps98,am,aj,ai,seval]|exact rfl|refine aa (v:=.any) ?_|((first|(refine ah ?_ (hn1 _) ?_)|(refine ac ?_ (fun _=>hn1 _) ?_));(focus (simp only[results98,ntmps98,am,aj,ai,seval]<;>exact rfl)))|((first|(refine ah ?_ (hn2 _) ?_)|(refine ac ?_ (fun _=>hn2 _) ?_));(focus (simp only[results98,ntmps98,am,aj,ai,seval]<;>exact rfl)))|(first|(refine ah ?_ (hev _) ?_)|(refine ac ?_ (fun _=>hev _) ?_))|(refine aa (v:=.any) ?_)|((first|apply Ca|apply Cb)<;>intro hb)|refine Ai (by omega) ?_|(apply Ai<;>intro hb)|apply Fin.pure|simp only[aq]))
def fm (a:Pr):List V:=[.str a.name,.str a.value]
def bQ (t:Tk):List V:=[.int .u8 t.kind,.str t.name,.sl false 2 (t.attrs.map fm),.str t.text]
def yS {l:List Pr}{k:Nat}{a:Pr}(h:l[k]? = some a):(l.map fm)[k]? = some (fm a):=by rw[List.getElem?_map,h];rfl
def tr {l:List Tk}{k:Nat}{a:Tk}(h:l[k]? = some a):(l.map bQ)[k]? = some (bQ a):=by rw[List.getElem?_map,h];rfl
def aC (l:List Pr):plainLL (l.map fm)=true:=ce _ (fun _=>rfl) l
def aM (l:List Tk):plainLL (l.map bQ)=true:=ce _ (fun t=>by simp[bQ,plainL,V.plain,aC]) l
def cB {α:Type}{p:α->Bool}{l:List α}{k:Nat}{x:α}(h:(l.take k).any p=false)(hc:l[k]? = some x)(hx:p x=false):(l.take (k+1)).any p=false:=by
 obtain⟨hk,rfl⟩:=List.getElem?_eq_some_iff.1 hc
 rw[List.take_succ_eq_append_getElem hk,List.any_append,h]
 simp[hx]
def Mz (l:List Pr)(s:List UInt8)(hl:l.length<=aT)(nm:Nat):Ev cx 164 nm [.sl false 2 (l.map fm),.str s] ao.nil (.bool (l.any fun b=>s==b.name)) []:=by
 unfold aT at hl
 refine aX call164 func164 ?_;intro b0 hb0
 refine wR (a2 results164 ntmps164) trivial ?_
 (refine ew (fun x:Nat=>l.length-x) (fun x=>x<=l.length/\((l.take x).any fun b=>s==b.name)=false) (b0+16) (fun x=>[(0,.sl false 2 (l.map fm)),(1,.str s),(5,.int .i64 x)]) (fun x=>[]) (0) [] ?_ ?_ ?_;(focus (refine⟨?_,?_⟩<;>(try simp only[aE,aC,aj,ai,aq,seval])<;>(try omega))))
 ·exact⟨Nat.zero_le _,by simp⟩
 ·rintro k ⟨hk,hn⟩
  by_cases hlt:k<l.length
  ·obtain⟨a,ha⟩:=ic hlt
   have hat:=yS ha
   have hd:=decide_eq_true hlt
   have hwk:=eD k
   cases hp:(a.name==s) with
   | true =>
    have hr:(l.any fun b=>s==b.name)=true:=List.any_eq_true.2 ⟨a,List.mem_of_getElem? ha,by rw[beq_iff_eq]at hp ⊢;exact hp.symm⟩
    exact wP (a8 results164 ntmps164 hat @fm.eq_1 hd hlt hp hr) trivial
   | false =>
    have hx:(s==a.name)=false:=by
     rw[beq_eq_false_iff_ne]at hp ⊢;exact fun e=>hp e.symm
    have hn':=cB (p:=fun b:Pr=>s==b.name) hn ha hx
    refine wR (a8 results164 ntmps164 hat @fm.eq_1 hd hlt hp hwk) trivial ?_
    all_goals ((refine de (k+1) [] ?_ ?_ ?_;(focus (refine⟨?_,?_⟩<;>(try simp only[aE,aC,hwk,aj,ai,aq,seval])<;>(try omega)))))
    all_goals (first|(show l.length-(k+1)<l.length-k;omega)|exact⟨hlt,hn'⟩|skip)
  ·have hke:k=l.length:=by omega
   subst hke
   rw[List.take_length]at hn
   have hd:decide (l.length<l.length)=false:=bi
   exact wP (a4 results164 ntmps164 hd hn) trivial
def nP {l:List Pr}{k:Nat}{a:Pr}(h:gK l k)(ha:l[k]? = some a)(ho:Iz (l.take k) a=true):gK l (k+1):=by
 intro i b hi hb
 by_cases e:i=k
 ·subst e;rw[ha]at hb;cases hb;exact ho
 ·exact h i b (by omega) hb
def qf {l:List Pr}{k:Nat}{a:Pr}(ha:l[k]? = some a)(ho:Iz (l.take k) a=false):e8 l=false:=by
 cases h:e8 l with
 | false=>rfl
 | true =>
  have:=(eS.1 h).2 k a (List.getElem?_eq_some_iff.1 ha).1 ha
  rw[ho]at this;cases this
def JP {z:Int}(h0:0<=z)(h:z<128):encodeRune z=[z.toNat.toUInt8]:=by
 have key:∀ n:Fin 128,encodeRune (n.val:Int)=[(n.val:Int).toNat.toUInt8]:=by decide +kernel
 have:=key ⟨z.toNat,by omega⟩
 have e:((z.toNat:Nat):Int)=z:=by omega
 simpa only[e] using this
def GJ {z:Int}(h0:0<=z)(h:z<128):IntKind.u8.wrap z=((z.toNat.toUInt8).toNat:Int):=by
 have key:∀ n:Fin 128,IntKind.u8.wrap (n.val:Int)=(((n.val:Int).toNat.toUInt8).toNat:Int):=by decide +kernel
 have:=key ⟨z.toNat,by omega⟩
 have e:((z.toNat:Nat):Int)=z:=by omega
 simpa only[e] using this
end Go.Proofs.YtjonibipieofcaaGreatDoor
