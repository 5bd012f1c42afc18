/-
 Texts joined: XTa,XTb,XTc,XOa.
-/
import Derived.Test.YtlnlopnpcmahgaaGreatDoorQi
import Derived.Test.YtlnlopnpcmahgaaGreatDoorQs
import Derived.Test.YtlnlopnpcmahgaaGreatDoorQj
import Derived.Test.YtlnlopnpcmahgaaGreatDoorQt
import Derived.Test.YtlnlopnpcmahgaaGreatDoorQk
set_option linter.all false
namespace Go.Proofs.YtlnlopnpcmahgaaGreatDoor
set_option maxRecDepth 100000
set_option maxHeartbeats 32000000
open Go Go.RowKit Vm Go.Lib Tryz
open Vm renaming aH->Ca,aL->Cb
open And renaming intro->Ai
open List renaming length_map->Lm,not_mem_nil->Ln,map_nil->Lo,map_cons->Lc,mem_cons->Lk
open Bool renaming not_false->Bf,not_true->Bt
def ks:List UInt8:=[104,116,116,112,58,47,47,119,119,119,46,119,51,46,111,114,103,47,88,77,76,47,49,57,57,56,47,110,97,109,101,115,112,97,99,101]
def lQ:List UInt8:=[104,116,116,112,58,47,47,119,119,119,46,119,51,46,111,114,103,47,50,48,48,48,47,120,109,108,110,115,47]
def cZ (s:List UInt8):Bool:=(s==ks)||(s==lQ)
def qd (s:List UInt8)(nm:Nat):Ev cx 75 nm [.str s] am.nil (.bool (cZ s)) []:=by
 unfold cZ ks lQ
 refine aV call75 func75 rfl (by kernel_rfl) rfl ?_;intro b0 hb0
 (repeat' first|simp only[aj,ag,results75,ntmps75,ap,ai,seval,ah]|exact rfl|refine aa (v:=.any) ?_|((first|apply Ca|apply Cb)<;>intro hb)|refine Ai (by omega) ?_|(apply Ai<;>intro hb)|refine Fin.pure ?_ ?_ ?_|simp only[al])
def pE (a:At):Bool:=(!cU a.name||((a.space==[])&&(a.name==[120,109,108,110,115])))||(a.space==lQ)
def FR (a:At)(h1:a.name.length<=aS)(nm:Nat):Ev cx 122 nm [.agg (bh a)] am.nil (.bool (pE a)) []:=by
 have hn:=mz a.name h1
 unfold pE lQ
 cases h:cU a.name with
 | true =>
  rw[h]at hn
  cases h2:(a.space==[]) with
  | true =>
   refine aV call122 func122 rfl (by kernel_rfl) rfl ?_;intro b0 hb0
   (repeat' first|simp only[aj,ag,results122,ntmps122,ap,bh,h2,Bt,Bool.false_or,Bool.true_and,ai,seval,ah]|exact rfl|refine aa (v:=.any) ?_|(first|(refine ac ?_ (hn _) ?_)|(refine ab ?_ (fun _=>hn _) ?_))|((first|apply Ca|apply Cb)<;>intro hb)|refine Ai (by omega) ?_|(apply Ai<;>intro hb)|refine Fin.pure ?_ ?_ ?_|simp only[al])
  | false =>
   refine aV call122 func122 rfl (by kernel_rfl) rfl ?_;intro b0 hb0
   (repeat' first|simp only[aj,ag,results122,ntmps122,ap,bh,h2,Bt,Bool.false_or,Bool.false_and,ai,seval,ah]|exact rfl|refine aa (v:=.any) ?_|(first|(refine ac ?_ (hn _) ?_)|(refine ab ?_ (fun _=>hn _) ?_))|((first|apply Ca|apply Cb)<;>intro hb)|refine Ai (by omega) ?_|(apply Ai<;>intro hb)|refine Fin.pure ?_ ?_ ?_|simp only[al])
 | false =>
  rw[h]at hn
  refine aV call122 func122 rfl (by kernel_rfl) rfl ?_;intro b0 hb0
  (repeat' first|simp only[aj,ag,results122,ntmps122,ap,bh,Bf,Bool.true_or,ai,seval,ah]|exact rfl|refine aa (v:=.any) ?_|(first|(refine ac ?_ (hn _) ?_)|(refine ab ?_ (fun _=>hn _) ?_))|((first|apply Ca|apply Cb)<;>intro hb)|refine Ai (by omega) ?_|(apply Ai<;>intro hb)|refine Fin.pure ?_ ?_ ?_|simp only[al])
def ib (n:Nd):Bool:=((decide (n.kind=1) && !cU n.name)||cZ n.space)||n.attrs.any pE
def FS (n:Nd)(hn:n.okTo aS)(nm:Nat):Ev cx 124 nm [.agg (aG n),.rp [.fn 122 []]] am.nil (.bool (ib n)) []:=by
 have hg:=qd n.space
 have hm:=mz n.name hn.2.2.1
 have hc:=fD n.attrs 122 [] pE (fun a ha nm=>FR a (hn.2.2.2.2 a ha).2.1 nm) hn.1 rfl
 unfold ib
 by_cases hk:n.kind=1
 ·have q:((n.kind:Int)==1)=true:=by rw[hk];rfl
  rw[decide_eq_true hk]
  cases h1:cU n.name with
  | false =>
   rw[h1]at hm
   refine aV call124 func124 rfl (by kernel_rfl) rfl ?_;intro b0 hb0
   (repeat' first|simp only[aj,ag,results124,ntmps124,ap,aG,q,ae,Bt,Bf,Bool.true_or,Bool.true_and,ai,seval,ah]|exact rfl|refine aa (v:=.any) ?_|(first|(refine ac ?_ (hm _) ?_)|(refine ab ?_ (fun _=>hm _) ?_))|((first|apply Ca|apply Cb)<;>intro hb)|refine Ai (by omega) ?_|(apply Ai<;>intro hb)|refine Fin.pure ?_ ?_ ?_|simp only[al])
  | true =>
   rw[h1]at hm
   cases h2:cZ n.space with
   | true =>
    rw[h2]at hg
    refine aV call124 func124 rfl (by kernel_rfl) rfl ?_;intro b0 hb0
    (repeat' first|simp only[aj,ag,results124,ntmps124,ap,aG,q,ae,Bt,Bf,Bool.true_or,Bool.or_true,Bool.and_false,Bool.true_and,ai,seval,ah]|exact rfl|refine aa (v:=.any) ?_|(first|(refine ac ?_ (hm _) ?_)|(refine ab ?_ (fun _=>hm _) ?_)|(refine ac ?_ (hg _) ?_)|(refine ab ?_ (fun _=>hg _) ?_))|((first|apply Ca|apply Cb)<;>intro hb)|refine Ai (by omega) ?_|(apply Ai<;>intro hb)|refine Fin.pure ?_ ?_ ?_|simp only[al])
   | false =>
    rw[h2]at hg
    refine aV call124 func124 rfl (by kernel_rfl) rfl ?_;intro b0 hb0
    (repeat' first|simp only[aj,ag,results124,ntmps124,ap,aG,q,ae,Bt,Bf,Bool.false_or,Bool.and_false,Bool.true_and,ai,seval,ah]|exact rfl|refine aa (v:=.any) ?_|(first|(refine ac ?_ (hm _) ?_)|(refine ab ?_ (fun _=>hm _) ?_)|(refine ac ?_ (hg _) ?_)|(refine ab ?_ (fun _=>hg _) ?_)|(refine ac ?_ (hc _) ?_)|(refine ab ?_ (fun _=>hc _) ?_))|((first|apply Ca|apply Cb)<;>intro hb)|refine Ai (by omega) ?_|(apply Ai<;>intro hb)|refine Fin.pure ?_ ?_ ?_|simp only[al])
 ·have q:((n.kind:Int)==1)=false:=beq_false_of_ne (by omega)
  rw[decide_eq_false hk]
  cases h2:cZ n.space with
  | true =>
   rw[h2]at hg
   refine aV call124 func124 rfl (by kernel_rfl) rfl ?_;intro b0 hb0
   (repeat' first|simp only[aj,ag,results124,ntmps124,ap,aG,q,ae,Bool.false_and,Bool.false_or,Bool.true_or,ai,seval,ah]|exact rfl|refine aa (v:=.any) ?_|(first|(refine ac ?_ (hg _) ?_)|(refine ab ?_ (fun _=>hg _) ?_))|((first|apply Ca|apply Cb)<;>intro hb)|refine Ai (by omega) ?_|(apply Ai<;>intro hb)|refine Fin.pure ?_ ?_ ?_|simp only[al])
  | false =>
   rw[h2]at hg
   refine aV call124 func124 rfl (by kernel_rfl) rfl ?_;intro b0 hb0
   (repeat' first|simp only[aj,ag,results124,ntmps124,ap,aG,q,ae,Bool.false_and,Bool.false_or,ai,seval,ah]|exact rfl|refine aa (v:=.any) ?_|(first|(refine ac ?_ (hg _) ?_)|(refine ab ?_ (fun _=>hg _) ?_)|(refine ac ?_ (hc _) ?_)|(refine ab ?_ (fun _=>hc _) ?_))|((first|apply Ca|apply Cb)<;>intro hb)|refine Ai (by omega) ?_|(apply Ai<;>intro hb)|refine Fin.pure ?_ ?_ ?_|simp only[al])
def ct (v:List Nd):Int:=if (v.any ib)=true then 8 else ez v
def sb (v:List Nd)(hv:v.length<=aS)(hok:∀ n∈v,n.okTo aS/\n.i64)(nm:Nat):Ev cx 73 nm [.sl false 6 (v.map aG)] am.nil (.int .i64 (ct v)) []:=by
 have hc:=kV v 124 [.rp [.fn 122 []]] ib (fun n hn nm=>FS n (hok n hn).1 nm) hv rfl
 have hk:=zW v hv hok
 unfold ct
 cases h:v.any ib with
 | true =>
  rw[h]at hc
  refine aV call73 func73 rfl (by kernel_rfl) rfl ?_;intro b0 hb0
  (repeat' first|simp only[aj,ag,results73,ntmps73,ap,ad,ai,seval,ah]|exact rfl|refine aa (v:=.any) ?_|(first|(refine ac ?_ (hk _) ?_)|(refine ab ?_ (fun _=>hk _) ?_))|((refine b7 (xs:=?_) [b0+16] ?_ ?_ ?_ rfl (hc _) ?_);rotate_left 1)|omega|((first|apply Ca|apply Cb)<;>intro hb)|refine Ai (by omega) ?_|(apply Ai<;>intro hb)|refine Fin.pure ?_ ?_ ?_|simp only[al])
 | false =>
  rw[h]at hc
  rw[if_neg (by decide)]
  refine aV call73 func73 rfl (by kernel_rfl) rfl ?_;intro b0 hb0
  (repeat' first|simp only[aj,ag,results73,ntmps73,ap,ad,ai,seval,ah]|exact rfl|refine aa (v:=.any) ?_|(first|(refine ac ?_ (hk _) ?_)|(refine ab ?_ (fun _=>hk _) ?_))|((refine b7 (xs:=?_) [b0+16] ?_ ?_ ?_ rfl (hc _) ?_);rotate_left 1)|omega|((first|apply Ca|apply Cb)<;>intro hb)|refine Ai (by omega) ?_|(apply Ai<;>intro hb)|refine Fin.pure ?_ ?_ ?_|simp only[al])
def Cy (n:Nd)(nm:Nat):Ev cx 79 nm [.agg (aG n)] am.nil (.bool (decide (16<n.attrs.length))) []:=by
 have h:decide ((16:Int)<(n.attrs.length:Int))=decide (16<n.attrs.length):=by
  by_cases h:16<n.attrs.length
  ·rw[decide_eq_true h,cn]
  ·rw[decide_eq_false h,aR]
 rw[<- h]
 refine aV call79 func79 rfl (by kernel_rfl) rfl ?_;intro b0 hb0
 (repeat' first|simp only[aj,ag,results79,ntmps79,ap,aG,ae,Lm,h,ai,seval,ah]|exact rfl|refine aa (v:=.any) ?_|((first|apply Ca|apply Cb)<;>intro hb)|refine Ai (by omega) ?_|(apply Ai<;>intro hb)|refine Fin.pure ?_ ?_ ?_|simp only[al])
def ec (n:Nat):List UInt8:=if n<10 then [(48+n).toUInt8] else [(48+n / 10).toUInt8,(48+n % 10).toUInt8]
def e9 (S:List (List UInt8))(a:At):List (List UInt8):=if (a.space==[])=true then S else if (a.space==ks)=true then S else if S.contains a.space=true then S else S++[a.space]
def aT (l:List At):List (List UInt8):=l.foldl e9 []
def wM (S:List (List UInt8))(s:List UInt8):Nat:=(S.findIdx? (· == s)).getD S.length
def rU (S:List (List UInt8))(s:List UInt8):List UInt8:=if (s==ks)=true then [120,109,108] else 110::ec (wM S s+1)
def df (S:List (List UInt8))(a:At):At:=⟨[],if (a.space==[])=true then a.name else rU S a.space++58::a.name,a.value⟩
def lp (k:Nat)(s:List UInt8):At:=⟨[],[120,109,108,110,115,58,110]++ec (k+1),s⟩
def bG (S:List (List UInt8)):List At:=S.mapIdx lp
def vK (n:Nd)(sp:List UInt8):List At:=if (n.space==sp)=true then [] else [⟨[],[120,109,108,110,115],n.space⟩]
def cD (n:Nd)(sp:List UInt8):Nd:=⟨n.kind,[],n.name,vK n sp++bG (aT n.attrs)++n.attrs.map (df (aT n.attrs)),[],n.many⟩
def qN {l:List At}{k:Nat}{a:At}(h:l[k]? = some a):aT (l.take (k+1))=e9 (aT (l.take k)) a:=by
 obtain⟨hk,rfl⟩:=List.getElem?_eq_some_iff.1 h
 unfold aT
 rw[List.take_succ_eq_append_getElem hk,List.foldl_append];rfl
def Br (S:List (List UInt8))(a:At):S <+: e9 S a:=by
 unfold e9
 split
 ·exact List.prefix_refl _
 ·split
  ·exact List.prefix_refl _
  ·split
   ·exact List.prefix_refl _
   ·exact List.prefix_append _ _
def jd:∀(l:List At) (S:List (List UInt8)),S <+: l.foldl e9 S
 | [],_=>List.prefix_refl _
 | a::l,S=>(Br S a).trans (jd l _)
def nR (l:List At)(k:Nat):aT (l.take k) <+: aT l:=by
 have h:=jd (l.drop k) (aT (l.take k))
 unfold aT at h ⊢
 rwa[<- List.foldl_append,List.take_append_drop]at h
def Bq (S:List (List UInt8))(a:At):(e9 S a).length<=S.length+1:=by
 unfold e9
 split
 ·omega
 ·split
  ·omega
  ·split
   ·omega
   ·simp
def mO:∀(l:List At) (S:List (List UInt8)),(l.foldl e9 S).length<=S.length+l.length
 | [],S=>by simp
 | a::l,S=>by
  have h1:=mO l (e9 S a)
  have h2:=Bq S a
  simp only[List.foldl_cons,List.length_cons]
  omega
def kP (l:List At):(aT l).length<=l.length:=by
 have:=mO l []
 unfold aT;simpa using this
def CO {S T:List (List UInt8)}{s:List UInt8}{k:Nat}(h:S <+: T)(hk:S.findIdx? (· == s)=some k):T.findIdx? (· == s)=some k:=by
 obtain⟨r,rfl⟩:=h
 rw[List.findIdx?_append,hk];rfl
def Hx {S T:List (List UInt8)}{s:List UInt8}{k:Nat}(h:S <+: T)(hk:S.findIdx? (· == s)=some k):wM T s=k:=by
 unfold wM;rw[CO h hk];rfl
def Ag {S:List (List UInt8)}{s:List UInt8}(h:S.findIdx? (· == s)=none):(S++[s]).findIdx? (· == s)=some S.length:=by
 rw[List.findIdx?_append,h];simp
def nc {S:List (List UInt8)}{s:List UInt8}(h:S.findIdx? (· == s)=none):S.contains s=false:=by
 have:=List.findIdx?_eq_none_iff.1 h
 cases hc:S.contains s with
 | false=>rfl
 | true =>
  rw[List.contains_iff_mem]at hc
  have:=this s hc
  simp at this
def sd {S:List (List UInt8)}{s:List UInt8}{k:Nat}(h:S.findIdx? (· == s)=some k):S.contains s=true:=by
 cases hc:S.contains s with
 | true=>rfl
 | false =>
  have:S.findIdx? (· == s)=none:=List.findIdx?_eq_none_iff.2 fun x hx=>by
   cases hb:(x==s) with
   | false=>rfl
   | true =>
    have:=eq_of_beq hb;subst this
    rw[<- List.contains_iff_mem]at hx;rw[hc]at hx;cases hx
  rw[this]at h;cases h
def zZ (S:List (List UInt8))(s:List UInt8):bG (S++[s])=bG S++[lp S.length s]:=by
 unfold bG;simp[List.mapIdx_append]
def u9 (S:List (List UInt8)):(bG S).length=S.length:=by simp[bG]
def qm:∀ n,n<100->(ec n).length<=2:=by
 intro n _;unfold ec;split<;>simp
def Fo.bare:Fo->List UInt8->List Nd
 | .nil,_=>[]
 | .cons n k r,sp=>(if n.kind=2 then [n] else cD n sp::k.bare n.space)++r.bare sp
def ou:Nat->Nat->List Nd->Fo×List Nd
 | 0,_,v=>(.nil,v)
 | _+1,0,v=>(.nil,v)
 | _+1,_+1,[]=>(.nil,[])
 | f+1,c+1,n::v=>(.cons n (ou f n.many.toNat v).1 (ou f c (ou f n.many.toNat v).2).1,(ou f c (ou f n.many.toNat v).2).2)
def xu:∀(F:Fo) (d last f:Nat) (r:List Nd),F.good d last=true->F.size<f->ou f F.count (F.flat++r)=(F,r)
 | .nil,_,_,f+1,r,_,_=>by simp[Fo.count,Fo.flat,ou]
 | .cons n k r,d,last,f+1,rest,h,hf=>by
  obtain⟨h1,h2,h3,h4,h5,h6⟩:=Fo.good_cons.1 h
  simp only[Fo.size]at hf
  have hk:=xu k (d-1) 1 f (r.flat++rest) h5 (by omega)
  have hr:=xu r d n.kind f rest h6 (by omega)
  have hm:n.many.toNat=k.count:=by omega
  simp only[Fo.count,Fo.flat,List.cons_append,List.append_assoc,ou,hm,hk,hr]
 | F,_,_,0,_,_,hf=>by omega
def oM (v:List Nd):Fo:=(ou (v.length+1) 1 v).1
def pe {n:Nd}{k:Fo}{d:Nat}(h:(Fo.cons n k .nil).good d 0=true):oM (n::k.flat) = .cons n k .nil:=by
 have:=xu (.cons n k .nil) d 0 ((n::k.flat).length+1) [] h (by simp[Fo.size,Fo.flat_length])
 unfold oM
 simp only[Fo.count,Fo.flat,List.append_nil]at this
 rw[this]
def js (v:List Nd):Bool:=v.any fun n=>decide (16<n.attrs.length)
def bi (v:List Nd)(sp:List UInt8):List Nd×Int:=if ct v≠0 then ([],ct v) else if az sp≠0\/cZ sp=true then ([],8) else if js ((oM v).bare sp)=true then ([],4) else ((oM v).bare sp,0)
end Go.Proofs.YtlnlopnpcmahgaaGreatDoor
