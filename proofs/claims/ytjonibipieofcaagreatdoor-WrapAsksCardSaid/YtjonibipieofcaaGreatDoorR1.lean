/-
 Texts joined: XTa,XTb,XTc,XOa.
-/
import Derived.Test.YtjonibipieofcaaGreatDoorQt
import Derived.Test.YtjonibipieofcaaGreatDoorQx
set_option linter.all false
namespace Go.Proofs.YtjonibipieofcaaGreatDoor
set_option maxRecDepth 100000
set_option maxHeartbeats 32000000
open Go Go.RowKit Vm Go.Lib Tryz
open Vm renaming aI->Ca,aP->Cb
open And renaming intro->Ai
open List renaming length_map->Lm,not_mem_nil->Ln,map_nil->Lo,map_cons->Lc,mem_cons->Lk
open Bool renaming not_false->Bf,not_true->Bt
def me:List UInt8:=[104,116,116,112,58,47,47,119,119,119,46,119,51,46,111,114,103,47,88,77,76,47,49,57,57,56,47,110,97,109,101,115,112,97,99,101]
def nN:List UInt8:=[104,116,116,112,58,47,47,119,119,119,46,119,51,46,111,114,103,47,50,48,48,48,47,120,109,108,110,115,47]
def dN (s:List UInt8):Bool:=(s==me)||(s==nN)
def sq (s:List UInt8)(nm:Nat):Ev cx 63 nm [.str s] ao.nil (.bool (dN s)) []:=by
 unfold dN me nN
 refine aX call63 func63 ?_;intro b0 hb0
 exact wP (a2 results63 ntmps63) trivial
def rG (a:At):Bool:=(!dG a.name||((a.space==[])&&(a.name==[120,109,108,110,115])))||(a.space==nN)
def I4 (a:At)(h1:a.name.length<=aT)(nm:Nat):Ev cx 60 nm [.agg (bf a)] ao.nil (.bool (rG a)) []:=by
 have hn:=oJ a.name h1
 unfold rG nN
 cases h:dG a.name with
 | true =>
  rw[h]at hn
  cases h2:(a.space==[]) with
  | true =>
   refine aX call60 func60 ?_;intro b0 hb0
   exact wP (a4 results60 ntmps60 @bf.eq_1 h2) hn
  | false =>
   refine aX call60 func60 ?_;intro b0 hb0
   exact wP (a4 results60 ntmps60 @bf.eq_1 h2) hn
 | false =>
  rw[h]at hn
  refine aX call60 func60 ?_;intro b0 hb0
  exact wP (a3 results60 ntmps60 @bf.eq_1) hn
def jF (n:Nd):Bool:=((decide (n.kind=1) && !dG n.name)||dN n.space)||n.attrs.any rG
def I5 (n:Nd)(hn:n.okTo aT)(nm:Nat):Ev cx 62 nm [.agg (aD n),.rp [.fn 60 []]] ao.nil (.bool (jF n)) []:=by
 have hg:=sq n.space
 have hm:=oJ n.name hn.2.2.1
 have hc:=gL n.attrs 60 [] rG (fun a ha nm=>I4 a (hn.2.2.2.2 a ha).2.1 nm) hn.1 rfl
 unfold jF
 by_cases hk:n.kind=1
 ·have q:((n.kind:Int)==1)=true:=by rw[hk];rfl
  rw[decide_eq_true hk]
  cases h1:dG n.name with
  | false =>
   rw[h1]at hm
   refine aX call62 func62 ?_;intro b0 hb0
   exact wP (a5 results62 ntmps62 @aD.eq_1 q @ab) hm
  | true =>
   rw[h1]at hm
   cases h2:dN n.space with
   | true =>
    rw[h2]at hg
    refine aX call62 func62 ?_;intro b0 hb0
    exact wP (a5 results62 ntmps62 @aD.eq_1 q @ab) (a2 hm hg)
   | false =>
    rw[h2]at hg
    refine aX call62 func62 ?_;intro b0 hb0
    exact wP (a5 results62 ntmps62 @aD.eq_1 q @ab) (a3 hm hg hc)
 ·have q:((n.kind:Int)==1)=false:=beq_false_of_ne (by omega)
  rw[decide_eq_false hk]
  cases h2:dN n.space with
  | true =>
   rw[h2]at hg
   refine aX call62 func62 ?_;intro b0 hb0
   exact wP (a5 results62 ntmps62 @aD.eq_1 q @ab) hg
  | false =>
   rw[h2]at hg
   refine aX call62 func62 ?_;intro b0 hb0
   exact wP (a5 results62 ntmps62 @aD.eq_1 q @ab) (a2 hg hc)
def cn (v:List Nd):Int:=if (v.any jF)=true then 8 else cT v
def pm (v:List Nd)(hv:v.length<=aT)(hok:∀ n∈v,n.okTo aT/\n.i64)(nm:Nat):Ev cx 24 nm [.sl false 6 (v.map aD)] ao.nil (.int .i64 (cn v)) []:=by
 have hc:=mP v 62 [.rp [.fn 60 []]] jF (fun n hn nm=>I5 n (hok n hn).1 nm) hv rfl
 have hk:=uB v hv hok
 unfold cn
 cases h:v.any jF with
 | true =>
  rw[h]at hc
  refine aX call24 func24 ?_;intro b0 hb0
  (repeat' first|simp only[au,ap,results24,ntmps24,am,ae,aj,ai,seval]|exact rfl|refine aa (v:=.any) ?_|(first|(refine ah ?_ (hk _) ?_)|(refine ac ?_ (fun _=>hk _) ?_))|((refine bg (xs:=?_) [b0+16] ?_ ?_ ?_ rfl (hc _) ?_);rotate_left 1)|omega|((first|apply Ca|apply Cb)<;>intro hb)|refine Ai (by omega) ?_|(apply Ai<;>intro hb)|apply Fin.pure|simp only[aq])
 | false =>
  rw[h]at hc
  rw[if_neg (by decide)]
  refine aX call24 func24 ?_;intro b0 hb0
  (repeat' first|simp only[au,ap,results24,ntmps24,am,ae,aj,ai,seval]|exact rfl|refine aa (v:=.any) ?_|(first|(refine ah ?_ (hk _) ?_)|(refine ac ?_ (fun _=>hk _) ?_))|((refine bg (xs:=?_) [b0+16] ?_ ?_ ?_ rfl (hc _) ?_);rotate_left 1)|omega|((first|apply Ca|apply Cb)<;>intro hb)|refine Ai (by omega) ?_|(apply Ai<;>intro hb)|apply Fin.pure|simp only[aq])
def Fv (n:Nd)(nm:Nat):Ev cx 128 nm [.agg (aD n)] ao.nil (.bool (decide (16<n.attrs.length))) []:=by
 have h:decide ((16:Int)<(n.attrs.length:Int))=decide (16<n.attrs.length):=by
  by_cases h:16<n.attrs.length
  ·rw[decide_eq_true h,dh]
  ·rw[decide_eq_false h,bi]
 rw[<- h]
 refine aX call128 func128 ?_;intro b0 hb0
 exact wP (a5 results128 ntmps128 @aD.eq_1 @ab h) trivial
def gi (S:List (List UInt8))(a:At):List (List UInt8):=if (a.space==[])=true then S else if (a.space==me)=true then S else if S.contains a.space=true then S else S++[a.space]
def bl (l:List At):List (List UInt8):=l.foldl gi []
def zz (S:List (List UInt8))(s:List UInt8):Nat:=(S.findIdx? (· == s)).getD S.length
def um (S:List (List UInt8))(s:List UInt8):List UInt8:=if (s==me)=true then [120,109,108] else 110::eB (zz S s+1)
def ec (S:List (List UInt8))(a:At):At:=⟨[],if (a.space==[])=true then a.name else um S a.space++58::a.name,a.value⟩
def ng (k:Nat)(s:List UInt8):At:=⟨[],[120,109,108,110,115,58,110]++eB (k+1),s⟩
def bZ (S:List (List UInt8)):List At:=S.mapIdx ng
def yp (n:Nd)(sp:List UInt8):List At:=if (n.space==sp)=true then [] else [⟨[],[120,109,108,110,115],n.space⟩]
def dn (n:Nd)(sp:List UInt8):Nd:=⟨n.kind,[],n.name,yp n sp++bZ (bl n.attrs)++n.attrs.map (ec (bl n.attrs)),[],n.many⟩
def s9 {l:List At}{k:Nat}{a:At}(h:l[k]? = some a):bl (l.take (k+1))=gi (bl (l.take k)) a:=by
 obtain⟨hk,rfl⟩:=List.getElem?_eq_some_iff.1 h
 unfold bl
 rw[List.take_succ_eq_append_getElem hk,List.foldl_append];rfl
def Ey (S:List (List UInt8))(a:At):S <+: gi S a:=by
 unfold gi
 split
 ·exact List.prefix_refl _
 ·split
  ·exact List.prefix_refl _
  ·split
   ·exact List.prefix_refl _
   ·exact List.prefix_append _ _
def kJ:∀(l:List At) (S:List (List UInt8)),S <+: l.foldl gi S
 | [],_=>List.prefix_refl _
 | a::l,S=>(Ey S a).trans (kJ l _)
def pV (l:List At)(k:Nat):bl (l.take k) <+: bl l:=by
 have h:=kJ (l.drop k) (bl (l.take k))
 unfold bl at h ⊢
 rwa[<- List.foldl_append,List.take_append_drop]at h
def Ew (S:List (List UInt8))(a:At):(gi S a).length<=S.length+1:=by
 unfold gi
 split
 ·omega
 ·split
  ·omega
  ·split
   ·omega
   ·simp
def oX:∀(l:List At) (S:List (List UInt8)),(l.foldl gi S).length<=S.length+l.length
 | [],S=>by simp
 | a::l,S=>by
  have h1:=oX l (gi S a)
  have h2:=Ew S a
  simp only[List.foldl_cons,List.length_cons]
  omega
def mF (l:List At):(bl l).length<=l.length:=by
 have:=oX l []
 unfold bl;simpa using this
def FO {S T:List (List UInt8)}{s:List UInt8}{k:Nat}(h:S <+: T)(hk:S.findIdx? (· == s)=some k):T.findIdx? (· == s)=some k:=by
 obtain⟨r,rfl⟩:=h
 rw[List.findIdx?_append,hk];rfl
def Lr {S T:List (List UInt8)}{s:List UInt8}{k:Nat}(h:S <+: T)(hk:S.findIdx? (· == s)=some k):zz T s=k:=by
 unfold zz;rw[FO h hk];rfl
def C8 {S:List (List UInt8)}{s:List UInt8}(h:S.findIdx? (· == s)=none):(S++[s]).findIdx? (· == s)=some S.length:=by
 rw[List.findIdx?_append,h];simp
def pn {S:List (List UInt8)}{s:List UInt8}(h:S.findIdx? (· == s)=none):S.contains s=false:=by
 have:=List.findIdx?_eq_none_iff.1 h
 cases hc:S.contains s with
 | false=>rfl
 | true =>
  rw[List.contains_iff_mem]at hc
  have:=this s hc
  simp at this
def uD {S:List (List UInt8)}{s:List UInt8}{k:Nat}(h:S.findIdx? (· == s)=some k):S.contains s=true:=by
 cases hc:S.contains s with
 | true=>rfl
 | false =>
  have:S.findIdx? (· == s)=none:=List.findIdx?_eq_none_iff.2 fun x hx=>by
   cases hb:(x==s) with
   | false=>rfl
   | true =>
    have:=eq_of_beq hb;subst this
    rw[<- List.contains_iff_mem]at hx;rw[hc]at hx;cases hx
  rw[this]at h;cases h
def CV (S:List (List UInt8))(s:List UInt8):bZ (S++[s])=bZ S++[ng S.length s]:=by
 unfold bZ;simp[List.mapIdx_append]
def xJ (S:List (List UInt8)):(bZ S).length=S.length:=by simp[bZ]
def sE:∀ n,n<100->(eB n).length<=2:=by
 intro n _;unfold eB;split<;>simp
def Fo.bare:Fo->List UInt8->List Nd
 | .nil,_=>[]
 | .cons n k r,sp=>(if n.kind=2 then [n] else dn n sp::k.bare n.space)++r.bare sp
def qp:Nat->Nat->List Nd->Fo×List Nd
 | 0,_,v=>(.nil,v)
 | _+1,0,v=>(.nil,v)
 | _+1,_+1,[]=>(.nil,[])
 | f+1,c+1,n::v=>(.cons n (qp f n.many.toNat v).1 (qp f c (qp f n.many.toNat v).2).1,(qp f c (qp f n.many.toNat v).2).2)
def Al:∀(F:Fo) (d last f:Nat) (r:List Nd),F.good d last=true->F.size<f->qp f F.count (F.flat++r)=(F,r)
 | .nil,_,_,f+1,r,_,_=>by simp[Fo.count,Fo.flat,qp]
 | .cons n k r,d,last,f+1,rest,h,hf=>by
  obtain⟨h1,h2,h3,h4,h5,h6⟩:=Fo.good_cons.1 h
  simp only[Fo.size]at hf
  have hk:=Al k (d-1) 1 f (r.flat++rest) h5 (by omega)
  have hr:=Al r d n.kind f rest h6 (by omega)
  have hm:n.many.toNat=k.count:=by omega
  simp only[Fo.count,Fo.flat,List.cons_append,List.append_assoc,qp,hm,hk,hr]
 | F,_,_,0,_,_,hf=>by omega
def qH (v:List Nd):Fo:=(qp (v.length+1) 1 v).1
def re {n:Nd}{k:Fo}{d:Nat}(h:(Fo.cons n k .nil).good d 0=true):qH (n::k.flat) = .cons n k .nil:=by
 have:=Al (.cons n k .nil) d 0 ((n::k.flat).length+1) [] h (by simp[Fo.size,Fo.flat_length])
 unfold qH
 simp only[Fo.count,Fo.flat,List.append_nil]at this
 rw[this]
def kZ (v:List Nd):Bool:=v.any fun n=>decide (16<n.attrs.length)
def bC (v:List Nd)(sp:List UInt8):List Nd×Int:=if cn v≠0 then ([],cn v) else if aF sp≠0\/dN sp=true then ([],8) else if kZ ((qH v).bare sp)=true then ([],4) else ((qH v).bare sp,0)
end Go.Proofs.YtjonibipieofcaaGreatDoor
