/-
 Texts joined: XAa,XAb,XAc,XAd.
-/
import Derived.Test.YtjonibipieofcaaGreatDoorMc
set_option maxHeartbeats 16000000
set_option maxRecDepth 100000
set_option linter.all false
namespace Go.Proofs.YtjonibipieofcaaGreatDoor
open Go Go.RowKit Vm Go.Lib Tryz
open Vm renaming aI->Ca,aP->Cb
open And renaming intro->Ai
open List renaming length_map->Lm,not_mem_nil->Ln,map_nil->Lo,map_cons->Lc,mem_cons->Lk
open Bool renaming not_false->Bf,not_true->Bt
def lf (c:UInt8):Bool:=decide ((0:Int)<=indexByte oz c)
def N3 (c:UInt8):Int:=max (indexByte oz c) 0
def jl (s:List UInt8)(n:Int):Bool:=((s.length:Int)==n)&&s.all lf
def Dz (c:UInt8)(nm:Nat):Ev cx 109 nm [.int .u8 c.toNat] ao.nil (.tup [.int .i64 (N3 c),.bool (lf c)]) []:=by
 have h:=Gq oz c
 unfold lf N3
 generalize indexByte oz c=i at h ⊢
 simp only[oz]at h
 refine aX call109 func109 ?_;intro b0 hb0
 (repeat' first|simp only[au,ap,results109,ntmps109,am,ge_iff_le,aj,ai,seval]|exact rfl|refine aa (v:=.any) ?_|(first|(refine ah ?_ (h _) ?_)|(refine ac ?_ (fun _=>h _) ?_))|((first|apply Ca|apply Cb)<;>intro hb)|refine Ai (by omega) ?_|(apply Ai<;>intro hb)|apply Fin.pure|simp only[aq])
def Hx {s:List UInt8}{p:Nat}{c:UInt8}(h:s[p]? = some c):(c.toNat<128/\bx s p=(c.toNat,1))\/(128<=c.toNat/\128<=(bx s p).1):=by
 obtain⟨hp,rfl⟩:=List.getElem?_eq_some_iff.1 h
 have e:bx s p=decodeN (s.length-p) (s[p]).toNat ((⟨s.toArray⟩:ByteArray).get! (p+1)).toNat ((⟨s.toArray⟩:ByteArray).get! (p+2)).toNat ((⟨s.toArray⟩:ByteArray).get! (p+3)).toNat:=by
  unfold bx
  rw[decode_at]
  have h1:(⟨s.toArray⟩:ByteArray).size=s.length:=by simp[ByteArray.size]
  have h2:(⟨s.toArray⟩:ByteArray).get! p=s[p]:=by
   show s.toArray[p]! = s[p]
   simp[hp]
  rw[h1,h2]
 rw[e]
 generalize ((⟨s.toArray⟩:ByteArray).get! (p+1)).toNat=b1
 generalize ((⟨s.toArray⟩:ByteArray).get! (p+2)).toNat=b2
 generalize ((⟨s.toArray⟩:ByteArray).get! (p+3)).toNat=b3
 generalize (s[p]).toNat=b0
 by_cases hb:b0<128
 ·left;refine⟨hb,?_⟩;unfold decodeN;rw[if_pos hb]
 ·right
  refine⟨by omega,?_⟩
  rcases decodeN_shape (s.length-p) b0 b1 b2 b3 with ⟨h,_⟩|⟨_,_,_,_,h⟩|⟨_,_,_,_,_,_,h⟩|⟨_,_,_,_,_,_,_,h⟩|h
  ·omega
  ·rw[h];simp only;omega
  ·rw[h];simp only;omega
  ·rw[h];simp only;omega
  ·rw[h];simp only;omega
def xL {s:List UInt8}{p:Nat}{c:UInt8}(h:s[p]? = some c):(s.drop p).all lf=(lf c&&(s.drop (p+1)).all lf):=by
 obtain⟨hp,rfl⟩:=List.getElem?_eq_some_iff.1 h
 rw[List.drop_eq_getElem_cons hp,List.all_cons]
def Jy {c:UInt8}(h:128<=c.toNat):lf c=false:=by
 have key:∀ n:Fin 256,128<=n.val->lf (UInt8.ofNat n.val)=false:=by decide +kernel
 have:=key ⟨c.toNat,c.toNat_lt⟩ h
 simpa using this
def IH {c:UInt8}(h:c.toNat<128):IntKind.u8.wrap (c.toNat:Int)=(c.toNat:Int):=by
 rw[GJ (by omega) (by omega)];simp
def My (s:List UInt8)(n:Int)(hs:s.length<=aT)(nm:Nat):Ev cx 59 nm [.str s,.int .i64 n] ao.nil (.bool (jl s n)) []:=by
 unfold aT at hs
 refine aX call59 func59 ?_;intro b0 hb0;have zF:=Ai results59 ntmps59
 repeat' first|simp only[au,ap,zF,am,aj,ai,seval]|exact rfl|refine aa (v:=.any) ?_|(refine uK (s:=?_) ?_ ?_ ?_;rotate_left 1;(iterate 2 (focus (simp only[zF,am,aj,ai,seval]<;>exact rfl))))|(refine bo ?_)|(refine bc ?_)|((first|apply Ca|apply Cb)<;>intro hb)|refine Ai (by omega) ?_|(apply Ai<;>intro hb)
 (refine ew (fun x:Nat×Bool=>s.length-x.1) (fun x=>x.1<=s.length/\jl s n=(x.2&&(s.drop x.1).all lf)) (b0+16) (fun x=>[(5,.bool x.2),(13,.ptr b0 0 0)]) (fun x=>[(b0,lM s x.1)]) ((0,((s.length:Int)==n))) [some (b0+112)] ?_ ?_ ?_;(focus (refine⟨?_,?_⟩<;>(try simp only[aE,oS,kD,al,aj,ai,aq,seval])<;>(try omega))))
 ·exact⟨Nat.zero_le _,rfl⟩
 ·rintro ⟨p,b⟩ ⟨h1,h2⟩
  dsimp only at h1 h2 ⊢
  by_cases hp:p<s.length
  ·obtain⟨c,hc⟩:=ic hp
   have hpi:=jB p s.length
   have hpj:(p:Int)<=(s.length:Int):=by omega
   have hda:=xL hc
   have hrl:=rune_le s p
   rcases Hx hc with ⟨hc1,hr⟩|⟨hc1,hr⟩
   ·have hz:((bx s p).1:Int)=(c.toNat:Int):=by rw[hr]
    have hk:(bx s p).2=1:=by rw[hr]
    have hb8:=IH hc1
    have q1:decide ((127:Int)<(c.toNat:Int))=false:=bi
    have q2:decide (127<c.toNat)=false:=bi
    have hdg:=Dz c
    rw[hda]at h2
    cases b with
    | true =>
     repeat' first|simp only[au,ap,zF,am,hp,h1,hpi,hpj,hz,q1,q2,hb8,Bt,aj,ai,seval]|exact rfl|refine aa (v:=.any) ?_|(first|(refine ah ?_ (hdg _) ?_)|(refine ac ?_ (fun _=>hdg _) ?_))|(refine lE (s:=?_) (y:=?_) (p:=?_) ?_ ?_ ?_ ?_;rotate_left 3;(iterate 2 (focus (simp only[zF,am,hp,h1,hpi,hpj,hz,q1,q2,hb8,Bt,aj,ai,seval]<;>exact rfl)));(focus (simp only[zF,am,hp,h1,hpi,hpj,hz,q1,q2,hb8,Bt,aj,ai,seval]<;>omega)))|(refine bo ?_)|(refine bc ?_)|((first|apply Ca|apply Cb)<;>intro hb)|refine Ai (by omega) ?_|(apply Ai<;>intro hb)
     all_goals ((refine de ((p+(bx s p).2,lf c)) [some b0] ?_ ?_ ?_;(focus (refine⟨?_,?_⟩<;>(try simp only[aE,oS,kD,al,aj,ai,aq,seval])<;>(try omega)))))
     all_goals (first|(show s.length-(p+(bx s p).2)<s.length-p;omega)|exact⟨by show p+(bx s p).2<=_;omega,by rw[h2,hk];rfl⟩|skip)
    | false =>
     have hF:jl s n=false:=by rw[h2];rfl
     (repeat' first|simp only[au,ap,zF,am,hF,hp,h1,hpi,hpj,hz,q1,q2,Bf,aj,ai,seval]|exact rfl|refine aa (v:=.any) ?_|(refine lE (s:=?_) (y:=?_) (p:=?_) ?_ ?_ ?_ ?_;rotate_left 3;(iterate 2 (focus (simp only[zF,am,hF,hp,h1,hpi,hpj,hz,q1,q2,Bf,aj,ai,seval]<;>exact rfl)));(focus (simp only[zF,am,hF,hp,h1,hpi,hpj,hz,q1,q2,Bf,aj,ai,seval]<;>omega)))|(refine bo ?_)|(refine bc ?_)|((first|apply Ca|apply Cb)<;>intro hb)|refine Ai (by omega) ?_|(apply Ai<;>intro hb)|apply Fin.pure|simp only[aq])
   ·have hF:jl s n=false:=by rw[h2,hda,Jy hc1];simp
    have q1:decide ((127:Int)<((bx s p).1:Int))=true:=dh
    have q2:decide (127<(bx s p).1)=true:=dh
    (repeat' first|simp only[au,ap,zF,am,hF,hp,h1,hpi,hpj,q1,q2,Bool.true_or,aj,ai,seval]|exact rfl|refine aa (v:=.any) ?_|(refine lE (s:=?_) (y:=?_) (p:=?_) ?_ ?_ ?_ ?_;rotate_left 3;(iterate 2 (focus (simp only[zF,am,hF,hp,h1,hpi,hpj,q1,q2,Bool.true_or,aj,ai,seval]<;>exact rfl)));(focus (simp only[zF,am,hF,hp,h1,hpi,hpj,q1,q2,Bool.true_or,aj,ai,seval]<;>omega)))|(refine bo ?_)|(refine bc ?_)|((first|apply Ca|apply Cb)<;>intro hb)|refine Ai (by omega) ?_|(apply Ai<;>intro hb)|apply Fin.pure|simp only[aq])
  ·have hpe:p=s.length:=by omega
   subst hpe
   have hF:jl s n=b:=by rw[h2,List.drop_length];simp
   (repeat' first|simp only[au,ap,zF,am,hF,aH,aO,Nat.le_refl,aj,ai,seval]|exact rfl|refine aa (v:=.any) ?_|(refine xX (s:=?_) (y:=?_) (p:=?_) ?_ ?_ ?_ ?_;rotate_left 3;(iterate 2 (focus (simp only[zF,am,hF,aH,aO,Nat.le_refl,aj,ai,seval]<;>exact rfl)));(focus (simp only[zF,am,hF,aH,aO,Nat.le_refl,aj,ai,seval]<;>omega)))|(refine bo ?_)|(refine bc ?_)|((first|apply Ca|apply Cb)<;>intro hb)|refine Ai (by omega) ?_|(apply Ai<;>intro hb)|apply Fin.pure|simp only[aq])
def rN (c:UInt8):Int:=if 48<=c.toNat/\c.toNat<=57 then (c.toNat:Int)-48 else if 97<=c.toNat/\c.toNat<=102 then (c.toNat:Int)-87 else 0
def rH (c:UInt8):Bool:=(decide (48<=c.toNat)&&decide (c.toNat<=57))||(decide (97<=c.toNat)&&decide (c.toNat<=102))
def Ov (c:UInt8):rH c=lf c:=by
 have key:∀ n:Fin 256,rH (UInt8.ofNat n.val)=lf (UInt8.ofNat n.val):=by decide +kernel
 have:=key ⟨c.toNat,c.toNat_lt⟩
 simpa using this
def yT (c:UInt8)(nm:Nat):Ev cx 95 nm [.int .u8 c.toNat] ao.nil (.tup [.int .i64 (rN c),.bool (lf c)]) []:=by
 have hc:=c.toNat_lt
 rw[<- Ov]
 unfold rN rH
 have e1:decide ((48:Int)<=(c.toNat:Int))=decide (48<=c.toNat):=by rw[Bool.eq_iff_iff];simp;omega
 have e2:decide ((c.toNat:Int)<=57)=decide (c.toNat<=57):=by rw[Bool.eq_iff_iff];simp;omega
 have e3:decide ((97:Int)<=(c.toNat:Int))=decide (97<=c.toNat):=by rw[Bool.eq_iff_iff];simp;omega
 have e4:decide ((c.toNat:Int)<=102)=decide (c.toNat<=102):=by rw[Bool.eq_iff_iff];simp;omega
 by_cases h1:48<=c.toNat/\c.toNat<=57
 ·have d1:=decide_eq_true h1.1
  have d2:=decide_eq_true h1.2
  have w1:IntKind.i64.wrap ((c.toNat:Int)-48)=(c.toNat:Int)-48:=bH
  have w2:IntKind.i64.wrap (c.toNat:Int)=(c.toNat:Int):=bH
  rw[if_pos h1]
  refine aX call95 func95 ?_;intro b0 hb0
  (repeat' first|simp only[au,ap,results95,ntmps95,am,e1,e2,e3,e4,d1,d2,w1,w2,ge_iff_le,Bool.and_self,Bool.true_or,aj,ai,seval]|exact rfl|refine aa (v:=.any) ?_|((first|apply Ca|apply Cb)<;>intro hb)|refine Ai (by omega) ?_|(apply Ai<;>intro hb)|apply Fin.pure|simp only[aq])
 ·have d0:(decide (48<=c.toNat)&&decide (c.toNat<=57))=false:=by
   rw[Bool.and_eq_false_iff,decide_eq_false_iff_not,decide_eq_false_iff_not];omega
  rw[if_neg h1]
  by_cases h2:97<=c.toNat/\c.toNat<=102
  ·have d1:=decide_eq_true h2.1
   have d2:=decide_eq_true h2.2
   have w1:IntKind.i64.wrap ((c.toNat:Int)-87)=(c.toNat:Int)-87:=bH
   have w2:IntKind.i64.wrap (c.toNat:Int)=(c.toNat:Int):=bH
   rw[if_pos h2]
   refine aX call95 func95 ?_;intro b0 hb0
   (repeat' first|simp only[au,ap,results95,ntmps95,am,e1,e2,e3,e4,d0,d1,d2,w1,w2,ge_iff_le,Bool.and_self,Bool.false_or,aj,ai,seval]|exact rfl|refine aa (v:=.any) ?_|((first|apply Ca|apply Cb)<;>intro hb)|refine Ai (by omega) ?_|(apply Ai<;>intro hb)|apply Fin.pure|simp only[aq])
  ·have d1:(decide (97<=c.toNat)&&decide (c.toNat<=102))=false:=by
    rw[Bool.and_eq_false_iff,decide_eq_false_iff_not,decide_eq_false_iff_not];omega
   rw[if_neg h2]
   refine aX call95 func95 ?_;intro b0 hb0
   (repeat' first|simp only[au,ap,results95,ntmps95,am,e1,e2,e3,e4,d0,d1,ge_iff_le,Bool.or_self,aj,ai,seval]|exact rfl|refine aa (v:=.any) ?_|((first|apply Ca|apply Cb)<;>intro hb)|refine Ai (by omega) ?_|(apply Ai<;>intro hb)|apply Fin.pure|simp only[aq])
def yU (s:List UInt8)(n:Int)(hs:s.length<=aT)(nm:Nat):Ev cx 45 nm [.str s,.int .i64 n] ao.nil (.bool (jl s n)) []:=by
 unfold aT at hs
 unfold jl
 refine aX call45 func45 ?_;intro b0 hb0;have zF:=Ai results45 ntmps45
 repeat' first|simp only[au,ap,zF,am,aj,ai,seval]|exact rfl|refine aa (v:=.any) ?_|((first|apply Ca|apply Cb)<;>intro hb)|refine Ai (by omega) ?_|(apply Ai<;>intro hb)
 (refine ew (fun x:Nat=>s.length-x) (fun x=>x<=s.length/\s.all lf=(s.drop x).all lf) (b0+16) (fun x=>[(0,.str s),(1,.int .i64 n),(5,.int .i64 x)]) (fun x=>[]) (0) [] ?_ ?_ ?_;(focus (refine⟨?_,?_⟩<;>(try simp only[aE,List.take_zero,aj,ai,aq,seval])<;>(try omega))))
 ·exact⟨Nat.zero_le _,rfl⟩
 ·rintro k ⟨hk,hin⟩
  by_cases hlt:k<s.length
  ·obtain⟨c,hc⟩:=ic hlt
   have d1:=sC k s.length
   have d2:=decide_eq_true hlt
   have hki:=jB k s.length
   have hwk:=eD k
   have hdg:=yT c
   have hda:=xL hc
   rw[hda]at hin
   cases hx:lf c with
   | true =>
    rw[hx]at hdg hin
    repeat' first|simp only[au,ap,zF,am,hc,hlt,hki,d1,d2,hwk,Option.getD_some,Bt,aj,ai,seval]|exact rfl|refine aa (v:=.any) ?_|(first|(refine ah ?_ (hdg _) ?_)|(refine ac ?_ (fun _=>hdg _) ?_))|((first|apply Ca|apply Cb)<;>intro hb)|refine Ai (by omega) ?_|(apply Ai<;>intro hb)
    all_goals ((refine de (k+1) [] ?_ ?_ ?_;(focus (refine⟨?_,?_⟩<;>(try simp only[aE,hwk,aj,ai,aq,seval])<;>(try omega)))))
    all_goals (first|(show s.length-(k+1)<s.length-k;omega)|exact⟨hlt,by rw[hin];rfl⟩|skip)
   | false =>
    rw[hx]at hdg hin
    have hr:s.all lf=false:=by rw[hin];rfl
    (repeat' first|simp only[au,ap,zF,am,hr,hc,hlt,hki,d1,d2,hwk,Option.getD_some,Bf,Bool.and_false,aj,ai,seval]|exact rfl|refine aa (v:=.any) ?_|(first|(refine ah ?_ (hdg _) ?_)|(refine ac ?_ (fun _=>hdg _) ?_))|((first|apply Ca|apply Cb)<;>intro hb)|refine Ai (by omega) ?_|(apply Ai<;>intro hb)|apply Fin.pure|simp only[aq])
  ·have hke:k=s.length:=by omega
   subst hke
   have d1:=nu s.length s.length
   have d2:decide (s.length<s.length)=false:=bi
   have hr:s.all lf=true:=by rw[hin,List.drop_length];rfl
   (repeat' first|simp only[au,ap,zF,am,hr,d1,d2,Bool.and_true,aj,ai,seval]|exact rfl|refine aa (v:=.any) ?_|((first|apply Ca|apply Cb)<;>intro hb)|refine Ai (by omega) ?_|(apply Ai<;>intro hb)|apply Fin.pure|simp only[aq])
def Ay (l:List Int)(f:Nat)(caps:List V)(p:Int->Bool)(hf:∀ h∈l,∀ nm,Ev cx f nm (.int .i64 h::caps) ao.nil (.bool (p h)) [])(hn:l.length<=aT)(hpl:plainL caps=true)(nm:Nat):Ev cx 113 nm [.sl false 1 (l.map cH),.fn f caps] ao.nil (.int .i64 (yw (l.findIdx? p))) []:=by
 unfold aT at hn
 refine aX call113 func113 ?_;intro b0 hb0
 refine wR (a2 (results113) (ntmps113)) trivial ?_
 (refine ew (fun x:Nat=>l.length-x) (fun x=>x<=l.length/\(l.take x).any p=false) (b0+16) (fun x=>[(0,.sl false 1 (l.map cH)),(1,.fn f caps),(7,.int .i64 l.length),(8,.int .i64 x)]) (fun x=>[]) (0) [] ?_ ?_ ?_;(focus (refine⟨?_,?_⟩<;>(try simp only[aE,Lm,cR,bd hpl,aU hpl,aj,ai,aq,seval])<;>(try omega))))
 ·exact⟨Nat.zero_le _,by simp⟩
 ·rintro k ⟨hk,hno⟩
  by_cases hlt:k<l.length
  ·obtain⟨h,hh⟩:=ic hlt
   have hat:(l.map cH)[k]? = some (cH h):=by rw[List.getElem?_map,hh];rfl
   have hd:=decide_eq_true hlt
   have hwk:=eD k
   have hfh:=hf h (List.mem_of_getElem? hh)
   cases hp:p h with
   | true =>
    have hfd:=iQ hno hh hp
    rw[hp]at hfh
    (repeat' first|simp only[au,ap,results113,ntmps113,am,hat,cH,hlt,hd,hwk,hfd,br,Lm,aj,ai,seval]|exact rfl|refine aa (v:=.any) ?_|refine bw (g:=f) (caps:=caps) (by simp only[results113,ntmps113,am,hat,cH,hlt,hd,hwk,hfd,br,Lm,aj,ai,seval]<;>exact rfl) (by simp only[results113,ntmps113,am,hat,cH,hlt,hd,hwk,hfd,br,Lm,aj,ai,seval]<;>exact rfl) (hfh _) ?_|((first|apply Ca|apply Cb)<;>intro hb)|refine Ai (by omega) ?_|(apply Ai<;>intro hb)|apply Fin.pure|simp only[aq])
   | false =>
    have hn':=cB (p:=p) hno hh hp
    rw[hp]at hfh
    repeat' first|simp only[au,ap,results113,ntmps113,am,hat,cH,hlt,hd,hwk,Lm,aj,ai,seval]|exact rfl|refine aa (v:=.any) ?_|refine bw (g:=f) (caps:=caps) (by simp only[results113,ntmps113,am,hat,cH,hlt,hd,hwk,Lm,aj,ai,seval]<;>exact rfl) (by simp only[results113,ntmps113,am,hat,cH,hlt,hd,hwk,Lm,aj,ai,seval]<;>exact rfl) (hfh _) ?_|((first|apply Ca|apply Cb)<;>intro hb)|refine Ai (by omega) ?_|(apply Ai<;>intro hb)
    all_goals ((refine de (k+1) [] ?_ ?_ ?_;(focus (refine⟨?_,?_⟩<;>(try simp only[aE,cR,bd hpl,aU hpl,hwk,aj,ai,aq,seval])<;>(try omega)))))
    all_goals (first|(show l.length-(k+1)<l.length-k;omega)|exact⟨hlt,hn'⟩|skip)
  ·have hke:k=l.length:=by omega
   subst hke
   rw[List.take_length]at hno
   have hfd:=fC hno
   have hd:decide (l.length<l.length)=false:=bi
   exact wP (a5 (results113) (ntmps113) hd hfd @cK) trivial
def tR (l:List Int)(f:Nat)(caps:List V)(p:Int->Bool)(hf:∀ h∈l,∀ nm,Ev cx f nm (.int .i64 h::caps) ao.nil (.bool (p h)) [])(hn:l.length<=aT)(hpl:plainL caps=true)(nm:Nat):Ev cx 66 nm [.sl false 1 (l.map cH),.fn f caps] ao.nil (.bool (l.any p)) []:=by
 have hi:=Ay l f caps p hf hn hpl
 cases h:l.findIdx? p with
 | none =>
  have ha:l.any p=false:=lm h
  rw[h]at hi
  refine aX call66 func66 ?_;intro b0 hb0
  exact wP (a4 (results66) (ntmps66) ha @cK) hi
 | some n =>
  have ha:l.any p=true:=ln h
  rw[h]at hi
  have hz:decide ((0:Int)<=(n:Int))=true:=dh
  refine aX call66 func66 ?_;intro b0 hb0
  exact wP (a5 (results66) (ntmps66) ha @br hz) hi
def AB (l:List (List UInt8))(f:Nat)(caps:List V)(p:(List UInt8)->Bool)(hf:∀ h∈l,∀ nm,Ev cx f nm (.str h::caps) ao.nil (.bool (p h)) [])(hn:l.length<=aT)(hpl:plainL caps=true)(nm:Nat):Ev cx 114 nm [.sl false 1 (l.map gS),.fn f caps] ao.nil (.int .i64 (yw (l.findIdx? p))) []:=by
 unfold aT at hn
 refine aX call114 func114 ?_;intro b0 hb0
 refine wR (a2 (results114) (ntmps114)) trivial ?_
 (refine ew (fun x:Nat=>l.length-x) (fun x=>x<=l.length/\(l.take x).any p=false) (b0+16) (fun x=>[(0,.sl false 1 (l.map gS)),(1,.fn f caps),(7,.int .i64 l.length),(8,.int .i64 x)]) (fun x=>[]) (0) [] ?_ ?_ ?_;(focus (refine⟨?_,?_⟩<;>(try simp only[aE,Lm,aw,bd hpl,aU hpl,aj,ai,aq,seval])<;>(try omega))))
 ·exact⟨Nat.zero_le _,by simp⟩
 ·rintro k ⟨hk,hno⟩
  by_cases hlt:k<l.length
  ·obtain⟨h,hh⟩:=ic hlt
   have hat:(l.map gS)[k]? = some (gS h):=by rw[List.getElem?_map,hh];rfl
   have hd:=decide_eq_true hlt
   have hwk:=eD k
   have hfh:=hf h (List.mem_of_getElem? hh)
   cases hp:p h with
   | true =>
    have hfd:=iQ hno hh hp
    rw[hp]at hfh
    (repeat' first|simp only[au,ap,results114,ntmps114,am,hat,gS,hlt,hd,hwk,hfd,br,Lm,aj,ai,seval]|exact rfl|refine aa (v:=.any) ?_|refine bw (g:=f) (caps:=caps) (by simp only[results114,ntmps114,am,hat,gS,hlt,hd,hwk,hfd,br,Lm,aj,ai,seval]<;>exact rfl) (by simp only[results114,ntmps114,am,hat,gS,hlt,hd,hwk,hfd,br,Lm,aj,ai,seval]<;>exact rfl) (hfh _) ?_|((first|apply Ca|apply Cb)<;>intro hb)|refine Ai (by omega) ?_|(apply Ai<;>intro hb)|apply Fin.pure|simp only[aq])
   | false =>
    have hn':=cB (p:=p) hno hh hp
    rw[hp]at hfh
    repeat' first|simp only[au,ap,results114,ntmps114,am,hat,gS,hlt,hd,hwk,Lm,aj,ai,seval]|exact rfl|refine aa (v:=.any) ?_|refine bw (g:=f) (caps:=caps) (by simp only[results114,ntmps114,am,hat,gS,hlt,hd,hwk,Lm,aj,ai,seval]<;>exact rfl) (by simp only[results114,ntmps114,am,hat,gS,hlt,hd,hwk,Lm,aj,ai,seval]<;>exact rfl) (hfh _) ?_|((first|apply Ca|apply Cb)<;>intro hb)|refine Ai (by omega) ?_|(apply Ai<;>intro hb)
    all_goals ((refine de (k+1) [] ?_ ?_ ?_;(focus (refine⟨?_,?_⟩<;>(try simp only[aE,aw,bd hpl,aU hpl,hwk,aj,ai,aq,seval])<;>(try omega)))))
    all_goals (first|(show l.length-(k+1)<l.length-k;omega)|exact⟨hlt,hn'⟩|skip)
  ·have hke:k=l.length:=by omega
   subst hke
   rw[List.take_length]at hno
   have hfd:=fC hno
   have hd:decide (l.length<l.length)=false:=bi
   exact wP (a5 (results114) (ntmps114) hd hfd @cK) trivial
def tS (l:List (List UInt8))(f:Nat)(caps:List V)(p:(List UInt8)->Bool)(hf:∀ h∈l,∀ nm,Ev cx f nm (.str h::caps) ao.nil (.bool (p h)) [])(hn:l.length<=aT)(hpl:plainL caps=true)(nm:Nat):Ev cx 68 nm [.sl false 1 (l.map gS),.fn f caps] ao.nil (.bool (l.any p)) []:=by
 have hi:=AB l f caps p hf hn hpl
 cases h:l.findIdx? p with
 | none =>
  have ha:l.any p=false:=lm h
  rw[h]at hi
  refine aX call68 func68 ?_;intro b0 hb0
  exact wP (a4 (results68) (ntmps68) ha @cK) hi
 | some n =>
  have ha:l.any p=true:=ln h
  rw[h]at hi
  have hz:decide ((0:Int)<=(n:Int))=true:=dh
  refine aX call68 func68 ?_;intro b0 hb0
  exact wP (a5 (results68) (ntmps68) ha @br hz) hi
def fy (n:Int):Bool:=decide (n < -1)||decide (9007199254740991<n)
def fc (s:List UInt8):Bool:=aF s != 0
def CU (n:Int)(nm:Nat):Ev cx 67 nm [.int .i64 n] ao.nil (.bool (fy n)) []:=by
 unfold fy
 cases h:decide (n < -1)<;>(
  refine aX call67 func67 ?_;intro b0 hb0
  (repeat' first|simp only[au,ap,results67,ntmps67,am,h,gt_iff_lt,Bool.false_or,Bool.true_or,aj,ai,seval]|exact rfl|refine aa (v:=.any) ?_|((first|apply Ca|apply Cb)<;>intro hb)|refine Ai (by omega) ?_|(apply Ai<;>intro hb)|apply Fin.pure|simp only[aq]))
def FD (l:List Int)(hl:l.length<=aT)(nm:Nat):Ev cx 25 nm [.sl false 1 (l.map cH)] ao.nil (.bool (!l.any fy)) []:=by
 have hc:=tR l 67 [] fy (fun n _ nm=>CU n nm) hl rfl
 refine aX call25 func25 ?_;intro b0 hb0
 exact wP (a3 results25 ntmps25 @cR) hc
def ES (s:List UInt8)(hs:s.length<=aT)(nm:Nat):Ev cx 69 nm [.str s] ao.nil (.bool (fc s)) []:=by
 have hc:=db s hs
 unfold fc
 refine aX call69 func69 ?_;intro b0 hb0
 exact wP (a2 results69 ntmps69) hc
def HZ (l:List (List UInt8))(hl:l.length<=aT)(hs:∀ s∈l,s.length<=aT)(nm:Nat):Ev cx 26 nm [.sl false 1 (l.map gS)] ao.nil (.bool (!l.any fc)) []:=by
 have hc:=tS l 69 [] fc (fun s h nm=>ES s (hs s h) nm) hl rfl
 refine aX call26 func26 ?_;intro b0 hb0
 exact wP (a3 results26 ntmps26 @aw) hc
def xK (s:List UInt8)(hs:s.length<=aT)(nm:Nat):Ev cx 22 nm [.str s] ao.nil (.bool (jl s 40)) []:=by
 have hc:=My s 40 hs
 refine aX call22 func22 ?_;intro b0 hb0
 exact wP (a2 results22 ntmps22) hc
def qP (v:List Nd):Bool:=cn v != 0
def JQ (v:List Nd)(hv:v.length<=aT)(hok:∀ n∈v,n.okTo aT/\n.i64)(nm:Nat):Ev cx 23 nm [c8 v] ao.nil (.bool (qP v)) []:=by
 have hc:=pm v hv hok
 unfold qP c8
 refine aX call23 func23 ?_;intro b0 hb0
 exact wP (a3 results23 ntmps23 @ae) hc
def jY (n:Int)(nm:Nat):Ev cx 43 nm [.int .i64 n] ao.nil (.bool (!fy n)) []:=by
 have e:(!fy n)=(decide (-1<=n)&&decide (n<=9007199254740991)):=by
  unfold fy
  rw[Bool.eq_iff_iff];simp
 rw[e]
 cases h:decide (-1<=n)<;>(
  refine aX call43 func43 ?_;intro b0 hb0
  (repeat' first|simp only[au,ap,results43,ntmps43,am,h,ge_iff_le,Bool.false_and,Bool.true_and,aj,ai,seval]|exact rfl|refine aa (v:=.any) ?_|((first|apply Ca|apply Cb)<;>intro hb)|refine Ai (by omega) ?_|(apply Ai<;>intro hb)|apply Fin.pure|simp only[aq]))
def oW (s:List UInt8)(hs:s.length<=aT)(nm:Nat):Ev cx 46 nm [.str s] ao.nil (.bool (!fc s)) []:=by
 have hc:=fN s hs
 have e:(!fc s)=(aF s==0):=by simp[fc,bne]
 rw[e]
 refine aX call46 func46 ?_;intro b0 hb0
 exact wP (a2 results46 ntmps46) hc
structure Ak where
 rid:Int
 sid:List UInt8
 dst:List UInt8
 src:List UInt8
 lang:List UInt8
 wait:Int
 hold:Int
 great:Int
 small:Int
 ack:Int
 pause:Int
 key:List UInt8
 fresh:List UInt8
 fin:Bool
 rst:Bool
 load:List (List Nd)
def aV (a:Ak)(L:V):List V:=[.int .i64 a.rid,.str a.sid,.str a.dst,.str a.src,.str a.lang,.int .i64 a.wait,.int .i64 a.hold,.int .i64 a.great,.int .i64 a.small,.int .i64 a.ack,.int .i64 a.pause,.str a.key,.str a.fresh,.bool a.fin,.bool a.rst,L]
def aQ (a:Ak):List V:=aV a (.sl false 1 (a.load.map aR))
def f64 (n:Int):Prop:=-9223372036854775808<=n/\n<=9223372036854775807
structure Ak.ok (a:Ak):Prop where
 s1:a.sid.length<=aT
 s2:a.dst.length<=aT
 s3:a.src.length<=aT
 s4:a.lang.length<=aT
 s5:a.key.length<=aT
 s6:a.fresh.length<=aT
 n1:f64 a.rid
 n2:f64 a.wait
 n3:f64 a.hold
 n4:f64 a.great
 n5:f64 a.small
 n6:f64 a.ack
 n7:f64 a.pause
 l1:a.load.length<=aT
 l2:∀ v∈a.load,v.length<=aT /\ ∀ n∈v,n.okTo aT/\n.i64
def pY (l:List (List Nd)):Nat:=(l.map List.length).sum
def gB (v:List Nd):Bool:=kq v 40 1000
def kp (a:Ak):Bool :=
 decide (1000<a.sid.length+a.dst.length)||decide (1000<a.src.length+a.lang.length)||decide (1000<a.key.length+a.fresh.length)||decide (20<a.load.length)||a.load.any gB||decide (100<pY a.load)
def vq {l:List (List Nd)}{k:Nat}{v:List Nd}(h:l[k]? = some v):pY (l.take (k+1))=pY (l.take k)+v.length:=by
 obtain⟨hk,rfl⟩:=List.getElem?_eq_some_iff.1 h
 unfold pY
 rw[List.take_succ_eq_append_getElem hk]
 simp only[List.map_append,Lc,Lo,List.sum_append,List.sum_cons,List.sum_nil]
 omega
def KI {l:List (List Nd)}{k:Nat}(h:(l.take k).any gB=false):pY (l.take k)<=40*k:=by
 induction k with
 | zero=>simp[pY]
 | succ k ih =>
  cases hv:l[k]? with
  | some v =>
   obtain⟨hk,rfl⟩:=List.getElem?_eq_some_iff.1 hv
   rw[List.take_succ_eq_append_getElem hk,List.any_append,Bool.or_eq_false_iff]at h
   rw[vq hv]
   have h1:=ih h.1
   have h2:gB l[k]=false:=by simpa using h.2
   have:=(jw (by omega) (by omega) h2).1
   omega
  | none =>
   have hk:=List.getElem?_eq_none_iff.1 hv
   have e:l.take (k+1)=l.take k:=by rw[List.take_of_length_le (by omega),List.take_of_length_le hk]
   rw[e]at h ⊢
   have:=ih h
   omega
def sA (a:Ak)(h:a.ok)(nm:Nat):Ev cx 4 nm [.agg (aQ a)] ao.nil (.bool (kp a)) []:=by
 obtain⟨s1,s2,s3,s4,s5,s6,_,_,_,_,_,_,_,l1,l2⟩:=h
 unfold aT at s1 s2 s3 s4 s5 s6 l1
 have w1:IntKind.i64.wrap ((a.sid.length:Int)+(a.dst.length:Int))=((a.sid.length+a.dst.length:Nat):Int):=by rw[bH];omega
 have w2:IntKind.i64.wrap ((a.src.length:Int)+(a.lang.length:Int))=((a.src.length+a.lang.length:Nat):Int):=by rw[bH];omega
 have w3:IntKind.i64.wrap ((a.key.length:Int)+(a.fresh.length:Int))=((a.key.length+a.fresh.length:Nat):Int):=by rw[bH];omega
 have c1:decide ((1000:Int)<((a.sid.length+a.dst.length:Nat):Int))=decide (1000<a.sid.length+a.dst.length):=by rw[Bool.eq_iff_iff];simp;omega
 have c2:decide ((1000:Int)<((a.src.length+a.lang.length:Nat):Int))=decide (1000<a.src.length+a.lang.length):=by rw[Bool.eq_iff_iff];simp;omega
 have c3:decide ((1000:Int)<((a.key.length+a.fresh.length:Nat):Int))=decide (1000<a.key.length+a.fresh.length):=by rw[Bool.eq_iff_iff];simp;omega
 have c4:decide ((20:Int)<(a.load.length:Int))=decide (20<a.load.length):=by rw[Bool.eq_iff_iff];simp;omega
 by_cases hb:(decide (1000<a.sid.length+a.dst.length)||decide (1000<a.src.length+a.lang.length)||decide (1000<a.key.length+a.fresh.length)||decide (20<a.load.length))=true
 ·have hg:kp a=true:=by unfold kp;rw[hb];rfl
  rw[hg]
  refine aX call4 func4 ?_;intro b0 hb0
  exact wP (a5 results4 ntmps4 @aQ.eq_1 @aV.eq_1 (a9 w1 w2 w3 c1 c2 c3 c4 hb @ad)) trivial
 ·have hb:(decide (1000<a.sid.length+a.dst.length)||decide (1000<a.src.length+a.lang.length)||decide (1000<a.key.length+a.fresh.length)||decide (20<a.load.length))=false:=by simpa using hb
  have hl:a.load.length<=20:=by
   simp only[Bool.or_eq_false_iff,decide_eq_false_iff_not]at hb;omega
  have hg:kp a=(a.load.any gB||decide (100<pY a.load)):=by unfold kp;rw[hb];simp
  have hz:pY []=0:=rfl
  rw[hg]
  clear hg
  refine aX call4 func4 ?_;intro b0 hb0
  refine wR (a5 results4 ntmps4 @aQ.eq_1 @aV.eq_1 (a9 w1 w2 w3 c1 c2 c3 c4 hb @ad)) trivial ?_
  (refine ew (fun x:Nat=>a.load.length-x) (fun x=>x<=a.load.length/\(a.load.take x).any gB=false) (b0+16) (fun x=>[(1,.ptr b0 0 0),(3,.int .i64 (pY (a.load.take x))),(4,.int .i64 x)]) (fun x=>[(b0,⟨16,[aV a (.sl false 1 (a.load.map aR))]⟩)]) (0) [some b0] ?_ ?_ ?_;(focus (refine⟨?_,?_⟩<;>(try simp only[aE,hz,List.take_zero,Int.natCast_zero,aQ,aV,ad,al,Lm,aj,ai,aq,seval])<;>(try omega))))
  ·exact⟨Nat.zero_le _,rfl⟩
  ·rintro k ⟨hk,hno⟩
   have hsl:=KI hno
   by_cases hlt:k<a.load.length
   ·obtain⟨v,hv⟩:=ic hlt
    have hvm:=List.mem_of_getElem? hv
    have hat:=lW hv
    have d1:=sC k a.load.length
    have d2:=decide_eq_true hlt
    have hki:=jB k a.load.length
    have hwk:=eD k
    have hgr:=Av v 40 1000 (by omega) (by omega) (l2 v hvm).1 (fun x hx=>((l2 v hvm).2 x hx).1)
    cases hgv:kq v 40 1000 with
    | true =>
     rw[hgv]at hgr
     have hA:a.load.any gB=true:=List.any_eq_true.2 ⟨v,hvm,hgv⟩
     rw[hA]
     exact wP (a4 results4 ntmps4 @aV.eq_1 (a9 hat @aR.eq_1 hlt hki d1 d2 hwk @ae @ad)) hgr
    | false =>
     rw[hgv]at hgr
     have hvl:=(jw (by omega) (by omega) hgv).1
     have hst:=vq hv
     have hws:IntKind.i64.wrap ((pY (a.load.take k):Int)+(v.length:Int))=((pY (a.load.take (k+1)):Nat):Int):=by rw[hst,bH];omega
     have hn':=cB (p:=gB) hno hv hgv
     clear hst
     refine wR (a5 results4 ntmps4 @aV.eq_1 hat (a9 @aR.eq_1 hlt hki d1 d2 hwk hws @ae @ad)) hgr ?_
     all_goals ((refine de (k+1) [some b0] ?_ ?_ ?_;(focus (refine⟨?_,?_⟩<;>(try simp only[aE,aV,hws,hwk,ad,al,Lm,aj,ai,aq,seval])<;>(try omega)))))
     all_goals (first|(show a.load.length-(k+1)<a.load.length-k;omega)|exact⟨hlt,hn'⟩|skip)
   ·have hke:k=a.load.length:=by omega
    subst hke
    rw[List.take_length]at hno hsl
    have hd:decide (a.load.length<a.load.length)=false:=bi
    have hd1:=nu a.load.length a.load.length
    have c5:decide ((100:Int)<(pY a.load:Int))=decide (100<pY a.load):=by rw[Bool.eq_iff_iff];simp;omega
    rw[hno]
    exact wP (a6 results4 ntmps4 @aV.eq_1 hd hd1 c5) trivial
def ep (n:Int):List UInt8:=if 0<=n/\n<=9007199254740991 then dC n.toNat else []
def Bz (a:Ak):List UInt8:=if a.great<0 then [] else ep a.great++[46]++ep a.small
def sj (b:Bool)(s:List UInt8):List UInt8:=if b=true then s else []
def iM (n:Int):(ep n).length<=16:=by
 unfold ep
 split
 ·exact rT 15 n.toNat (Nat.lt_of_le_of_lt (by omega:n.toNat<=9007199254740991) (by decide))
 ·simp
def pp (n:Int)(nm:Nat):Ev cx 75 nm [.int .i64 n] ao.nil (.str (ep n)) []:=by
 unfold ep
 by_cases h:0<=n/\n<=9007199254740991
 ·obtain⟨k,rfl⟩:=Int.eq_ofNat_of_zero_le h.1
  have hw:=yO k (by omega)
  rw[if_pos h,Int.toNat_natCast]
  refine aX call75 func75 ?_;intro b0 hb0
  exact wP (a2 results75 ntmps75) hw
 ·have hw:=yP n h
  rw[if_neg h]
  refine aX call75 func75 ?_;intro b0 hb0
  exact wP (a2 results75 ntmps75) hw
section
variable (cs:List V) (nm:Nat)
def iX (n:Int):Ev cx 74 nm [.rp [.rp (.int .i64 n::cs)]] ao.nil (.str (ep n)) []:=by
 have h:=pp n
 refine aX call74 func74 ?_;intro b0 hb0
 exact wP (a2 results74 ntmps74) h
def iJ (s:List UInt8):Ev cx 77 nm [.rp [.rp (.str s::cs)]] ao.nil (.str s) []:=by
 refine aX call77 func77 ?_;intro b0 hb0
 exact wP (a2 results77 ntmps77) trivial
def x6 (b:Bool)(s:List UInt8)(r:List (List V)):Ev cx 83 nm [.rp [.rp (.bool b::cs)],.rp [.sl false 1 ([.str s]::r)]] ao.nil (.str (sj b s)) []:=by
 unfold sj
 cases b<;>(
  refine aX call83 func83 ?_;intro b0 hb0
  exact wP (a2 results83 ntmps83) trivial)
def K3 (a:Ak)(L:V):Ev cx 80 nm [.rp [.rp (aV a L)]] ao.nil (.str (Bz a)) []:=by
 have h1:=pp a.great
 have h2:=pp a.small
 have l1:=iM a.great
 have l2:=iM a.small
 unfold Bz aV
 generalize ep a.great=x at h1 l1 ⊢
 generalize ep a.small=y at h2 l2 ⊢
 by_cases h:a.great<0
 ·have d:=decide_eq_true h
  rw[if_pos h]
  refine aX call80 func80 ?_;intro b0 hb0;have zF:=Ai results80 ntmps80
  (repeat' first|simp only[au,ap,zF,am,d,aj,ai,seval]|exact rfl|refine aa (v:=.any) ?_|refine ag (ps:=[(4,6),(4,9)]) (by decide +kernel) (by simp only[List.forall_mem_cons,List.getD_cons_zero,List.getD_cons_succ,zF,am,d,aj,ai,seval]<;>(try simp)<;>(try omega)) ?_|refine av (by decide +kernel) ?_|((first|apply Ca|apply Cb)<;>intro hb)|refine Ai (by omega) ?_|(apply Ai<;>intro hb)|apply Fin.pure|simp only[aq])
 ·have d:=decide_eq_false h
  rw[if_neg h]
  refine aX call80 func80 ?_;intro b0 hb0;have zF:=Ai results80 ntmps80
  (repeat' first|simp only[au,ap,zF,am,d,List.length_append,List.length_cons,List.length_nil,aj,ai,seval]|exact rfl|refine aa (v:=.any) ?_|((first|(refine ah ?_ (h1 _) ?_)|(refine ac ?_ (fun _=>h1 _) ?_));(focus (simp only[zF,am,d,List.length_append,List.length_cons,List.length_nil,aj,ai,seval]<;>exact rfl)))|((first|(refine ah ?_ (h2 _) ?_)|(refine ac ?_ (fun _=>h2 _) ?_));(focus (simp only[zF,am,d,List.length_append,List.length_cons,List.length_nil,aj,ai,seval]<;>exact rfl)))|refine ag (ps:=[(4,6),(4,9)]) (by decide +kernel) (by simp only[List.forall_mem_cons,List.getD_cons_zero,List.getD_cons_succ,zF,am,d,List.length_append,List.length_cons,List.length_nil,aj,ai,seval]<;>(try simp)<;>(try omega)) ?_|refine av (by decide +kernel) ?_|((first|apply Ca|apply Cb)<;>intro hb)|refine Ai (by omega) ?_|(apply Ai<;>intro hb)|apply Fin.pure|simp only[aq])
variable (hc:plainL cs=true)
include hc
def jQ (s:List UInt8):Ev cx 28 nm [.str s,.rp cs] ao.nil (.agg [.str [],.str s,.fn 72 [.rp [.rp cs]],.fn 74 [.rp [.rp cs]]]) []:=by
 refine aX call28 func28 ?_;intro b0 hb0
 exact wP (a5 results28 ntmps28 hc (bd hc) (aU hc)) trivial
def iK (s t:List UInt8)(f:Nat):Ev cx 29 nm [.str s,.str t,.rp cs,.fn f []] ao.nil (.agg [.str s,.str t,.fn 76 [.rp [.rp cs],.rp [.fn f []]],.fn 77 [.rp [.rp cs]]]) []:=by
 refine aX call29 func29 ?_;intro b0 hb0
 exact wP (a5 results29 ntmps29 hc (bd hc) (aU hc)) trivial
def Ny:Ev cx 31 nm [.rp cs] ao.nil (.agg [.str [],.str [118,101,114],.fn 78 [.rp [.rp cs]],.fn 80 [.rp [.rp cs]]]) []:=by
 refine aX call31 func31 ?_;intro b0 hb0
 exact wP (a5 results31 ntmps31 hc (bd hc) (aU hc)) trivial
def BV (s t:List UInt8)(y:List (List UInt8))(N:V)(hN:N = .nils \/ ∃ n:List (List UInt8),N = .sl false 1 (n.map gS)):Ev cx 32 nm [.str s,.str t,.rp cs,.sl false 1 (y.map gS),N] ao.nil (.agg [.str s,.str t,.fn 81 [.rp [.sl false 1 (y.map gS)],.rp [.rp cs],.rp [N]],.fn 83 [.rp [.rp cs],.rp [.sl false 1 (y.map gS)]]]) []:=by
 rcases hN with rfl|⟨n,rfl⟩<;>(
  refine aX call32 func32 ?_;intro b0 hb0
  exact wP (a6 results32 ntmps32 hc @aw (bd hc) (aU hc)) trivial)
end
def qx (a:Ak):List (List UInt8×List UInt8×List UInt8):=[([],[114,105,100],ep a.rid),([],[115,105,100],a.sid),([],[116,111],a.dst),([],[102,114,111,109],a.src),([104,116,116,112,58,47,47,119,119,119,46,119,51,46,111,114,103,47,88,77,76,47,49,57,57,56,47,110,97,109,101,115,112,97,99,101],[108,97,110,103],a.lang),([],[119,97,105,116],ep a.wait),([],[104,111,108,100],ep a.hold),([],[97,99,107],ep a.ack),([],[112,97,117,115,101],ep a.pause),([],[118,101,114],Bz a),([],[107,101,121],a.key),([],[110,101,119,107,101,121],a.fresh),([],[116,121,112,101],sj a.fin [116,101,114,109,105,110,97,116,101]),([117,114,110,58,120,109,112,112,58,120,98,111,115,104],[114,101,115,116,97,114,116],sj a.rst [116,114,117,101])]
def lU (s n v:List UInt8):List At:=if v=[] then [] else [⟨s,n,v⟩]
def o9 (a:Ak)(k:Nat):List At:=((qx a).take k).flatMap fun r=>lU r.1 r.2.1 r.2.2
def dM (a:Ak):Nd:=⟨1,[104,116,116,112,58,47,47,106,97,98,98,101,114,46,111,114,103,47,112,114,111,116,111,99,111,108,47,104,116,116,112,98,105,110,100],[98,111,100,121],(qx a).flatMap (fun r=>lU r.1 r.2.1 r.2.2),[],0⟩
def BL (a:Ak):o9 a 14=(dM a).attrs:=rfl
def xu {a:Ak}{k:Nat}{r:List UInt8×List UInt8×List UInt8}(h:(qx a)[k]? = some r):o9 a (k+1)=o9 a k++lU r.1 r.2.1 r.2.2:=by
 obtain⟨hk,rfl⟩:=List.getElem?_eq_some_iff.1 h
 unfold o9
 rw[List.take_succ_eq_append_getElem hk,List.flatMap_append]
 simp
def G3 (s n v:List UInt8):(lU s n v).length<=1:=by
 unfold lU
 split<;>simp
def qW (a:Ak):∀ k,(o9 a k).length<=k
 | 0=>by simp[o9]
 | k+1=>by
  have ih:=qW a k
  cases h:(qx a)[k]? with
  | some r =>
   rw[xu h,List.length_append]
   have:=G3 r.1 r.2.1 r.2.2
   omega
  | none =>
   have hk:=List.getElem?_eq_none_iff.1 h
   have e:o9 a (k+1)=o9 a k:=by unfold o9;rw[List.take_of_length_le (by omega),List.take_of_length_le hk]
   rw[e];omega
def zI (a:Ak):List (List V):=[
 [.str [],.str [114,105,100],.fn 72 [.rp [.rp (aQ a)]],.fn 74 [.rp [.rp (aQ a)]]],
 [.str [],.str [115,105,100],.fn 76 [.rp [.rp ((aQ a).drop 1)],.rp [.fn 30 []]],.fn 77 [.rp [.rp ((aQ a).drop 1)]]],
 [.str [],.str [116,111],.fn 76 [.rp [.rp ((aQ a).drop 2)],.rp [.fn 30 []]],.fn 77 [.rp [.rp ((aQ a).drop 2)]]],
 [.str [],.str [102,114,111,109],.fn 76 [.rp [.rp ((aQ a).drop 3)],.rp [.fn 30 []]],.fn 77 [.rp [.rp ((aQ a).drop 3)]]],
 [.str [104,116,116,112,58,47,47,119,119,119,46,119,51,46,111,114,103,47,88,77,76,47,49,57,57,56,47,110,97,109,101,115,112,97,99,101],.str [108,97,110,103],.fn 76 [.rp [.rp ((aQ a).drop 4)],.rp [.fn 30 []]],.fn 77 [.rp [.rp ((aQ a).drop 4)]]],
 [.str [],.str [119,97,105,116],.fn 72 [.rp [.rp ((aQ a).drop 5)]],.fn 74 [.rp [.rp ((aQ a).drop 5)]]],
 [.str [],.str [104,111,108,100],.fn 72 [.rp [.rp ((aQ a).drop 6)]],.fn 74 [.rp [.rp ((aQ a).drop 6)]]],
 [.str [],.str [97,99,107],.fn 72 [.rp [.rp ((aQ a).drop 9)]],.fn 74 [.rp [.rp ((aQ a).drop 9)]]],
 [.str [],.str [112,97,117,115,101],.fn 72 [.rp [.rp ((aQ a).drop 10)]],.fn 74 [.rp [.rp ((aQ a).drop 10)]]],
 [.str [],.str [118,101,114],.fn 78 [.rp [.rp (aQ a)]],.fn 80 [.rp [.rp (aQ a)]]],
 [.str [],.str [107,101,121],.fn 76 [.rp [.rp ((aQ a).drop 11)],.rp [.fn 22 []]],.fn 77 [.rp [.rp ((aQ a).drop 11)]]],
 [.str [],.str [110,101,119,107,101,121],.fn 76 [.rp [.rp ((aQ a).drop 12)],.rp [.fn 22 []]],.fn 77 [.rp [.rp ((aQ a).drop 12)]]],
 [.str [],.str [116,121,112,101],.fn 81 [.rp [.sl false 1 ([[116,101,114,109,105,110,97,116,101]].map gS)],.rp [.rp ((aQ a).drop 13)],.rp [.nils]],.fn 83 [.rp [.rp ((aQ a).drop 13)],.rp [.sl false 1 ([[116,101,114,109,105,110,97,116,101]].map gS)]]],
 [.str [117,114,110,58,120,109,112,112,58,120,98,111,115,104],.str [114,101,115,116,97,114,116],.fn 81 [.rp [.sl false 1 ([[116,114,117,101],[49]].map gS)],.rp [.rp ((aQ a).drop 14)],.rp [.sl false 1 ([[102,97,108,115,101],[48]].map gS)]],.fn 83 [.rp [.rp ((aQ a).drop 14)],.rp [.sl false 1 ([[116,114,117,101],[49]].map gS)]]]]
def be (a:Ak):plainL (aQ a)=true:=by simp[aQ,aV,plainL,V.plain,ad]
def nG (a:Ak)(k:Nat):plainL ((aQ a).drop k)=true:=by
 have h:=be a
 rw[sS,List.all_eq_true]at h ⊢
 exact fun x hx=>h x (List.mem_of_mem_drop hx)
def Ec (a:Ak):plainL (zI a).flatten=true:=by
 have h1:=nG a 1
 simp only[List.drop_one]at h1
 simp[h1,zI,plainL,V.plain,be,nG,aw,plainLL,gS]
def MY (a:Ak)(k:Nat)(hk:k<14):∃ r g cg f caps,(qx a)[k]? = some r/\((zI a).flatten.drop (k*4)).take 4=[.str r.1,.str r.2.1,.fn g cg,.fn f caps] /\ ∀ nm,Ev cx f nm caps ao.nil (.str r.2.2) []:=by
 have hh:k=0\/k=1\/k=2\/k=3\/k=4\/k=5\/k=6\/k=7\/k=8\/k=9\/k=10\/k=11\/k=12\/k=13:=by omega
 rcases hh with rfl|rfl|rfl|rfl|rfl|rfl|rfl|rfl|rfl|rfl|rfl|rfl|rfl|rfl
 ·exact⟨_,_,_,_,_,rfl,rfl,fun nm=>iX _ nm _⟩
 ·exact⟨_,_,_,_,_,rfl,rfl,fun nm=>iJ _ nm _⟩
 ·exact⟨_,_,_,_,_,rfl,rfl,fun nm=>iJ _ nm _⟩
 ·exact⟨_,_,_,_,_,rfl,rfl,fun nm=>iJ _ nm _⟩
 ·exact⟨_,_,_,_,_,rfl,rfl,fun nm=>iJ _ nm _⟩
 ·exact⟨_,_,_,_,_,rfl,rfl,fun nm=>iX _ nm _⟩
 ·exact⟨_,_,_,_,_,rfl,rfl,fun nm=>iX _ nm _⟩
 ·exact⟨_,_,_,_,_,rfl,rfl,fun nm=>iX _ nm _⟩
 ·exact⟨_,_,_,_,_,rfl,rfl,fun nm=>iX _ nm _⟩
 ·exact⟨_,_,_,_,_,rfl,rfl,fun nm=>K3 nm a _⟩
 ·exact⟨_,_,_,_,_,rfl,rfl,fun nm=>iJ _ nm _⟩
 ·exact⟨_,_,_,_,_,rfl,rfl,fun nm=>iJ _ nm _⟩
 ·exact⟨_,_,_,_,_,rfl,rfl,fun nm=>x6 _ nm _ _ _⟩
 ·exact⟨_,_,_,_,_,rfl,rfl,fun nm=>x6 _ nm _ _ _⟩
end Go.Proofs.YtjonibipieofcaaGreatDoor
