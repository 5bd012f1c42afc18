/-
 Texts joined: XOe,XOf.
-/
import Derived.Test.YtjonibipieofcaaGreatDoorR1
set_option linter.all false
namespace Go.Proofs.YtjonibipieofcaaGreatDoor
set_option maxRecDepth 100000
set_option maxHeartbeats 32000000
open Go Go.RowKit Vm Go.Lib Tryz
open Vm renaming aI->Ca,aP->Cb
open And renaming intro->Ai
open List renaming length_map->Lm,not_mem_nil->Ln,map_nil->Lo,map_cons->Lc,mem_cons->Lk
open Bool renaming not_false->Bf,not_true->Bt
def gS (s:List UInt8):List V:=[.str s]
def aw (l:List (List UInt8)):plainLL (l.map gS)=true:=ce _ (fun _=>rfl) l
def AD (l:List (List UInt8))(s:List UInt8)(hn:l.length<=aT)(nm:Nat):Ev cx 119 nm [.sl false 1 (l.map gS),.str s] ao.nil (.int .i64 (yw (l.findIdx? (· == s)))) []:=by
 unfold aT at hn
 refine aX call119 func119 ?_;intro b0 hb0
 refine wR (a2 (results119) (ntmps119)) trivial ?_
 (refine ew (fun x:Nat=>l.length-x) (fun x=>x<=l.length/\(l.take x).any (· == s)=false) (b0+16) (fun x=>[(0,.sl false 1 (l.map gS)),(1,.str s),(7,.int .i64 l.length),(8,.int .i64 x)]) (fun x=>[]) (0) [] ?_ ?_ ?_;(focus (refine⟨?_,?_⟩<;>(try simp only[aE,Lm,aw,aj,ai,aq,seval])<;>(try omega))))
 ·exact⟨Nat.zero_le _,by simp⟩
 ·rintro k ⟨hk,hno⟩
  by_cases hlt:k<l.length
  ·obtain⟨h,hh⟩:=ic hlt
   have hat:(l.map gS)[k]? = some (gS h):=by rw[List.getElem?_map,hh];rfl
   have hd:=decide_eq_true hlt
   have hwk:=eD k
   have hc:(s==h)=(h==s):=by rw[Bool.eq_iff_iff];simp;exact⟨Eq.symm,Eq.symm⟩
   cases hp:(h==s) with
   | true =>
    have hfd:=iQ (p:=(· == s)) hno hh hp
    rw[hp]at hc
    exact wP (a2 (results119) (a9 (ntmps119) hat @gS.eq_1 hlt hd hwk hfd hc @br)) trivial
   | false =>
    have hn':=cB (p:=(· == s)) hno hh hp
    rw[hp]at hc
    refine wR (a8 (results119) (ntmps119) hat @gS.eq_1 hlt hd hwk hc) trivial ?_
    all_goals ((refine de (k+1) [] ?_ ?_ ?_;(focus (refine⟨?_,?_⟩<;>(try simp only[aE,aw,hwk,aj,ai,aq,seval])<;>(try omega)))))
    all_goals (first|(show l.length-(k+1)<l.length-k;omega)|exact⟨hlt,hn'⟩|skip)
  ·have hke:k=l.length:=by omega
   subst hke
   rw[List.take_length]at hno
   have hfd:=fC hno
   have hd:decide (l.length<l.length)=false:=bi
   exact wP (a5 (results119) (ntmps119) hd hfd @cK) trivial
def kf (l:List At)(a:At):l.map bf++[[.str a.space,.str a.name,.str a.value]]=(l++[a]).map bf:=by simp[bf]
def Cu (l:List (List UInt8))(a:List UInt8):l.map gS++[[.str a]]=(l++[a]).map gS:=by simp[gS]
def fb (l:List At):(l.map bf).take l.length=l.map bf:=ba _ _
def tp (l:List (List UInt8)):(l.map gS).take l.length=l.map gS:=ba _ _
def mV {f:At->At}{l:List At}{k:Nat}{a:At}(h:l[k]? = some a):(l.take (k+1)).map f=(l.take k).map f++[f a]:=by
 obtain⟨hk,rfl⟩:=List.getElem?_eq_some_iff.1 h
 rw[List.take_succ_eq_append_getElem hk,List.map_append];rfl
def vp:bl []=[]:=rfl
def cS (n:Nd)(sp:List UInt8)(k:Nat):List At:=yp n sp++bZ (bl (n.attrs.take k))
def eh (n:Nd)(k:Nat):List At:=(n.attrs.take k).map (ec (bl n.attrs))
def vx (n:Nd)(sp:List UInt8)(k:Nat):(cS n sp k).length<=1+n.attrs.length:=by
 have h1:=mF (n.attrs.take k)
 have h2:(yp n sp).length<=1:=by unfold yp;split<;>simp
 unfold cS
 rw[List.length_append,xJ]
 simp only[List.length_take]at h1
 omega
def pZ (n:Nd){k:Nat}(hk:k<=n.attrs.length):(eh n k).length=k:=by unfold eh;rw[Lm,List.length_take];omega
def H6 (n:Nd)(sp:List UInt8)(hn:n.attrs.length<=16)(hl:∀ a∈n.attrs,a.name.length<=1000000)(nm:Nat):Ev cx 127 nm [.agg (aD n),.str sp] ao.nil (.agg [.int .u8 n.kind,.str [],.str n.name,.own nm 0 (dn n sp).attrs.length,.str [],.int .i64 n.many]) [(nm,some ⟨3,(dn n sp).attrs.map bf⟩)]:=by
  have hall:(dn n sp).attrs=cS n sp n.attrs.length++eh n n.attrs.length:=by unfold dn cS eh;rw[List.take_length]
  rw[hall]
  have hS0:bl (n.attrs.take 0)=[]:=by simp[bl]
  have hR0:eh n 0=[]:=by simp[eh]
  rcases Bool.eq_false_or_eq_true (n.space==sp) with he|he
  focus
    have hA0:cS n sp 0=[]:=by unfold cS yp;simp[he,bl,bZ]
    refine aX call127 func127 ?_;intro b0 hb0;have zF:=Ai results127 ntmps127
    repeat' first|simp only[au,ap,zF,am,aD,he,Bt,Bf,ab,Lm,aj,ai,seval]|exact rfl|refine aa (v:=.any) ?_|refine ag (ps:=[(1,4),(4,7),(1,9)]) (by decide +kernel) (by simp only[List.forall_mem_cons,List.getD_cons_zero,List.getD_cons_succ,zF,am,aD,he,Bt,Bf,ab,Lm,aj,ai,seval]<;>(try simp)<;>(try omega)) ?_|refine av (by decide +kernel) ?_|((first|apply Ca|apply Cb)<;>intro hb)|refine Ai (by omega) ?_|(apply Ai<;>intro hb)
    (refine ew (fun x:Nat=>n.attrs.length-x) (fun x=>x<=n.attrs.length) (b0+16) (fun x=>[(4,.ptr b0 0 0),(5,.ptr (b0+1) 0 0),(6,.own (b0+3) 0 (bl (n.attrs.take x)).length),(7,.own (b0+4) 0 (eh n x).length),(33,.sl false 3 (n.attrs.map bf)),(34,.int .i64 n.attrs.length),(35,.int .i64 x)]) (fun x=>[(b0,⟨6,[[.int .u8 0,.str [],.str [],.nils,.str [],.int .i64 0]]⟩),(b0+1,⟨6,[[.int .u8 n.kind,.str [],.str n.name,.own (b0+2) 0 (cS n sp x).length,.str [],.int .i64 n.many]]⟩),(b0+2,⟨3,(cS n sp x).map bf⟩),(b0+3,⟨1,(bl (n.attrs.take x)).map gS⟩),(b0+4,⟨3,(eh n x).map bf⟩)]) (0) [some (b0+16),some (b0+144),none,none,none] ?_ ?_ ?_;(focus (refine⟨?_,?_⟩<;>(try simp only[aE,hA0,hS0,hR0,vp,List.take_zero,al,bf,ab,aw,Lc,Lo,List.length_cons,List.length_nil,Lm,aj,ai,aq,seval])<;>(try omega))))
  rotate_left 2
  focus
    have hA0:cS n sp 0=[⟨[],[120,109,108,110,115],n.space⟩]:=by unfold cS yp;simp[he,bl,bZ]
    refine aX call127 func127 ?_;intro b0 hb0;have zF:=Ai results127 ntmps127
    repeat' first|simp only[au,ap,zF,am,aD,he,Bt,Bf,ab,Lm,aj,ai,seval]|exact rfl|refine aa (v:=.any) ?_|refine ag (ps:=[(1,4),(4,7),(1,9)]) (by decide +kernel) (by simp only[List.forall_mem_cons,List.getD_cons_zero,List.getD_cons_succ,zF,am,aD,he,Bt,Bf,ab,Lm,aj,ai,seval]<;>(try simp)<;>(try omega)) ?_|refine av (by decide +kernel) ?_|((first|apply Ca|apply Cb)<;>intro hb)|refine Ai (by omega) ?_|(apply Ai<;>intro hb)
    (refine ew (fun x:Nat=>n.attrs.length-x) (fun x=>x<=n.attrs.length) (b0+16) (fun x=>[(4,.ptr b0 0 0),(5,.ptr (b0+1) 0 0),(6,.own (b0+3) 0 (bl (n.attrs.take x)).length),(7,.own (b0+4) 0 (eh n x).length),(33,.sl false 3 (n.attrs.map bf)),(34,.int .i64 n.attrs.length),(35,.int .i64 x)]) (fun x=>[(b0,⟨6,[[.int .u8 0,.str [],.str [],.nils,.str [],.int .i64 0]]⟩),(b0+1,⟨6,[[.int .u8 n.kind,.str [],.str n.name,.own (b0+2) 0 (cS n sp x).length,.str [],.int .i64 n.many]]⟩),(b0+2,⟨3,(cS n sp x).map bf⟩),(b0+3,⟨1,(bl (n.attrs.take x)).map gS⟩),(b0+4,⟨3,(eh n x).map bf⟩)]) (0) [some (b0+16),some (b0+144),some (b0+336),none,none] ?_ ?_ ?_;(focus (refine⟨?_,?_⟩<;>(try simp only[aE,hA0,hS0,hR0,vp,List.take_zero,al,bf,ab,aw,Lc,Lo,List.length_cons,List.length_nil,Lm,aj,ai,aq,seval])<;>(try omega))))
  all_goals (first|exact Nat.zero_le _|skip)
  all_goals
    intro k hk
    by_cases hlt:k<n.attrs.length
    · obtain ⟨a,ha⟩:∃ a,n.attrs[k]? = some a:=⟨_,List.getElem?_eq_getElem hlt⟩
      have hat:=iu ha
      have d1:=sC k n.attrs.length
      have d2:=decide_eq_true hlt
      have hwk:=eD k
      have hAl:=vx n sp k
      have hRl:=pZ n hk
      have hRl1:=pZ n (k:=k+1) hlt
      have hSl:=mF (n.attrs.take k)
      rw[List.length_take]at hSl
      have hS1:=s9 ha
      have hR1:eh n (k+1)=eh n k++[ec (bl n.attrs) a]:=mV ha
      have hA1:cS n sp (k+1)=yp n sp++bZ (bl (n.attrs.take (k+1))):=rfl
      have htk:((eh n k).map bf).take k=(eh n k).map bf:=List.take_of_length_le (by rw[Lm];omega)
      have hna:=hl a (List.mem_of_getElem? ha)
      have hpre:=pV n.attrs (k+1)
      cases h0:(a.space==[]) with
      | true =>
        have hrel:ec (bl n.attrs) a=⟨[],a.name,a.value⟩:=by unfold ec;rw[h0];rfl
        have hS2:bl (n.attrs.take (k+1))=bl (n.attrs.take k):=by rw[hS1];unfold gi;rw[if_pos h0]
        have hA2:cS n sp (k+1)=cS n sp k:=by unfold cS;rw[hS2]
        have hsn:(eh n k).map bf++[[.str [],.str a.name,.str a.value]]=(eh n (k+1)).map bf:=by rw[hR1,hrel];exact kf (eh n k) ⟨[],a.name,a.value⟩
        repeat' first|simp only[au,ap,zF,am,hat,bf,hlt,d1,d2,h0,hwk,hRl,htk,hsn,Bt,Bf,ab,aw,Lm,aj,ai,seval]|exact rfl|refine aa (v:=.any) ?_|refine ag (ps:=[(1,4),(4,7),(1,9)]) (by decide +kernel) (by simp only[List.forall_mem_cons,List.getD_cons_zero,List.getD_cons_succ,zF,am,hat,bf,hlt,d1,d2,h0,hwk,hRl,htk,hsn,Bt,Bf,ab,aw,Lm,aj,ai,seval]<;>(try simp)<;>(try omega)) ?_|refine av (by decide +kernel) ?_|((first|apply Ca|apply Cb)<;>intro hb)|refine Ai (by omega) ?_|(apply Ai<;>intro hb)
        all_goals ((refine de (k+1) [some b0,some (b0+1),some (b0+2),some (b0+3),some (b0+304)] ?_ ?_ ?_;(focus (refine⟨?_,?_⟩<;>(try simp only[aE,hS2,hA2,hRl1,hwk,ab,aw,Lm,aj,ai,aq,seval])<;>(try omega)))))
        all_goals (first|(show n.attrs.length-(k+1)<n.attrs.length-k;omega)|exact hlt|skip)
      | false =>
        have hxl:(a.space==me)=(a.space==[104,116,116,112,58,47,47,119,119,119,46,119,51,46,111,114,103,47,88,77,76,47,49,57,57,56,47,110,97,109,101,115,112,97,99,101]):=rfl
        have h0':¬(a.space==[])=true:=by rw[h0];decide
        have hrel:ec (bl n.attrs) a=⟨[],um (bl n.attrs) a.space++58::a.name,a.value⟩:=by unfold ec;rw[if_neg h0']
        have hsn0:∀ p:List UInt8,um (bl n.attrs) a.space=p->(eh n k).map bf++[[.str [],.str (p++[58]++a.name),.str a.value]]=(eh n (k+1)).map bf:=fun p hp=>by
          rw[hR1,hrel,hp,show p++[58]++a.name=p++58::a.name by simp];exact kf (eh n k) ⟨[],p++58::a.name,a.value⟩
        cases hx:(a.space==me) with
        | true =>
          have hS2:bl (n.attrs.take (k+1))=bl (n.attrs.take k):=by rw[hS1];unfold gi;rw[if_neg h0',if_pos hx]
          have hA2:cS n sp (k+1)=cS n sp k:=by unfold cS;rw[hS2]
          have hsn:=hsn0 [120,109,108] (by unfold um;rw[if_pos hx])
          simp only[List.cons_append,List.nil_append]at hsn
          rw[hx]at hxl
          repeat' first|simp only[au,ap,zF,am,hat,bf,hlt,d1,d2,h0,hxl.symm,hwk,hRl,htk,hsn,Bt,Bf,ab,aw,List.length_append,List.length_cons,List.length_nil,Lm,aj,ai,seval]|exact rfl|refine aa (v:=.any) ?_|refine ag (ps:=[(1,4),(4,7),(1,9)]) (by decide +kernel) (by simp only[List.forall_mem_cons,List.getD_cons_zero,List.getD_cons_succ,zF,am,hat,bf,hlt,d1,d2,h0,hxl.symm,hwk,hRl,htk,hsn,Bt,Bf,ab,aw,List.length_append,List.length_cons,List.length_nil,Lm,aj,ai,seval]<;>(try simp)<;>(try omega)) ?_|refine av (by decide +kernel) ?_|((first|apply Ca|apply Cb)<;>intro hb)|refine Ai (by omega) ?_|(apply Ai<;>intro hb)
          all_goals ((refine de (k+1) [some b0,some (b0+1),some (b0+2),some (b0+3),some (b0+480)] ?_ ?_ ?_;(focus (refine⟨?_,?_⟩<;>(try simp only[aE,hS2,hA2,hRl1,hwk,ab,aw,Lm,aj,ai,aq,seval])<;>(try omega)))))
          all_goals (first|(show n.attrs.length-(k+1)<n.attrs.length-k;omega)|exact hlt|skip)
        | false =>
          rw[hx]at hxl
          have hx':¬(a.space==me)=true:=by rw[hx];decide
          have hix:=fun nm=>AD (bl (n.attrs.take k)) a.space (by unfold aT;omega) nm
          have hSF:=pV n.attrs k
          cases hf:(bl (n.attrs.take k)).findIdx? (· == a.space) with
          | some j =>
            have hj:j<(bl (n.attrs.take k)).length:=(List.findIdx?_eq_some_iff_getElem.1 hf).1
            have hS2:bl (n.attrs.take (k+1))=bl (n.attrs.take k):=by rw[hS1];unfold gi;rw[if_neg h0',if_neg hx',if_pos (uD hf)]
            have hA2:cS n sp (k+1)=cS n sp k:=by unfold cS;rw[hS2]
            have hsn:=hsn0 (110::eB (j+1)) (by unfold um;rw[if_neg hx',Lr hSF hf])
            simp only[List.cons_append,List.append_assoc,List.nil_append]at hsn
            have hil:=sE (j+1) (by omega)
            have hit:=fun nm=>B4 (j+1) (by omega) nm
            have e1:decide ((j:Int)<0)=false:=bi
            have e2:=eD j
            rw[hf,br]at hix
            repeat' first|simp only[au,ap,zF,am,hat,bf,hlt,d1,d2,h0,hxl.symm,hwk,hRl,htk,hsn,e1,e2,tp,Bt,Bf,ab,aw,List.append_assoc,List.length_append,List.length_cons,List.length_nil,Lm,aj,ai,seval]|exact rfl|refine aa (v:=.any) ?_|(first|(refine ah ?_ (hit _) ?_)|(refine ac ?_ (fun _=>hit _) ?_))|((refine bg (xs:=?_) [b0+3] ?_ ?_ ?_ rfl (hix _) ?_);rotate_left 1)|omega|refine ag (ps:=[(1,4),(4,7),(1,9)]) (by decide +kernel) (by simp only[List.forall_mem_cons,List.getD_cons_zero,List.getD_cons_succ,zF,am,hat,bf,hlt,d1,d2,h0,hxl.symm,hwk,hRl,htk,hsn,e1,e2,tp,Bt,Bf,ab,aw,List.append_assoc,List.length_append,List.length_cons,List.length_nil,Lm,aj,ai,seval]<;>(try simp)<;>(try omega)) ?_|refine av (by decide +kernel) ?_|((first|apply Ca|apply Cb)<;>intro hb)|refine Ai (by omega) ?_|(apply Ai<;>intro hb)
            all_goals ((refine de (k+1) [some b0,some (b0+1),some (b0+2),some (b0+3),some (b0+672)] ?_ ?_ ?_;(focus (refine⟨?_,?_⟩<;>(try simp only[aE,hS2,hA2,hRl1,hwk,ab,aw,Lm,aj,ai,aq,seval])<;>(try omega)))))
            all_goals (first|(show n.attrs.length-(k+1)<n.attrs.length-k;omega)|exact hlt|skip)
          | none =>
            have hS2:bl (n.attrs.take (k+1))=bl (n.attrs.take k)++[a.space]:=by rw[hS1];unfold gi;rw[if_neg h0',if_neg hx',if_neg (by rw[pn hf];decide)]
            have hpre:=pV n.attrs (k+1)
            have hsn:=hsn0 (110::eB ((bl (n.attrs.take k)).length+1)) (by
              rw[hS2]at hpre
              unfold um;rw[if_neg hx',Lr hpre (C8 hf)])
            have hA2:cS n sp (k+1)=cS n sp k++[ng (bl (n.attrs.take k)).length a.space]:=by unfold cS;rw[hS2,CV,List.append_assoc]
            have hAs:(cS n sp k).map bf++[[.str [],.str ([120,109,108,110,115,58,110]++eB ((bl (n.attrs.take k)).length+1)),.str a.space]]=(cS n sp (k+1)).map bf:=by rw[hA2];exact kf (cS n sp k) (ng _ _)
            have hA3:(cS n sp k).length+1=(cS n sp (k+1)).length:=by rw[hA2,List.length_append];rfl
            have hSs:(bl (n.attrs.take k)).map gS++[[.str a.space]]=(bl (n.attrs.take (k+1))).map gS:=by rw[hS2];exact Cu _ _
            have hS3:(bl (n.attrs.take k)).length+1=(bl (n.attrs.take (k+1))).length:=by rw[hS2,List.length_append];rfl
            simp only[List.cons_append,List.append_assoc,List.nil_append]at hsn hAs
            generalize hJ:(bl (n.attrs.take k)).length=j at hsn hAs hS3 hSl hA2
            have hil:=sE (j+1) (by omega)
            have hit:=fun nm=>B4 (j+1) (by omega) nm
            have e1:decide ((-1:Int)<0)=true:=rfl
            have e2:=eD j
            have htj:((bl (n.attrs.take k)).map gS).take j=(bl (n.attrs.take k)).map gS:=List.take_of_length_le (by rw[Lm];omega)
            rw[hf,cK]at hix
            repeat' first|simp only[au,ap,zF,am,hat,bf,hlt,d1,d2,h0,hxl.symm,hwk,hRl,htk,hsn,hAs,hSs,hJ,e1,e2,htj,fb,Bt,Bf,ab,aw,List.append_assoc,List.length_append,List.length_cons,List.length_nil,Lm,aj,ai,seval]|exact rfl|refine aa (v:=.any) ?_|(first|(refine ah ?_ (hit _) ?_)|(refine ac ?_ (fun _=>hit _) ?_))|((refine bg (xs:=?_) [b0+3] ?_ ?_ ?_ rfl (hix _) ?_);rotate_left 1)|omega|refine ag (ps:=[(1,4),(4,7),(1,9)]) (by decide +kernel) (by simp only[List.forall_mem_cons,List.getD_cons_zero,List.getD_cons_succ,zF,am,hat,bf,hlt,d1,d2,h0,hxl.symm,hwk,hRl,htk,hsn,hAs,hSs,hJ,e1,e2,htj,fb,Bt,Bf,ab,aw,List.append_assoc,List.length_append,List.length_cons,List.length_nil,Lm,aj,ai,seval]<;>(try simp)<;>(try omega)) ?_|refine av (by decide +kernel) ?_|((first|apply Ca|apply Cb)<;>intro hb)|refine Ai (by omega) ?_|(apply Ai<;>intro hb)
            all_goals ((refine de (k+1) [some b0,some (b0+1),some (b0+736),some (b0+544),some (b0+1024)] ?_ ?_ ?_;(focus (refine⟨?_,?_⟩<;>(try simp only[aE,hS3,hA3,hRl1,hwk,ab,aw,Lm,aj,ai,aq,seval])<;>(try omega)))))
            all_goals (first|(show n.attrs.length-(k+1)<n.attrs.length-k;omega)|exact hlt|skip)
    · have hke:k=n.attrs.length:=by omega
      subst hke
      have d1:=nu n.attrs.length n.attrs.length
      have d2:decide (n.attrs.length<n.attrs.length)=false:=bi
      have hAl:=vx n sp n.attrs.length
      have hRl:=pZ n (Nat.le_refl n.attrs.length)
      have htk:((eh n n.attrs.length).map bf).take n.attrs.length=(eh n n.attrs.length).map bf:=List.take_of_length_le (by rw[Lm];omega)
      have hsn:(cS n sp n.attrs.length).map bf++(eh n n.attrs.length).map bf=(cS n sp n.attrs.length++eh n n.attrs.length).map bf:=by rw[List.map_append]
      have hlen:(cS n sp n.attrs.length++eh n n.attrs.length).length=(cS n sp n.attrs.length).length+n.attrs.length:=by rw[List.length_append,hRl]
      ((repeat' first|simp only[au,ap,zF,am,d1,d2,hRl,htk,hsn,hlen,mw,fb,ab,aw,Lm,aj,ai,seval]|exact rfl|refine aa (v:=.any) ?_|refine ag (ps:=[(1,4),(4,7),(1,9)]) (by decide +kernel) (by simp only[List.forall_mem_cons,List.getD_cons_zero,List.getD_cons_succ,zF,am,d1,d2,hRl,htk,hsn,hlen,mw,fb,ab,aw,Lm,aj,ai,seval]<;>(try simp)<;>(try omega)) ?_|refine av (by decide +kernel) ?_|((first|apply Ca|apply Cb)<;>intro hb)|refine Ai (by omega) ?_|(apply Ai<;>intro hb));(all_goals (first|(refine Fin.auto (r:=?_) (l:=?_) ?_ ?_ ?_ ?_ ?_ ?_ ?_;rotate_left 1;(simp only[zF,bz,bT,aH,aO,d1,d2,hRl,htk,hsn,hlen,mw,fb,ab,aw,Lm,aj,ai,seval]);(exact rfl);rotate_left 1;(simp only[V.owns,ownsL,List.cons_append,List.nil_append]);(exact rfl);all_goals (try simp only[zF,bz,bT,aH,aO,d1,d2,hRl,htk,hsn,hlen,mw,fb,ab,aw,Lm,qR,aj,ai,seval]);all_goals (try simp only[aq]))|skip)))
def KM (n:Nd)(sp:List UInt8)(hn:n.attrs.length<=16)(hl:∀ a∈n.attrs,a.name.length<=1000000)(nm:Nat):Ev cx 127 nm [.agg (aD n),.str sp] ao.nil (.agg (aD (dn n sp))) []:=by
 have hpl:=ab (dn n sp).attrs
 have htk:=fb (dn n sp).attrs
 refine Ev.freeze (H6 n sp hn hl nm) ?_ ?_
 ·simp only[au,ap,am,hpl,htk,Lm,aj,ai,seval]<;>omega
 ·simp only[au,ap,am,aD,hpl,htk,Lm,aj,ai,seval]
  rfl
end Go.Proofs.YtjonibipieofcaaGreatDoor
