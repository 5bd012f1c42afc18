/-
 Texts joined: XOe,XOf.
-/
import Derived.Test.YtlnlopnpcmahgaaGreatDoorR1
import Derived.Test.YtlnlopnpcmahgaaGreatDoorQe
import Derived.Test.YtlnlopnpcmahgaaGreatDoorQh
import Derived.Test.YtlnlopnpcmahgaaGreatDoorQt
set_option linter.all false
namespace Go.Proofs.YtlnlopnpcmahgaaGreatDoor
set_option maxRecDepth 100000
set_option maxHeartbeats 32000000
open Go Go.RowKit Vm Go.Lib Tryz
open Vm renaming aH->Ca,aL->Cb
open And renaming intro->Ai
open List renaming length_map->Lm,not_mem_nil->Ln,map_nil->Lo,map_cons->Lc,mem_cons->Lk
open Bool renaming not_false->Bf,not_true->Bt
def yT:List UInt8:=[48,49,50,51,52,53,54,55,56,57,97,98,99,100,101,102,103,104,105,106,107,108,109,110,111,112,113,114,115,116,117,118,119,120,121,122]
def zn:List UInt8:=[48,48,48,49,48,50,48,51,48,52,48,53,48,54,48,55,48,56,48,57,49,48,49,49,49,50,49,51,49,52,49,53,49,54,49,55,49,56,49,57,50,48,50,49,50,50,50,51,50,52,50,53,50,54,50,55,50,56,50,57,51,48,51,49,51,50,51,51,51,52,51,53,51,54,51,55,51,56,51,57,52,48,52,49,52,50,52,51,52,52,52,53,52,54,52,55,52,56,52,57,53,48,53,49,53,50,53,51,53,52,53,53,53,54,53,55,53,56,53,57,54,48,54,49,54,50,54,51,54,52,54,53,54,54,54,55,54,56,54,57,55,48,55,49,55,50,55,51,55,52,55,53,55,54,55,55,55,56,55,57,56,48,56,49,56,50,56,51,56,52,56,53,56,54,56,55,56,56,56,57,57,48,57,49,57,50,57,51,57,52,57,53,57,54,57,55,57,56,57,57]
def Et:∀ i,i<10->(yT.drop i).take (i+1-i)=ec i:=by decide +kernel
def Er:∀ i,i<100 -> ¬ i<10->(zn.drop (i*2)).take (i*2+2-i*2)=ec i:=by decide +kernel
def ws (i:Nat)(hi:i<100)(nm:Nat):Ev cx 223 nm [.int .i64 i] am.nil (.str (ec i)) []:=by
 by_cases h:i<10
 ·have d1:decide ((i:Int)<10)=true:=cn
  have d2:IntKind.i64.wrap ((i:Int)+1)=((i+1:Nat):Int):=aK
  have d3:(i:Int)<=((i+1:Nat):Int):=by omega
  have hz:=Et i h
  unfold yT at hz
  refine aV call223 func223 rfl (by kernel_rfl) rfl ?_;intro b0 hb0
  (repeat' first|simp only[aj,ag,results223,ntmps223,ap,d1,d2,hz,List.length_cons,List.length_nil,ai,seval,ah]|exact rfl|refine aa (v:=.any) ?_|((first|apply Ca|apply Cb)<;>intro hb)|refine Ai (by omega) ?_|(apply Ai<;>intro hb)|refine Fin.pure ?_ ?_ ?_|simp only[al])
 ·have d1:decide ((i:Int)<10)=false:=aR
  have d2:IntKind.i64.wrap ((i:Int)*2)=((i*2:Nat):Int):=aK
  have d3:IntKind.i64.wrap (((i*2:Nat):Int)+2)=((i*2+2:Nat):Int):=aK
  have hz:=Er i hi h
  unfold zn at hz
  refine aV call223 func223 rfl (by kernel_rfl) rfl ?_;intro b0 hb0
  (repeat' first|simp only[aj,ag,results223,ntmps223,ap,d1,d2,d3,hz,List.append_eq,List.cons_append,List.nil_append,List.length_cons,List.length_nil,ai,seval,ah]|exact rfl|refine aa (v:=.any) ?_|((first|apply Ca|apply Cb)<;>intro hb)|refine Ai (by omega) ?_|(apply Ai<;>intro hb)|refine Fin.pure ?_ ?_ ?_|simp only[al])
def C8 (i:Nat)(hi:i<100)(nm:Nat):Ev cx 202 nm [.int .i64 i,.int .i64 10] am.nil (.str (ec i)) []:=by
 have d1:decide ((0:Int)<=(i:Int))=true:=cn
 have d2:decide ((i:Int)<100)=true:=cn
 refine aV call202 func202 rfl (by kernel_rfl) rfl ?_;intro b0 hb0
 (repeat' first|simp only[aj,ag,results202,ntmps202,ap,d1,d2,ai,seval,ah]|exact rfl|refine aa (v:=.any) ?_|(first|(refine ac ?_ (ws i hi _) ?_)|(refine ab ?_ (fun _=>ws i hi _) ?_))|((first|apply Ca|apply Cb)<;>intro hb)|refine Ai (by omega) ?_|(apply Ai<;>intro hb)|refine Fin.pure ?_ ?_ ?_|simp only[al])
def vR (i:Nat)(hi:i<100)(nm:Nat):Ev cx 171 nm [.int .i64 i] am.nil (.str (ec i)) []:=by
 refine aV call171 func171 rfl (by kernel_rfl) rfl ?_;intro b0 hb0
 (repeat' first|simp only[aj,ag,results171,ntmps171,ap,ai,seval,ah]|exact rfl|refine aa (v:=.any) ?_|(first|(refine ac ?_ (C8 i hi _) ?_)|(refine ab ?_ (fun _=>C8 i hi _) ?_))|((first|apply Ca|apply Cb)<;>intro hb)|refine Ai (by omega) ?_|(apply Ai<;>intro hb)|refine Fin.pure ?_ ?_ ?_|simp only[al])
def y4 (i:Nat)(hi:i<100)(nm:Nat):Ev cx 127 nm [.int .i64 i] am.nil (.str (ec i)) []:=by
 refine aV call127 func127 rfl (by kernel_rfl) rfl ?_;intro b0 hb0
 (repeat' first|simp only[aj,ag,results127,ntmps127,ap,ai,seval,ah]|exact rfl|refine aa (v:=.any) ?_|(first|(refine ac ?_ (vR i hi _) ?_)|(refine ab ?_ (fun _=>vR i hi _) ?_))|((first|apply Ca|apply Cb)<;>intro hb)|refine Ai (by omega) ?_|(apply Ai<;>intro hb)|refine Fin.pure ?_ ?_ ?_|simp only[al])
def mV (s:List UInt8):List V:=[.str s]
def av (l:List (List UInt8)):plainLL (l.map mV)=true:=bR _ (fun _=>rfl) l
def xK (l:List (List UInt8))(s:List UInt8)(hn:l.length<=aS)(nm:Nat):Ev cx 126 nm [.sl false 1 (l.map mV),.str s] am.nil (.int .i64 (Dg (l.findIdx? (· == s)))) []:=by
 unfold aS at hn
 refine aV call126 func126 rfl (by kernel_rfl) rfl ?_;intro b0 hb0;have zF:=Ai results126 ntmps126
 repeat' first|simp only[aj,ag,zF,ap,ai,seval,ah]|exact rfl|refine aa (v:=.any) ?_|((first|apply Ca|apply Cb)<;>intro hb)|refine Ai (by omega) ?_|(apply Ai<;>intro hb)
 (refine ay bu (fun x:Nat=>l.length-x) (fun x=>x<=l.length/\(l.take x).any (· == s)=false) (b0+16) (fun x=>[(0,.sl false 1 (l.map mV)),(1,.str s),(7,.int .i64 l.length),(8,.int .i64 x)]) (fun x=>[]) (0) [] ?_ ?_ ?_ ?_;rotate_left 1;(focus (show b0<=_;omega));(focus (refine⟨?_,?_⟩<;>(try simp only[aM,Lm,av,ai,seval,ah,al])<;>(try omega)));rotate_left 1)
 ·exact⟨Nat.zero_le _,by simp⟩
 ·rintro k ⟨hk,hno⟩
  by_cases hlt:k<l.length
  ·obtain⟨h,hh⟩:∃ h,l[k]? = some h:=⟨_,List.getElem?_eq_getElem hlt⟩
   have hat:(l.map mV)[k]? = some (mV h):=by rw[List.getElem?_map,hh];rfl
   have hd:decide (k<l.length)=true:=decide_eq_true hlt
   have hwk:IntKind.i64.wrap ((k:Int)+1)=((k+1:Nat):Int):=aK
   have hc:(s==h)=(h==s):=by rw[Bool.eq_iff_iff];simp;exact⟨Eq.symm,Eq.symm⟩
   cases hp:(h==s) with
   | true =>
    have hfd:=me (p:=(· == s)) hno hh hp
    rw[hp]at hc
    (repeat' first|simp only[aj,ag,zF,ap,hat,mV,hlt,hd,hwk,hfd,hc,cO,Lm,ai,seval,ah]|exact rfl|refine aa (v:=.any) ?_|((first|apply Ca|apply Cb)<;>intro hb)|refine Ai (by omega) ?_|(apply Ai<;>intro hb)|refine Fin.pure ?_ ?_ ?_|simp only[al])
   | false =>
    have hn':=dH (p:=(· == s)) hno hh hp
    rw[hp]at hc
    repeat' first|simp only[aj,ag,zF,ap,hat,mV,hlt,hd,hwk,hc,Lm,ai,seval,ah]|exact rfl|refine aa (v:=.any) ?_|((first|apply Ca|apply Cb)<;>intro hb)|refine Ai (by omega) ?_|(apply Ai<;>intro hb)
    all_goals ((refine au bu (k+1) [] ?_ ?_ ?_ ?_;rotate_left 2;(focus (show b0<=_;omega));(focus (refine⟨?_,?_⟩<;>(try simp only[aM,av,hwk,ai,seval,ah,al])<;>(try omega)))))
    all_goals (first|(show l.length-(k+1)<l.length-k;omega)|exact⟨hlt,hn'⟩|skip)
  ·have hke:k=l.length:=by omega
   subst hke
   rw[List.take_length]at hno
   have hfd:=iN hno
   have hd:decide (l.length<l.length)=false:=aR
   (repeat' first|simp only[aj,ag,zF,ap,hd,hfd,eH,Lm,ai,seval,ah]|exact rfl|refine aa (v:=.any) ?_|((first|apply Ca|apply Cb)<;>intro hb)|refine Ai (by omega) ?_|(apply Ai<;>intro hb)|refine Fin.pure ?_ ?_ ?_|simp only[al])
def iI (l:List At)(a:At):l.map bh++[[.str a.space,.str a.name,.str a.value]]=(l++[a]).map bh:=by simp[bh]
def zz (l:List (List UInt8))(a:List UInt8):l.map mV++[[.str a]]=(l++[a]).map mV:=by simp[mV]
def dM (l:List At):(l.map bh).take l.length=l.map bh:=bF _ _
def qU (l:List (List UInt8)):(l.map mV).take l.length=l.map mV:=bF _ _
def k8 {f:At->At}{l:List At}{k:Nat}{a:At}(h:l[k]? = some a):(l.take (k+1)).map f=(l.take k).map f++[f a]:=by
 obtain⟨hk,rfl⟩:=List.getElem?_eq_some_iff.1 h
 rw[List.take_succ_eq_append_getElem hk,List.map_append];rfl
def sW:aT []=[]:=rfl
def cm (n:Nd)(sp:List UInt8)(k:Nat):List At:=vK n sp++bG (aT (n.attrs.take k))
def dp (n:Nd)(k:Nat):List At:=(n.attrs.take k).map (df (aT n.attrs))
def s7 (n:Nd)(sp:List UInt8)(k:Nat):(cm n sp k).length<=1+n.attrs.length:=by
 have h1:=kP (n.attrs.take k)
 have h2:(vK n sp).length<=1:=by unfold vK;split<;>simp
 unfold cm
 rw[List.length_append,u9]
 simp only[List.length_take]at h1
 omega
def nU (n:Nd){k:Nat}(hk:k<=n.attrs.length):(dp n k).length=k:=by unfold dp;rw[Lm,List.length_take];omega
def G5 (n:Nd)(sp:List UInt8)(hn:n.attrs.length<=16)(hl:∀ a∈n.attrs,a.name.length<=1000000)(nm:Nat):Ev cx 77 nm [.agg (aG n),.str sp] am.nil (.agg (aG (cD n sp))) []:=by
  refine Ev.freeze (v:=.agg [.int .u8 n.kind,.str [],.str n.name,.own nm 0 (cD n sp).attrs.length,.str [],.int .i64 n.many]) (eff:=[(nm,some ⟨3,(cD n sp).attrs.map bh⟩)]) ?_ ?_ ?_
  rotate_left 1
  · have hpl:=ae (cD n sp).attrs
    have htk:=dM (cD n sp).attrs
    simp only[aj,ag,ap,hpl,htk,Lm,ai,seval,ah]<;>omega
  · have hpl:=ae (cD n sp).attrs
    have htk:=dM (cD n sp).attrs
    simp only[aj,ag,ap,aG,hpl,htk,Lm,ai,seval,ah]
    rfl
  have hall:(cD n sp).attrs=cm n sp n.attrs.length++dp n n.attrs.length:=by unfold cD cm dp;rw[List.take_length]
  rw[hall]
  have hS0:aT (n.attrs.take 0)=[]:=by simp[aT]
  have hR0:dp n 0=[]:=by simp[dp]
  rcases Bool.eq_false_or_eq_true (n.space==sp) with he|he
  focus
    have hA0:cm n sp 0=[]:=by unfold cm vK;simp[he,aT,bG]
    refine aV call77 func77 rfl (by kernel_rfl) rfl ?_;intro b0 hb0;have zF:=Ai results77 ntmps77
    repeat' first|simp only[aj,ag,zF,ap,aG,he,Bt,Bf,ae,Lm,ai,seval,ah]|exact rfl|refine aa (v:=.any) ?_|refine aq (ps:=[(1,4),(4,7),(1,9)]) (by decide +kernel) (by simp only[List.forall_mem_cons,List.getD_cons_zero,List.getD_cons_succ,zF,ap,aG,he,Bt,Bf,ae,Lm,ai,seval,ah]<;>(try simp)<;>(try omega)) ?_|refine ao (by decide +kernel) ?_|((first|apply Ca|apply Cb)<;>intro hb)|refine Ai (by omega) ?_|(apply Ai<;>intro hb)
    (refine ay bu (fun x:Nat=>n.attrs.length-x) (fun x=>x<=n.attrs.length) (b0+16) (fun x=>[(4,.ptr b0 0 0),(5,.ptr (b0+1) 0 0),(6,.own (b0+3) 0 (aT (n.attrs.take x)).length),(7,.own (b0+4) 0 (dp n x).length),(33,.sl false 3 (n.attrs.map bh)),(34,.int .i64 n.attrs.length),(35,.int .i64 x)]) (fun x=>[(b0,⟨6,[[.int .u8 0,.str [],.str [],.nils,.str [],.int .i64 0]]⟩),(b0+1,⟨6,[[.int .u8 n.kind,.str [],.str n.name,.own (b0+2) 0 (cm n sp x).length,.str [],.int .i64 n.many]]⟩),(b0+2,⟨3,(cm n sp x).map bh⟩),(b0+3,⟨1,(aT (n.attrs.take x)).map mV⟩),(b0+4,⟨3,(dp n x).map bh⟩)]) (0) [some (b0+16),some (b0+144),none,none,none] ?_ ?_ ?_ ?_;rotate_left 1;(focus (show b0<=_;omega));(focus (refine⟨?_,?_⟩<;>(try simp only[aM,hA0,hS0,hR0,sW,List.take_zero,aB,bh,ae,av,Lc,Lo,List.length_cons,List.length_nil,Lm,ai,seval,ah,al])<;>(try omega)));rotate_left 1)
  rotate_left 2
  focus
    have hA0:cm n sp 0=[⟨[],[120,109,108,110,115],n.space⟩]:=by unfold cm vK;simp[he,aT,bG]
    refine aV call77 func77 rfl (by kernel_rfl) rfl ?_;intro b0 hb0;have zF:=Ai results77 ntmps77
    repeat' first|simp only[aj,ag,zF,ap,aG,he,Bt,Bf,ae,Lm,ai,seval,ah]|exact rfl|refine aa (v:=.any) ?_|refine aq (ps:=[(1,4),(4,7),(1,9)]) (by decide +kernel) (by simp only[List.forall_mem_cons,List.getD_cons_zero,List.getD_cons_succ,zF,ap,aG,he,Bt,Bf,ae,Lm,ai,seval,ah]<;>(try simp)<;>(try omega)) ?_|refine ao (by decide +kernel) ?_|((first|apply Ca|apply Cb)<;>intro hb)|refine Ai (by omega) ?_|(apply Ai<;>intro hb)
    (refine ay bu (fun x:Nat=>n.attrs.length-x) (fun x=>x<=n.attrs.length) (b0+16) (fun x=>[(4,.ptr b0 0 0),(5,.ptr (b0+1) 0 0),(6,.own (b0+3) 0 (aT (n.attrs.take x)).length),(7,.own (b0+4) 0 (dp n x).length),(33,.sl false 3 (n.attrs.map bh)),(34,.int .i64 n.attrs.length),(35,.int .i64 x)]) (fun x=>[(b0,⟨6,[[.int .u8 0,.str [],.str [],.nils,.str [],.int .i64 0]]⟩),(b0+1,⟨6,[[.int .u8 n.kind,.str [],.str n.name,.own (b0+2) 0 (cm n sp x).length,.str [],.int .i64 n.many]]⟩),(b0+2,⟨3,(cm n sp x).map bh⟩),(b0+3,⟨1,(aT (n.attrs.take x)).map mV⟩),(b0+4,⟨3,(dp n x).map bh⟩)]) (0) [some (b0+16),some (b0+144),some (b0+336),none,none] ?_ ?_ ?_ ?_;rotate_left 1;(focus (show b0<=_;omega));(focus (refine⟨?_,?_⟩<;>(try simp only[aM,hA0,hS0,hR0,sW,List.take_zero,aB,bh,ae,av,Lc,Lo,List.length_cons,List.length_nil,Lm,ai,seval,ah,al])<;>(try omega)));rotate_left 1)
  all_goals (first|exact Nat.zero_le _|skip)
  all_goals
    intro k hk
    by_cases hlt:k<n.attrs.length
    · obtain ⟨a,ha⟩:∃ a,n.attrs[k]? = some a:=⟨_,List.getElem?_eq_getElem hlt⟩
      have hat:=gN ha
      have d1:decide ((k:Int)<(n.attrs.length:Int))=true:=cn
      have d2:decide (k<n.attrs.length)=true:=decide_eq_true hlt
      have hwk:IntKind.i64.wrap ((k:Int)+1)=((k+1:Nat):Int):=aK
      have hAl:=s7 n sp k
      have hRl:=nU n hk
      have hRl1:=nU n (k:=k+1) hlt
      have hSl:=kP (n.attrs.take k)
      rw[List.length_take]at hSl
      have hS1:=qN ha
      have hR1:dp n (k+1)=dp n k++[df (aT n.attrs) a]:=k8 ha
      have hA1:cm n sp (k+1)=vK n sp++bG (aT (n.attrs.take (k+1))):=rfl
      have htk:((dp n k).map bh).take k=(dp n k).map bh:=List.take_of_length_le (by rw[Lm];omega)
      have hna:=hl a (List.mem_of_getElem? ha)
      have hpre:=nR n.attrs (k+1)
      cases h0:(a.space==[]) with
      | true =>
        have hrel:df (aT n.attrs) a=⟨[],a.name,a.value⟩:=by unfold df;rw[h0];rfl
        have hS2:aT (n.attrs.take (k+1))=aT (n.attrs.take k):=by rw[hS1];unfold e9;rw[if_pos h0]
        have hA2:cm n sp (k+1)=cm n sp k:=by unfold cm;rw[hS2]
        have hsn:(dp n k).map bh++[[.str [],.str a.name,.str a.value]]=(dp n (k+1)).map bh:=by rw[hR1,hrel];exact iI (dp n k) ⟨[],a.name,a.value⟩
        repeat' first|simp only[aj,ag,zF,ap,hat,bh,hlt,d1,d2,h0,hwk,hRl,htk,hsn,Bt,Bf,ae,av,Lm,ai,seval,ah]|exact rfl|refine aa (v:=.any) ?_|refine aq (ps:=[(1,4),(4,7),(1,9)]) (by decide +kernel) (by simp only[List.forall_mem_cons,List.getD_cons_zero,List.getD_cons_succ,zF,ap,hat,bh,hlt,d1,d2,h0,hwk,hRl,htk,hsn,Bt,Bf,ae,av,Lm,ai,seval,ah]<;>(try simp)<;>(try omega)) ?_|refine ao (by decide +kernel) ?_|((first|apply Ca|apply Cb)<;>intro hb)|refine Ai (by omega) ?_|(apply Ai<;>intro hb)
        all_goals ((refine au bu (k+1) [some b0,some (b0+1),some (b0+2),some (b0+3),some (b0+304)] ?_ ?_ ?_ ?_;rotate_left 2;(focus (show b0<=_;omega));(focus (refine⟨?_,?_⟩<;>(try simp only[aM,hS2,hA2,hRl1,hwk,ae,av,Lm,ai,seval,ah,al])<;>(try omega)))))
        all_goals (first|(show n.attrs.length-(k+1)<n.attrs.length-k;omega)|exact hlt|skip)
      | false =>
        have hxl:(a.space==ks)=(a.space==[104,116,116,112,58,47,47,119,119,119,46,119,51,46,111,114,103,47,88,77,76,47,49,57,57,56,47,110,97,109,101,115,112,97,99,101]):=rfl
        have h0':¬(a.space==[])=true:=by rw[h0];decide
        have hrel:df (aT n.attrs) a=⟨[],rU (aT n.attrs) a.space++58::a.name,a.value⟩:=by unfold df;rw[if_neg h0']
        have hsn0:∀ p:List UInt8,rU (aT n.attrs) a.space=p->(dp n k).map bh++[[.str [],.str (p++[58]++a.name),.str a.value]]=(dp n (k+1)).map bh:=fun p hp=>by
          rw[hR1,hrel,hp,show p++[58]++a.name=p++58::a.name by simp];exact iI (dp n k) ⟨[],p++58::a.name,a.value⟩
        cases hx:(a.space==ks) with
        | true =>
          have hS2:aT (n.attrs.take (k+1))=aT (n.attrs.take k):=by rw[hS1];unfold e9;rw[if_neg h0',if_pos hx]
          have hA2:cm n sp (k+1)=cm n sp k:=by unfold cm;rw[hS2]
          have hsn:=hsn0 [120,109,108] (by unfold rU;rw[if_pos hx])
          simp only[List.cons_append,List.nil_append]at hsn
          rw[hx]at hxl
          repeat' first|simp only[aj,ag,zF,ap,hat,bh,hlt,d1,d2,h0,hxl.symm,hwk,hRl,htk,hsn,Bt,Bf,ae,av,List.length_append,List.length_cons,List.length_nil,Lm,ai,seval,ah]|exact rfl|refine aa (v:=.any) ?_|refine aq (ps:=[(1,4),(4,7),(1,9)]) (by decide +kernel) (by simp only[List.forall_mem_cons,List.getD_cons_zero,List.getD_cons_succ,zF,ap,hat,bh,hlt,d1,d2,h0,hxl.symm,hwk,hRl,htk,hsn,Bt,Bf,ae,av,List.length_append,List.length_cons,List.length_nil,Lm,ai,seval,ah]<;>(try simp)<;>(try omega)) ?_|refine ao (by decide +kernel) ?_|((first|apply Ca|apply Cb)<;>intro hb)|refine Ai (by omega) ?_|(apply Ai<;>intro hb)
          all_goals ((refine au bu (k+1) [some b0,some (b0+1),some (b0+2),some (b0+3),some (b0+480)] ?_ ?_ ?_ ?_;rotate_left 2;(focus (show b0<=_;omega));(focus (refine⟨?_,?_⟩<;>(try simp only[aM,hS2,hA2,hRl1,hwk,ae,av,Lm,ai,seval,ah,al])<;>(try omega)))))
          all_goals (first|(show n.attrs.length-(k+1)<n.attrs.length-k;omega)|exact hlt|skip)
        | false =>
          rw[hx]at hxl
          have hx':¬(a.space==ks)=true:=by rw[hx];decide
          have hix:=fun nm=>xK (aT (n.attrs.take k)) a.space (by unfold aS;omega) nm
          have hSF:=nR n.attrs k
          cases hf:(aT (n.attrs.take k)).findIdx? (· == a.space) with
          | some j =>
            have hj:j<(aT (n.attrs.take k)).length:=(List.findIdx?_eq_some_iff_getElem.1 hf).1
            have hS2:aT (n.attrs.take (k+1))=aT (n.attrs.take k):=by rw[hS1];unfold e9;rw[if_neg h0',if_neg hx',if_pos (sd hf)]
            have hA2:cm n sp (k+1)=cm n sp k:=by unfold cm;rw[hS2]
            have hsn:=hsn0 (110::ec (j+1)) (by unfold rU;rw[if_neg hx',Hx hSF hf])
            simp only[List.cons_append,List.append_assoc,List.nil_append]at hsn
            have hil:=qm (j+1) (by omega)
            have hit:=fun nm=>y4 (j+1) (by omega) nm
            have e1:decide ((j:Int)<0)=false:=aR
            have e2:IntKind.i64.wrap ((j:Int)+1)=((j+1:Nat):Int):=aK
            rw[hf,cO]at hix
            repeat' first|simp only[aj,ag,zF,ap,hat,bh,hlt,d1,d2,h0,hxl.symm,hwk,hRl,htk,hsn,e1,e2,qU,Bt,Bf,ae,av,List.append_assoc,List.length_append,List.length_cons,List.length_nil,Lm,ai,seval,ah]|exact rfl|refine aa (v:=.any) ?_|(first|(refine ac ?_ (hit _) ?_)|(refine ab ?_ (fun _=>hit _) ?_))|((refine b7 (xs:=?_) [b0+3] ?_ ?_ ?_ rfl (hix _) ?_);rotate_left 1)|omega|refine aq (ps:=[(1,4),(4,7),(1,9)]) (by decide +kernel) (by simp only[List.forall_mem_cons,List.getD_cons_zero,List.getD_cons_succ,zF,ap,hat,bh,hlt,d1,d2,h0,hxl.symm,hwk,hRl,htk,hsn,e1,e2,qU,Bt,Bf,ae,av,List.append_assoc,List.length_append,List.length_cons,List.length_nil,Lm,ai,seval,ah]<;>(try simp)<;>(try omega)) ?_|refine ao (by decide +kernel) ?_|((first|apply Ca|apply Cb)<;>intro hb)|refine Ai (by omega) ?_|(apply Ai<;>intro hb)
            all_goals ((refine au bu (k+1) [some b0,some (b0+1),some (b0+2),some (b0+3),some (b0+672)] ?_ ?_ ?_ ?_;rotate_left 2;(focus (show b0<=_;omega));(focus (refine⟨?_,?_⟩<;>(try simp only[aM,hS2,hA2,hRl1,hwk,ae,av,Lm,ai,seval,ah,al])<;>(try omega)))))
            all_goals (first|(show n.attrs.length-(k+1)<n.attrs.length-k;omega)|exact hlt|skip)
          | none =>
            have hS2:aT (n.attrs.take (k+1))=aT (n.attrs.take k)++[a.space]:=by rw[hS1];unfold e9;rw[if_neg h0',if_neg hx',if_neg (by rw[nc hf];decide)]
            have hpre:=nR n.attrs (k+1)
            have hsn:=hsn0 (110::ec ((aT (n.attrs.take k)).length+1)) (by
              rw[hS2]at hpre
              unfold rU;rw[if_neg hx',Hx hpre (Ag hf)])
            have hA2:cm n sp (k+1)=cm n sp k++[lp (aT (n.attrs.take k)).length a.space]:=by unfold cm;rw[hS2,zZ,List.append_assoc]
            have hAs:(cm n sp k).map bh++[[.str [],.str ([120,109,108,110,115,58,110]++ec ((aT (n.attrs.take k)).length+1)),.str a.space]]=(cm n sp (k+1)).map bh:=by rw[hA2];exact iI (cm n sp k) (lp _ _)
            have hA3:(cm n sp k).length+1=(cm n sp (k+1)).length:=by rw[hA2,List.length_append];rfl
            have hSs:(aT (n.attrs.take k)).map mV++[[.str a.space]]=(aT (n.attrs.take (k+1))).map mV:=by rw[hS2];exact zz _ _
            have hS3:(aT (n.attrs.take k)).length+1=(aT (n.attrs.take (k+1))).length:=by rw[hS2,List.length_append];rfl
            simp only[List.cons_append,List.append_assoc,List.nil_append]at hsn hAs
            generalize hJ:(aT (n.attrs.take k)).length=j at hsn hAs hS3 hSl hA2
            have hil:=qm (j+1) (by omega)
            have hit:=fun nm=>y4 (j+1) (by omega) nm
            have e1:decide ((-1:Int)<0)=true:=rfl
            have e2:IntKind.i64.wrap ((j:Int)+1)=((j+1:Nat):Int):=aK
            have htj:((aT (n.attrs.take k)).map mV).take j=(aT (n.attrs.take k)).map mV:=List.take_of_length_le (by rw[Lm];omega)
            rw[hf,eH]at hix
            repeat' first|simp only[aj,ag,zF,ap,hat,bh,hlt,d1,d2,h0,hxl.symm,hwk,hRl,htk,hsn,hAs,hSs,hJ,e1,e2,htj,dM,Bt,Bf,ae,av,List.append_assoc,List.length_append,List.length_cons,List.length_nil,Lm,ai,seval,ah]|exact rfl|refine aa (v:=.any) ?_|(first|(refine ac ?_ (hit _) ?_)|(refine ab ?_ (fun _=>hit _) ?_))|((refine b7 (xs:=?_) [b0+3] ?_ ?_ ?_ rfl (hix _) ?_);rotate_left 1)|omega|refine aq (ps:=[(1,4),(4,7),(1,9)]) (by decide +kernel) (by simp only[List.forall_mem_cons,List.getD_cons_zero,List.getD_cons_succ,zF,ap,hat,bh,hlt,d1,d2,h0,hxl.symm,hwk,hRl,htk,hsn,hAs,hSs,hJ,e1,e2,htj,dM,Bt,Bf,ae,av,List.append_assoc,List.length_append,List.length_cons,List.length_nil,Lm,ai,seval,ah]<;>(try simp)<;>(try omega)) ?_|refine ao (by decide +kernel) ?_|((first|apply Ca|apply Cb)<;>intro hb)|refine Ai (by omega) ?_|(apply Ai<;>intro hb)
            all_goals ((refine au bu (k+1) [some b0,some (b0+1),some (b0+736),some (b0+544),some (b0+1024)] ?_ ?_ ?_ ?_;rotate_left 2;(focus (show b0<=_;omega));(focus (refine⟨?_,?_⟩<;>(try simp only[aM,hS3,hA3,hRl1,hwk,ae,av,Lm,ai,seval,ah,al])<;>(try omega)))))
            all_goals (first|(show n.attrs.length-(k+1)<n.attrs.length-k;omega)|exact hlt|skip)
    · have hke:k=n.attrs.length:=by omega
      subst hke
      have d1:decide ((n.attrs.length:Int)<(n.attrs.length:Int))=false:=aR
      have d2:decide (n.attrs.length<n.attrs.length)=false:=aR
      have hAl:=s7 n sp n.attrs.length
      have hRl:=nU n (Nat.le_refl n.attrs.length)
      have htk:((dp n n.attrs.length).map bh).take n.attrs.length=(dp n n.attrs.length).map bh:=List.take_of_length_le (by rw[Lm];omega)
      have hsn:(cm n sp n.attrs.length).map bh++(dp n n.attrs.length).map bh=(cm n sp n.attrs.length++dp n n.attrs.length).map bh:=by rw[List.map_append]
      have hlen:(cm n sp n.attrs.length++dp n n.attrs.length).length=(cm n sp n.attrs.length).length+n.attrs.length:=by rw[List.length_append,hRl]
      ((repeat' first|simp only[aj,ag,zF,ap,d1,d2,hRl,htk,hsn,hlen,mJ,dM,ae,av,Lm,ai,seval,ah]|exact rfl|refine aa (v:=.any) ?_|refine aq (ps:=[(1,4),(4,7),(1,9)]) (by decide +kernel) (by simp only[List.forall_mem_cons,List.getD_cons_zero,List.getD_cons_succ,zF,ap,d1,d2,hRl,htk,hsn,hlen,mJ,dM,ae,av,Lm,ai,seval,ah]<;>(try simp)<;>(try omega)) ?_|refine ao (by decide +kernel) ?_|((first|apply Ca|apply Cb)<;>intro hb)|refine Ai (by omega) ?_|(apply Ai<;>intro hb));(all_goals (first|(refine Fin.auto (r:=?_) (l:=?_) ?_ ?_ ?_ ?_ ?_ ?_ ?_;rotate_left 1;(simp only[zF,be,bA,aU,bd,d1,d2,hRl,htk,hsn,hlen,mJ,dM,ae,av,Lm,ai,seval,ah]);(exact rfl);rotate_left 1;(simp only[V.owns,ownsL,List.cons_append,List.nil_append]);(exact rfl);all_goals (try simp only[zF,be,bA,aU,bd,d1,d2,hRl,htk,hsn,hlen,mJ,dM,ae,av,Lm,rT,ai,seval,ah]);all_goals (try simp only[al]))|skip)))
end Go.Proofs.YtlnlopnpcmahgaaGreatDoor
