/-
 Texts joined: XOe,XOf.
-/
import Derived.Test.YtlnlopnpcmahgaaGreatDoorR1
import Derived.Test.YtlnlopnpcmahgaaGreatDoorQe
import Derived.Test.YtlnlopnpcmahgaaGreatDoorQh
import Derived.Test.YtlnlopnpcmahgaaGreatDoorQt
set_option linter.all false
namespace Go.Proofs.YtlnlopnpcmahgaaGreatDoor
set_option maxRecDepth 100000
set_option maxHeartbeats 32000000
open Go Go.RowKit Vm Go.Lib Tryz
open Vm renaming aW->Ca,bf->Cb
open And renaming intro->Ai
open List renaming length_map->Lm,not_mem_nil->Ln,map_nil->Lo,map_cons->Lc,mem_cons->Lk
open Bool renaming not_false->Bf,not_true->Bt
def Ea:List UInt8:=[48,49,50,51,52,53,54,55,56,57,97,98,99,100,101,102,103,104,105,106,107,108,109,110,111,112,113,114,115,116,117,118,119,120,121,122]
def EV:List UInt8:=[48,48,48,49,48,50,48,51,48,52,48,53,48,54,48,55,48,56,48,57,49,48,49,49,49,50,49,51,49,52,49,53,49,54,49,55,49,56,49,57,50,48,50,49,50,50,50,51,50,52,50,53,50,54,50,55,50,56,50,57,51,48,51,49,51,50,51,51,51,52,51,53,51,54,51,55,51,56,51,57,52,48,52,49,52,50,52,51,52,52,52,53,52,54,52,55,52,56,52,57,53,48,53,49,53,50,53,51,53,52,53,53,53,54,53,55,53,56,53,57,54,48,54,49,54,50,54,51,54,52,54,53,54,54,54,55,54,56,54,57,55,48,55,49,55,50,55,51,55,52,55,53,55,54,55,55,55,56,55,57,56,48,56,49,56,50,56,51,56,52,56,53,56,54,56,55,56,56,56,57,57,48,57,49,57,50,57,51,57,52,57,53,57,54,57,55,57,56,57,57]
def Lh:∀ i,i<10->(Ea.drop i).take (i+1-i)=eo i:=by decide +kernel
def Lg:∀ i,i<100 -> ¬ i<10->(EV.drop (i*2)).take (i*2+2-i*2)=eo i:=by decide +kernel
def AZ (i:Nat)(hi:i<100)(nm:Nat):Ev cx 223 nm [.int .i64 i] am.nil (.str (eo i)) []:=by
 by_cases h:i<10
 ·have d1:decide ((i:Int)<10)=true:=bR
  have d2:IntKind.i64.wrap ((i:Int)+1)=((i+1:Nat):Int):=bd
  have d3:(i:Int)<=((i+1:Nat):Int):=by omega
  have hz:=Lh i h
  unfold Ea at hz
  refine bh call223 func223 rfl (by kernel_rfl) rfl ?_;intro b0 hb0
  (repeat' first|simp only[ak,ag,results223,ntmps223,al,d1,d2,hz,List.length_cons,List.length_nil,ai,seval,ah]|exact rfl|refine aa (v:=.any) ?_|((first|apply Ca|apply Cb)<;>intro hb)|refine Ai (by omega) ?_|(apply Ai<;>intro hb)|refine Fin.pure ?_ ?_ ?_|simp only[ap])
 ·have d1:decide ((i:Int)<10)=false:=bm
  have d2:IntKind.i64.wrap ((i:Int)*2)=((i*2:Nat):Int):=bd
  have d3:IntKind.i64.wrap (((i*2:Nat):Int)+2)=((i*2+2:Nat):Int):=bd
  have hz:=Lg i hi h
  unfold EV at hz
  refine bh call223 func223 rfl (by kernel_rfl) rfl ?_;intro b0 hb0
  (repeat' first|simp only[ak,ag,results223,ntmps223,al,d1,d2,d3,hz,List.append_eq,List.cons_append,List.nil_append,List.length_cons,List.length_nil,ai,seval,ah]|exact rfl|refine aa (v:=.any) ?_|((first|apply Ca|apply Cb)<;>intro hb)|refine Ai (by omega) ?_|(apply Ai<;>intro hb)|refine Fin.pure ?_ ?_ ?_|simp only[ap])
def Jg (i:Nat)(hi:i<100)(nm:Nat):Ev cx 202 nm [.int .i64 i,.int .i64 10] am.nil (.str (eo i)) []:=by
 have d1:decide ((0:Int)<=(i:Int))=true:=bR
 have d2:decide ((i:Int)<100)=true:=bR
 refine bh call202 func202 rfl (by kernel_rfl) rfl ?_;intro b0 hb0
 (repeat' first|simp only[ak,ag,results202,ntmps202,al,d1,d2,ai,seval,ah]|exact rfl|refine aa (v:=.any) ?_|(first|(refine ae ?_ (AZ i hi _) ?_)|(refine ab ?_ (fun _=>AZ i hi _) ?_))|((first|apply Ca|apply Cb)<;>intro hb)|refine Ai (by omega) ?_|(apply Ai<;>intro hb)|refine Fin.pure ?_ ?_ ?_|simp only[ap])
def An (i:Nat)(hi:i<100)(nm:Nat):Ev cx 171 nm [.int .i64 i] am.nil (.str (eo i)) []:=by
 refine bh call171 func171 rfl (by kernel_rfl) rfl ?_;intro b0 hb0
 (repeat' first|simp only[ak,ag,results171,ntmps171,al,ai,seval,ah]|exact rfl|refine aa (v:=.any) ?_|(first|(refine ae ?_ (Jg i hi _) ?_)|(refine ab ?_ (fun _=>Jg i hi _) ?_))|((first|apply Ca|apply Cb)<;>intro hb)|refine Ai (by omega) ?_|(apply Ai<;>intro hb)|refine Fin.pure ?_ ?_ ?_|simp only[ap])
def Ew (i:Nat)(hi:i<100)(nm:Nat):Ev cx 127 nm [.int .i64 i] am.nil (.str (eo i)) []:=by
 refine bh call127 func127 rfl (by kernel_rfl) rfl ?_;intro b0 hb0
 (repeat' first|simp only[ak,ag,results127,ntmps127,al,ai,seval,ah]|exact rfl|refine aa (v:=.any) ?_|(first|(refine ae ?_ (An i hi _) ?_)|(refine ab ?_ (fun _=>An i hi _) ?_))|((first|apply Ca|apply Cb)<;>intro hb)|refine Ai (by omega) ?_|(apply Ai<;>intro hb)|refine Fin.pure ?_ ?_ ?_|simp only[ap])
def yU (s:List UInt8):List V:=[.str s]
def cB (l:List (List UInt8)):plainLL (l.map yU)=true:=cA _ (fun _=>rfl) l
def CN (l:List (List UInt8))(s:List UInt8)(hn:l.length<=bc)(nm:Nat):Ev cx 126 nm [.sl false 1 (l.map yU),.str s] am.nil (.int .i64 (Gt (l.findIdx? (· == s)))) []:=by
 unfold bc at hn
 refine bh call126 func126 rfl (by kernel_rfl) rfl ?_;intro b0 hb0;have zF:=Ai results126 ntmps126
 repeat' first|simp only[ak,ag,zF,al,ai,seval,ah]|exact rfl|refine aa (v:=.any) ?_|((first|apply Ca|apply Cb)<;>intro hb)|refine Ai (by omega) ?_|(apply Ai<;>intro hb)
 (refine aQ bM (fun x:Nat=>l.length-x) (fun x=>x<=l.length/\(l.take x).any (· == s)=false) (b0+16) (fun x=>[(0,.sl false 1 (l.map yU)),(1,.str s),(7,.int .i64 l.length),(8,.int .i64 x)]) (fun x=>[]) (0) [] ?_ ?_ ?_ ?_;rotate_left 1;(focus (show b0<=_;omega));(focus (refine⟨?_,?_⟩<;>(try simp only[aX,Lm,cB,ai,seval,ah,ap])<;>(try omega)));rotate_left 1)
 ·exact⟨Nat.zero_le _,by simp⟩
 ·rintro k ⟨hk,hno⟩
  by_cases hlt:k<l.length
  ·obtain⟨h,hh⟩:∃ h,l[k]? = some h:=⟨_,List.getElem?_eq_getElem hlt⟩
   have hat:(l.map yU)[k]? = some (yU h):=by rw[List.getElem?_map,hh];rfl
   have hd:decide (k<l.length)=true:=decide_eq_true hlt
   have hwk:IntKind.i64.wrap ((k:Int)+1)=((k+1:Nat):Int):=bd
   have hc:(s==h)=(h==s):=by rw[Bool.eq_iff_iff];simp;exact⟨Eq.symm,Eq.symm⟩
   cases hp:(h==s) with
   | true =>
    have hfd:=mV (p:=(· == s)) hno hh hp
    rw[hp]at hc
    (repeat' first|simp only[ak,ag,zF,al,hat,yU,hlt,hd,hwk,hfd,hc,cq,Lm,ai,seval,ah]|exact rfl|refine aa (v:=.any) ?_|((first|apply Ca|apply Cb)<;>intro hb)|refine Ai (by omega) ?_|(apply Ai<;>intro hb)|refine Fin.pure ?_ ?_ ?_|simp only[ap])
   | false =>
    have hn':=gy (p:=(· == s)) hno hh hp
    rw[hp]at hc
    repeat' first|simp only[ak,ag,zF,al,hat,yU,hlt,hd,hwk,hc,Lm,ai,seval,ah]|exact rfl|refine aa (v:=.any) ?_|((first|apply Ca|apply Cb)<;>intro hb)|refine Ai (by omega) ?_|(apply Ai<;>intro hb)
    all_goals ((refine aC bM (k+1) [] ?_ ?_ ?_ ?_;rotate_left 2;(focus (show b0<=_;omega));(focus (refine⟨?_,?_⟩<;>(try simp only[aX,cB,hwk,ai,seval,ah,ap])<;>(try omega)))))
    all_goals (first|(show l.length-(k+1)<l.length-k;omega)|exact⟨hlt,hn'⟩|skip)
  ·have hke:k=l.length:=by omega
   subst hke
   rw[List.take_length]at hno
   have hfd:=jD hno
   have hd:decide (l.length<l.length)=false:=bm
   (repeat' first|simp only[ak,ag,zF,al,hd,hfd,eH,Lm,ai,seval,ah]|exact rfl|refine aa (v:=.any) ?_|((first|apply Ca|apply Cb)<;>intro hb)|refine Ai (by omega) ?_|(apply Ai<;>intro hb)|refine Fin.pure ?_ ?_ ?_|simp only[ap])
def Nr (s:List UInt8)(d:UInt8):decide ((0:Int)<=indexByte s d)=s.contains d:=by
 cases h:ep d s with
 | none =>
  rw[iG.2 h]
  cases hc:s.contains d with
  | false=>rfl
  | true=>exact absurd (List.contains_iff_mem.1 hc) (gY.1 h)
 | some p =>
  obtain⟨a,b⟩:=p
  have:=(j8 h).1
  rw[this,bR,List.contains_iff_mem.2 (by rw[(fb h).1];simp)]
def EU (s:List UInt8)(d:UInt8)(nm:Nat):Ev cx 195 nm [.str s,.str [d]] am.nil (.int .i64 (indexByte s d)) []:=by
 refine bh call195 func195 rfl (by kernel_rfl) rfl ?_;intro b0 hb0
 (repeat' first|simp only[ak,ag,results195,ntmps195,al,ai,seval,ah]|exact rfl|refine aa (v:=.any) ?_|(first|(refine ae ?_ (jq s d _) ?_)|(refine ab ?_ (fun _=>jq s d _) ?_))|((first|apply Ca|apply Cb)<;>intro hb)|refine Ai (by omega) ?_|(apply Ai<;>intro hb)|refine Fin.pure ?_ ?_ ?_|simp only[ap])
def zo (s:List UInt8)(d:UInt8)(nm:Nat):Ev cx 156 nm [.str s,.str [d]] am.nil (.bool (s.contains d)) []:=by
 rw[<- Nr]
 refine bh call156 func156 rfl (by kernel_rfl) rfl ?_;intro b0 hb0
 (repeat' first|simp only[ak,ag,results156,ntmps156,al,ai,seval,ah]|exact rfl|refine aa (v:=.any) ?_|(first|(refine ae ?_ (EU s d _) ?_)|(refine ab ?_ (fun _=>EU s d _) ?_))|((first|apply Ca|apply Cb)<;>intro hb)|refine Ai (by omega) ?_|(apply Ai<;>intro hb)|refine Fin.pure ?_ ?_ ?_|simp only[ap])
def rS (K:kw):List (V×V):=K.map fun p=>(.str p.1,.agg [.str p.2])
def Sb:vF cx.P 153=some (9,156):=by kernel_rfl
def SU:Qg cx.P 153=true:=by kernel_rfl
def SV:DD cx.P 153=true:=by kernel_rfl
def xM (p:List UInt8):∀(K:kw),dH (.str p) (rS K)=some ((eL p K).map fun v=>.agg [.str v])
 | []=>rfl
 | q::r=>by
  have ih:=xM p r
  simp only[rS,Lc]at ih ⊢
  simp only[dH,kq,eL]
  cases h:(p==q.1) with
  | true=>simp
  | false=>simpa using ih
def KS (p v:List UInt8):∀(K:kw),pe (.str p) (.agg [.str v]) (rS K)=rS (so p v K)
 | []=>rfl
 | q::r=>by
  have ih:=KS p v r
  simp only[rS,Lc]at ih ⊢
  simp only[pe,kq,so]
  cases h:(p==q.1) with
  | true=>simp
  | false=>simpa using ih
def GC (y:Nat)(K:kw)(M:am)(nm:Nat)(hM:M y=some (eT (rS K)))(ho:∀ z,(M z).isSome=true->z∈[y])(hlt:y<nm):Ev cx 107 nm [.mp y] M (.mp nm) [(y,some (eT (rS K))),(nm,some (eT (rS K)))]:=by
 have hc:=fun (M':am) (m:Nat) (h1:M' y=some (eT (rS K))) h2 h3=>Ev.clone (cx:=cx) func153 (by kernel_rfl) (by kernel_rfl) (by kernel_rfl) (by kernel_rfl) 153 y (rS K) M' m h1 h2 h3
 refine bh call107 func107 rfl (by kernel_rfl) rfl ?_;intro b0 hb0
 have k1:=aB hb0 hM
 have z0:=aD k1
 have g1:(nm=y)=False:=eq_false (by omega)
 repeat' first|simp only[ak,ag,results107,ntmps107,al,SU,hM,z0,au,ai,seval,ah]|exact rfl|refine aa (v:=.any) ?_|(refine ac ?_ [y] (hc _ _ ?_ aj (by omega)) ?_ ?_)|(refine kL rfl (by kernel_rfl) ?_)|(refine jA (u:=?_) ?_ SV ?_)|((first|apply Ca|apply Cb)<;>intro hb)|refine Ai (by omega) ?_|(apply Ai<;>intro hb)
 all_goals ((refine Fin.give [(y,none),(b0+80,some 0)] [] ?_ ?_ ?_ ?_ ?_ (aL ho (by simp[aP,tgt]))<;>(try simp only[results107,ntmps107,al,hM,z0,g1,cC,bv,dx,ai,seval,ah])<;>(try simp only[ap])<;>(try omega)))
def pv (l:List At)(a:At):l.map b9++[[.str a.space,.str a.name,.str a.value]]=(l++[a]).map b9:=by simp[b9]
def Oy (l:List (List UInt8))(a:List UInt8):l.map yU++[[.str a]]=(l++[a]).map yU:=by simp[yU]
def kG (l:List At):(l.map b9).take l.length=l.map b9:=bz _ _
def Ly (l:List (List UInt8)):(l.map yU).take l.length=l.map yU:=bz _ _
def vG {f:At->At}{l:List At}{k:Nat}{a:At}(h:l[k]? = some a):(l.take (k+1)).map f=(l.take k).map f++[f a]:=by
 obtain⟨hk,rfl⟩:=List.getElem?_eq_some_iff.1 h
 rw[List.take_succ_eq_append_getElem hk,List.map_append];rfl
def wQ:bF []=[]:=rfl
def dq (n:Nd)(sp:List UInt8)(k:Nat):List At:=Bq n sp++fO (bF (n.attrs.take k))
def eZ (n:Nd)(k:Nat):List At:=(n.attrs.take k).map (jZ (bF n.attrs))
def wW (n:Nd)(sp:List UInt8)(k:Nat):(dq n sp k).length<=1+n.attrs.length:=by
 have h1:=rz (n.attrs.take k)
 have h2:(Bq n sp).length<=1:=by unfold Bq;split<;>simp
 unfold dq
 rw[List.length_append,IA]
 simp only[List.length_take]at h1
 omega
def rD (n:Nd){k:Nat}(hk:k<=n.attrs.length):(eZ n k).length=k:=by unfold eZ;rw[Lm,List.length_take];omega
def Ow (n:Nd)(sp:List UInt8)(hn:n.attrs.length<=16)(hl:∀ a∈n.attrs,a.name.length<=1000000)(nm:Nat):Ev cx 77 nm [.agg (aV n),.str sp] am.nil (.agg (aV (bp n sp))) []:=by
  refine Ev.freeze (v:=.agg [.int .u8 n.kind,.str [],.str n.name,.own nm 0 (bp n sp).attrs.length,.str [],.int .i64 n.many]) (eff:=[(nm,some ⟨3,(bp n sp).attrs.map b9⟩)]) ?_ ?_ ?_
  rotate_left 1
  · have hpl:=aq (bp n sp).attrs
    have htk:=kG (bp n sp).attrs
    simp only[ak,ag,al,hpl,htk,Lm,ai,seval,ah]<;>omega
  · have hpl:=aq (bp n sp).attrs
    have htk:=kG (bp n sp).attrs
    simp only[ak,ag,al,aV,hpl,htk,Lm,ai,seval,ah]
    rfl
  have hall:(bp n sp).attrs=dq n sp n.attrs.length++eZ n n.attrs.length:=by unfold bp dq eZ;rw[List.take_length]
  rw[hall]
  have hS0:bF (n.attrs.take 0)=[]:=by simp[bF]
  have hR0:eZ n 0=[]:=by simp[eZ]
  rcases Bool.eq_false_or_eq_true (n.space==sp) with he|he
  focus
    have hA0:dq n sp 0=[]:=by unfold dq Bq;simp[he,bF,fO]
    refine bh call77 func77 rfl (by kernel_rfl) rfl ?_;intro b0 hb0;have zF:=Ai results77 ntmps77
    repeat' first|simp only[ak,ag,zF,al,aV,he,Bt,Bf,aq,Lm,ai,seval,ah]|exact rfl|refine aa (v:=.any) ?_|refine aZ (ps:=[(1,4),(4,7),(1,9)]) (by decide +kernel) (by simp only[List.forall_mem_cons,List.getD_cons_zero,List.getD_cons_succ,zF,al,aV,he,Bt,Bf,aq,Lm,ai,seval,ah]<;>(try simp)<;>(try omega)) ?_|refine az (by decide +kernel) ?_|((first|apply Ca|apply Cb)<;>intro hb)|refine Ai (by omega) ?_|(apply Ai<;>intro hb)
    (refine aQ bM (fun x:Nat=>n.attrs.length-x) (fun x=>x<=n.attrs.length) (b0+16) (fun x=>[(4,.ptr b0 0 0),(5,.ptr (b0+1) 0 0),(6,.own (b0+3) 0 (bF (n.attrs.take x)).length),(7,.own (b0+4) 0 (eZ n x).length),(33,.sl false 3 (n.attrs.map b9)),(34,.int .i64 n.attrs.length),(35,.int .i64 x)]) (fun x=>[(b0,⟨6,[[.int .u8 0,.str [],.str [],.nils,.str [],.int .i64 0]]⟩),(b0+1,⟨6,[[.int .u8 n.kind,.str [],.str n.name,.own (b0+2) 0 (dq n sp x).length,.str [],.int .i64 n.many]]⟩),(b0+2,⟨3,(dq n sp x).map b9⟩),(b0+3,⟨1,(bF (n.attrs.take x)).map yU⟩),(b0+4,⟨3,(eZ n x).map b9⟩)]) (0) [some (b0+16),some (b0+144),none,none,none] ?_ ?_ ?_ ?_;rotate_left 1;(focus (show b0<=_;omega));(focus (refine⟨?_,?_⟩<;>(try simp only[aX,hA0,hS0,hR0,wQ,List.take_zero,aJ,b9,aq,cB,Lc,Lo,List.length_cons,List.length_nil,Lm,ai,seval,ah,ap])<;>(try omega)));rotate_left 1)
  rotate_left 2
  focus
    have hA0:dq n sp 0=[⟨[],[120,109,108,110,115],n.space⟩]:=by unfold dq Bq;simp[he,bF,fO]
    refine bh call77 func77 rfl (by kernel_rfl) rfl ?_;intro b0 hb0;have zF:=Ai results77 ntmps77
    repeat' first|simp only[ak,ag,zF,al,aV,he,Bt,Bf,aq,Lm,ai,seval,ah]|exact rfl|refine aa (v:=.any) ?_|refine aZ (ps:=[(1,4),(4,7),(1,9)]) (by decide +kernel) (by simp only[List.forall_mem_cons,List.getD_cons_zero,List.getD_cons_succ,zF,al,aV,he,Bt,Bf,aq,Lm,ai,seval,ah]<;>(try simp)<;>(try omega)) ?_|refine az (by decide +kernel) ?_|((first|apply Ca|apply Cb)<;>intro hb)|refine Ai (by omega) ?_|(apply Ai<;>intro hb)
    (refine aQ bM (fun x:Nat=>n.attrs.length-x) (fun x=>x<=n.attrs.length) (b0+16) (fun x=>[(4,.ptr b0 0 0),(5,.ptr (b0+1) 0 0),(6,.own (b0+3) 0 (bF (n.attrs.take x)).length),(7,.own (b0+4) 0 (eZ n x).length),(33,.sl false 3 (n.attrs.map b9)),(34,.int .i64 n.attrs.length),(35,.int .i64 x)]) (fun x=>[(b0,⟨6,[[.int .u8 0,.str [],.str [],.nils,.str [],.int .i64 0]]⟩),(b0+1,⟨6,[[.int .u8 n.kind,.str [],.str n.name,.own (b0+2) 0 (dq n sp x).length,.str [],.int .i64 n.many]]⟩),(b0+2,⟨3,(dq n sp x).map b9⟩),(b0+3,⟨1,(bF (n.attrs.take x)).map yU⟩),(b0+4,⟨3,(eZ n x).map b9⟩)]) (0) [some (b0+16),some (b0+144),some (b0+336),none,none] ?_ ?_ ?_ ?_;rotate_left 1;(focus (show b0<=_;omega));(focus (refine⟨?_,?_⟩<;>(try simp only[aX,hA0,hS0,hR0,wQ,List.take_zero,aJ,b9,aq,cB,Lc,Lo,List.length_cons,List.length_nil,Lm,ai,seval,ah,ap])<;>(try omega)));rotate_left 1)
  all_goals (first|exact Nat.zero_le _|skip)
  all_goals
    intro k hk
    by_cases hlt:k<n.attrs.length
    · obtain ⟨a,ha⟩:∃ a,n.attrs[k]? = some a:=⟨_,List.getElem?_eq_getElem hlt⟩
      have hat:=vS ha
      have d1:decide ((k:Int)<(n.attrs.length:Int))=true:=bR
      have d2:decide (k<n.attrs.length)=true:=decide_eq_true hlt
      have hwk:IntKind.i64.wrap ((k:Int)+1)=((k+1:Nat):Int):=bd
      have hAl:=wW n sp k
      have hRl:=rD n hk
      have hRl1:=rD n (k:=k+1) hlt
      have hSl:=rz (n.attrs.take k)
      rw[List.length_take]at hSl
      have hS1:=Dx ha
      have hR1:eZ n (k+1)=eZ n k++[jZ (bF n.attrs) a]:=vG ha
      have hA1:dq n sp (k+1)=Bq n sp++fO (bF (n.attrs.take (k+1))):=rfl
      have htk:((eZ n k).map b9).take k=(eZ n k).map b9:=List.take_of_length_le (by rw[Lm];omega)
      have hna:=hl a (List.mem_of_getElem? ha)
      have hpre:=rA n.attrs (k+1)
      cases h0:(a.space==[]) with
      | true =>
        have hrel:jZ (bF n.attrs) a=⟨[],a.name,a.value⟩:=by unfold jZ;rw[h0];rfl
        have hS2:bF (n.attrs.take (k+1))=bF (n.attrs.take k):=by rw[hS1];unfold gX;rw[if_pos h0]
        have hA2:dq n sp (k+1)=dq n sp k:=by unfold dq;rw[hS2]
        have hsn:(eZ n k).map b9++[[.str [],.str a.name,.str a.value]]=(eZ n (k+1)).map b9:=by rw[hR1,hrel];exact pv (eZ n k) ⟨[],a.name,a.value⟩
        repeat' first|simp only[ak,ag,zF,al,hat,b9,hlt,d1,d2,h0,hwk,hRl,htk,hsn,Bt,Bf,aq,cB,Lm,ai,seval,ah]|exact rfl|refine aa (v:=.any) ?_|refine aZ (ps:=[(1,4),(4,7),(1,9)]) (by decide +kernel) (by simp only[List.forall_mem_cons,List.getD_cons_zero,List.getD_cons_succ,zF,al,hat,b9,hlt,d1,d2,h0,hwk,hRl,htk,hsn,Bt,Bf,aq,cB,Lm,ai,seval,ah]<;>(try simp)<;>(try omega)) ?_|refine az (by decide +kernel) ?_|((first|apply Ca|apply Cb)<;>intro hb)|refine Ai (by omega) ?_|(apply Ai<;>intro hb)
        all_goals ((refine aC bM (k+1) [some b0,some (b0+1),some (b0+2),some (b0+3),some (b0+304)] ?_ ?_ ?_ ?_;rotate_left 2;(focus (show b0<=_;omega));(focus (refine⟨?_,?_⟩<;>(try simp only[aX,hS2,hA2,hRl1,hwk,aq,cB,Lm,ai,seval,ah,ap])<;>(try omega)))))
        all_goals (first|(show n.attrs.length-(k+1)<n.attrs.length-k;omega)|exact hlt|skip)
      | false =>
        have hxl:(a.space==lj)=(a.space==[104,116,116,112,58,47,47,119,119,119,46,119,51,46,111,114,103,47,88,77,76,47,49,57,57,56,47,110,97,109,101,115,112,97,99,101]):=rfl
        have h0':¬(a.space==[])=true:=by rw[h0];decide
        have hrel:jZ (bF n.attrs) a=⟨[],og (bF n.attrs) a.space++58::a.name,a.value⟩:=by unfold jZ;rw[if_neg h0']
        have hsn0:∀ p:List UInt8,og (bF n.attrs) a.space=p->(eZ n k).map b9++[[.str [],.str (p++[58]++a.name),.str a.value]]=(eZ n (k+1)).map b9:=fun p hp=>by
          rw[hR1,hrel,hp,show p++[58]++a.name=p++58::a.name by simp];exact pv (eZ n k) ⟨[],p++58::a.name,a.value⟩
        cases hx:(a.space==lj) with
        | true =>
          have hS2:bF (n.attrs.take (k+1))=bF (n.attrs.take k):=by rw[hS1];unfold gX;rw[if_neg h0',if_pos hx]
          have hA2:dq n sp (k+1)=dq n sp k:=by unfold dq;rw[hS2]
          have hsn:=hsn0 [120,109,108] (by unfold og;rw[if_pos hx])
          simp only[List.cons_append,List.nil_append]at hsn
          rw[hx]at hxl
          repeat' first|simp only[ak,ag,zF,al,hat,b9,hlt,d1,d2,h0,hxl.symm,hwk,hRl,htk,hsn,Bt,Bf,aq,cB,List.length_append,List.length_cons,List.length_nil,Lm,ai,seval,ah]|exact rfl|refine aa (v:=.any) ?_|refine aZ (ps:=[(1,4),(4,7),(1,9)]) (by decide +kernel) (by simp only[List.forall_mem_cons,List.getD_cons_zero,List.getD_cons_succ,zF,al,hat,b9,hlt,d1,d2,h0,hxl.symm,hwk,hRl,htk,hsn,Bt,Bf,aq,cB,List.length_append,List.length_cons,List.length_nil,Lm,ai,seval,ah]<;>(try simp)<;>(try omega)) ?_|refine az (by decide +kernel) ?_|((first|apply Ca|apply Cb)<;>intro hb)|refine Ai (by omega) ?_|(apply Ai<;>intro hb)
          all_goals ((refine aC bM (k+1) [some b0,some (b0+1),some (b0+2),some (b0+3),some (b0+480)] ?_ ?_ ?_ ?_;rotate_left 2;(focus (show b0<=_;omega));(focus (refine⟨?_,?_⟩<;>(try simp only[aX,hS2,hA2,hRl1,hwk,aq,cB,Lm,ai,seval,ah,ap])<;>(try omega)))))
          all_goals (first|(show n.attrs.length-(k+1)<n.attrs.length-k;omega)|exact hlt|skip)
        | false =>
          rw[hx]at hxl
          have hx':¬(a.space==lj)=true:=by rw[hx];decide
          have hix:=fun nm=>CN (bF (n.attrs.take k)) a.space (by unfold bc;omega) nm
          have hSF:=rA n.attrs k
          cases hf:(bF (n.attrs.take k)).findIdx? (· == a.space) with
          | some j =>
            have hj:j<(bF (n.attrs.take k)).length:=(List.findIdx?_eq_some_iff_getElem.1 hf).1
            have hS2:bF (n.attrs.take (k+1))=bF (n.attrs.take k):=by rw[hS1];unfold gX;rw[if_neg h0',if_neg hx',if_pos (FF hf)]
            have hA2:dq n sp (k+1)=dq n sp k:=by unfold dq;rw[hS2]
            have hsn:=hsn0 (110::eo (j+1)) (by unfold og;rw[if_neg hx',OX hSF hf])
            simp only[List.cons_append,List.append_assoc,List.nil_append]at hsn
            have hil:=ud (j+1) (by omega)
            have hit:=fun nm=>Ew (j+1) (by omega) nm
            have e1:decide ((j:Int)<0)=false:=bm
            have e2:IntKind.i64.wrap ((j:Int)+1)=((j+1:Nat):Int):=bd
            rw[hf,cq]at hix
            repeat' first|simp only[ak,ag,zF,al,hat,b9,hlt,d1,d2,h0,hxl.symm,hwk,hRl,htk,hsn,e1,e2,Ly,Bt,Bf,aq,cB,List.append_assoc,List.length_append,List.length_cons,List.length_nil,Lm,ai,seval,ah]|exact rfl|refine aa (v:=.any) ?_|(first|(refine ae ?_ (hit _) ?_)|(refine ab ?_ (fun _=>hit _) ?_))|((refine bo (xs:=?_) [b0+3] ?_ ?_ ?_ rfl (hix _) ?_);rotate_left 1)|omega|refine aZ (ps:=[(1,4),(4,7),(1,9)]) (by decide +kernel) (by simp only[List.forall_mem_cons,List.getD_cons_zero,List.getD_cons_succ,zF,al,hat,b9,hlt,d1,d2,h0,hxl.symm,hwk,hRl,htk,hsn,e1,e2,Ly,Bt,Bf,aq,cB,List.append_assoc,List.length_append,List.length_cons,List.length_nil,Lm,ai,seval,ah]<;>(try simp)<;>(try omega)) ?_|refine az (by decide +kernel) ?_|((first|apply Ca|apply Cb)<;>intro hb)|refine Ai (by omega) ?_|(apply Ai<;>intro hb)
            all_goals ((refine aC bM (k+1) [some b0,some (b0+1),some (b0+2),some (b0+3),some (b0+672)] ?_ ?_ ?_ ?_;rotate_left 2;(focus (show b0<=_;omega));(focus (refine⟨?_,?_⟩<;>(try simp only[aX,hS2,hA2,hRl1,hwk,aq,cB,Lm,ai,seval,ah,ap])<;>(try omega)))))
            all_goals (first|(show n.attrs.length-(k+1)<n.attrs.length-k;omega)|exact hlt|skip)
          | none =>
            have hS2:bF (n.attrs.take (k+1))=bF (n.attrs.take k)++[a.space]:=by rw[hS1];unfold gX;rw[if_neg h0',if_neg hx',if_neg (by rw[vW hf];decide)]
            have hpre:=rA n.attrs (k+1)
            have hsn:=hsn0 (110::eo ((bF (n.attrs.take k)).length+1)) (by
              rw[hS2]at hpre
              unfold og;rw[if_neg hx',OX hpre (FU hf)])
            have hA2:dq n sp (k+1)=dq n sp k++[sb (bF (n.attrs.take k)).length a.space]:=by unfold dq;rw[hS2,FH,List.append_assoc]
            have hAs:(dq n sp k).map b9++[[.str [],.str ([120,109,108,110,115,58,110]++eo ((bF (n.attrs.take k)).length+1)),.str a.space]]=(dq n sp (k+1)).map b9:=by rw[hA2];exact pv (dq n sp k) (sb _ _)
            have hA3:(dq n sp k).length+1=(dq n sp (k+1)).length:=by rw[hA2,List.length_append];rfl
            have hSs:(bF (n.attrs.take k)).map yU++[[.str a.space]]=(bF (n.attrs.take (k+1))).map yU:=by rw[hS2];exact Oy _ _
            have hS3:(bF (n.attrs.take k)).length+1=(bF (n.attrs.take (k+1))).length:=by rw[hS2,List.length_append];rfl
            simp only[List.cons_append,List.append_assoc,List.nil_append]at hsn hAs
            generalize hJ:(bF (n.attrs.take k)).length=j at hsn hAs hS3 hSl hA2
            have hil:=ud (j+1) (by omega)
            have hit:=fun nm=>Ew (j+1) (by omega) nm
            have e1:decide ((-1:Int)<0)=true:=rfl
            have e2:IntKind.i64.wrap ((j:Int)+1)=((j+1:Nat):Int):=bd
            have htj:((bF (n.attrs.take k)).map yU).take j=(bF (n.attrs.take k)).map yU:=List.take_of_length_le (by rw[Lm];omega)
            rw[hf,eH]at hix
            repeat' first|simp only[ak,ag,zF,al,hat,b9,hlt,d1,d2,h0,hxl.symm,hwk,hRl,htk,hsn,hAs,hSs,hJ,e1,e2,htj,kG,Bt,Bf,aq,cB,List.append_assoc,List.length_append,List.length_cons,List.length_nil,Lm,ai,seval,ah]|exact rfl|refine aa (v:=.any) ?_|(first|(refine ae ?_ (hit _) ?_)|(refine ab ?_ (fun _=>hit _) ?_))|((refine bo (xs:=?_) [b0+3] ?_ ?_ ?_ rfl (hix _) ?_);rotate_left 1)|omega|refine aZ (ps:=[(1,4),(4,7),(1,9)]) (by decide +kernel) (by simp only[List.forall_mem_cons,List.getD_cons_zero,List.getD_cons_succ,zF,al,hat,b9,hlt,d1,d2,h0,hxl.symm,hwk,hRl,htk,hsn,hAs,hSs,hJ,e1,e2,htj,kG,Bt,Bf,aq,cB,List.append_assoc,List.length_append,List.length_cons,List.length_nil,Lm,ai,seval,ah]<;>(try simp)<;>(try omega)) ?_|refine az (by decide +kernel) ?_|((first|apply Ca|apply Cb)<;>intro hb)|refine Ai (by omega) ?_|(apply Ai<;>intro hb)
            all_goals ((refine aC bM (k+1) [some b0,some (b0+1),some (b0+736),some (b0+544),some (b0+1024)] ?_ ?_ ?_ ?_;rotate_left 2;(focus (show b0<=_;omega));(focus (refine⟨?_,?_⟩<;>(try simp only[aX,hS3,hA3,hRl1,hwk,aq,cB,Lm,ai,seval,ah,ap])<;>(try omega)))))
            all_goals (first|(show n.attrs.length-(k+1)<n.attrs.length-k;omega)|exact hlt|skip)
    · have hke:k=n.attrs.length:=by omega
      subst hke
      have d1:decide ((n.attrs.length:Int)<(n.attrs.length:Int))=false:=bm
      have d2:decide (n.attrs.length<n.attrs.length)=false:=bm
      have hAl:=wW n sp n.attrs.length
      have hRl:=rD n (Nat.le_refl n.attrs.length)
      have htk:((eZ n n.attrs.length).map b9).take n.attrs.length=(eZ n n.attrs.length).map b9:=List.take_of_length_le (by rw[Lm];omega)
      have hsn:(dq n sp n.attrs.length).map b9++(eZ n n.attrs.length).map b9=(dq n sp n.attrs.length++eZ n n.attrs.length).map b9:=by rw[List.map_append]
      have hlen:(dq n sp n.attrs.length++eZ n n.attrs.length).length=(dq n sp n.attrs.length).length+n.attrs.length:=by rw[List.length_append,hRl]
      ((repeat' first|simp only[ak,ag,zF,al,d1,d2,hRl,htk,hsn,hlen,qe,kG,aq,cB,Lm,ai,seval,ah]|exact rfl|refine aa (v:=.any) ?_|refine aZ (ps:=[(1,4),(4,7),(1,9)]) (by decide +kernel) (by simp only[List.forall_mem_cons,List.getD_cons_zero,List.getD_cons_succ,zF,al,d1,d2,hRl,htk,hsn,hlen,qe,kG,aq,cB,Lm,ai,seval,ah]<;>(try simp)<;>(try omega)) ?_|refine az (by decide +kernel) ?_|((first|apply Ca|apply Cb)<;>intro hb)|refine Ai (by omega) ?_|(apply Ai<;>intro hb));(all_goals (first|(refine Fin.auto (r:=?_) (l:=?_) ?_ ?_ ?_ ?_ ?_ ?_ ?_;rotate_left 1;(simp only[zF,nH,pH,hZ,jL,d1,d2,hRl,htk,hsn,hlen,qe,kG,aq,cB,Lm,ai,seval,ah]);(exact rfl);rotate_left 1;(simp only[V.owns,ownsL,List.cons_append,List.nil_append]);(exact rfl);all_goals (try simp only[zF,nH,pH,hZ,jL,d1,d2,hRl,htk,hsn,hlen,qe,kG,aq,cB,Lm,Qq,ai,seval,ah]);all_goals (try simp only[ap]))|skip)))
end Go.Proofs.YtlnlopnpcmahgaaGreatDoor
