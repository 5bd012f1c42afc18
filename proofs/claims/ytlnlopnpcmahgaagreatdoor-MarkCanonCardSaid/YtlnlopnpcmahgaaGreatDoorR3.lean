/-
 Texts joined: XOe,XOf.
-/
import Derived.Test.YtlnlopnpcmahgaaGreatDoorR1
import Derived.Test.YtlnlopnpcmahgaaGreatDoorQe
import Derived.Test.YtlnlopnpcmahgaaGreatDoorQh
import Derived.Test.YtlnlopnpcmahgaaGreatDoorQt
set_option linter.all false
namespace Go.Proofs.YtlnlopnpcmahgaaGreatDoor
set_option maxRecDepth 100000
set_option maxHeartbeats 32000000
open Go Go.RowKit Vm Go.Lib Tryz
open Vm renaming ba->Ca,bh->Cb
open And renaming intro->Ai
open List renaming length_map->Lm,not_mem_nil->Ln,map_nil->Lo,map_cons->Lc,mem_cons->Lk
open Bool renaming not_false->Bf,not_true->Bt
def Ep:List UInt8:=[48,49,50,51,52,53,54,55,56,57,97,98,99,100,101,102,103,104,105,106,107,108,109,110,111,112,113,114,115,116,117,118,119,120,121,122]
def Fc:List UInt8:=[48,48,48,49,48,50,48,51,48,52,48,53,48,54,48,55,48,56,48,57,49,48,49,49,49,50,49,51,49,52,49,53,49,54,49,55,49,56,49,57,50,48,50,49,50,50,50,51,50,52,50,53,50,54,50,55,50,56,50,57,51,48,51,49,51,50,51,51,51,52,51,53,51,54,51,55,51,56,51,57,52,48,52,49,52,50,52,51,52,52,52,53,52,54,52,55,52,56,52,57,53,48,53,49,53,50,53,51,53,52,53,53,53,54,53,55,53,56,53,57,54,48,54,49,54,50,54,51,54,52,54,53,54,54,54,55,54,56,54,57,55,48,55,49,55,50,55,51,55,52,55,53,55,54,55,55,55,56,55,57,56,48,56,49,56,50,56,51,56,52,56,53,56,54,56,55,56,56,56,57,57,48,57,49,57,50,57,51,57,52,57,53,57,54,57,55,57,56,57,57]
def LC:∀ i,i<10->(Ep.drop i).take (i+1-i)=ep i:=by decide +kernel
def LB:∀ i,i<100 -> ¬ i<10->(Fc.drop (i*2)).take (i*2+2-i*2)=ep i:=by decide +kernel
def Bl (i:Nat)(hi:i<100)(nm:Nat):Ev cx 223 nm [.int .i64 i] ap.nil (.str (ep i)) []:=by
 by_cases h:i<10
 ·have d1:decide ((i:Int)<10)=true:=cn
  have d2:IntKind.i64.wrap ((i:Int)+1)=((i+1:Nat):Int):=bf
  have d3:(i:Int)<=((i+1:Nat):Int):=by omega
  have hz:=LC i h
  unfold Ep at hz
  refine bi call223 func223 rfl (by kernel_rfl) rfl ?_;intro b0 hb0
  (repeat' first|simp only[ak,aj,results223,ntmps223,al,d1,d2,hz,List.length_cons,List.length_nil,ai,seval,ah]|exact rfl|refine aa (v:=.any) ?_|((first|apply Ca|apply Cb)<;>intro hb)|refine Ai (by omega) ?_|(apply Ai<;>intro hb)|refine Fin.pure ?_ ?_ ?_|simp only[ao])
 ·have d1:decide ((i:Int)<10)=false:=bo
  have d2:IntKind.i64.wrap ((i:Int)*2)=((i*2:Nat):Int):=bf
  have d3:IntKind.i64.wrap (((i*2:Nat):Int)+2)=((i*2+2:Nat):Int):=bf
  have hz:=LB i hi h
  unfold Fc at hz
  refine bi call223 func223 rfl (by kernel_rfl) rfl ?_;intro b0 hb0
  (repeat' first|simp only[ak,aj,results223,ntmps223,al,d1,d2,d3,hz,List.append_eq,List.cons_append,List.nil_append,List.length_cons,List.length_nil,ai,seval,ah]|exact rfl|refine aa (v:=.any) ?_|((first|apply Ca|apply Cb)<;>intro hb)|refine Ai (by omega) ?_|(apply Ai<;>intro hb)|refine Fin.pure ?_ ?_ ?_|simp only[ao])
def Jx (i:Nat)(hi:i<100)(nm:Nat):Ev cx 202 nm [.int .i64 i,.int .i64 10] ap.nil (.str (ep i)) []:=by
 have d1:decide ((0:Int)<=(i:Int))=true:=cn
 have d2:decide ((i:Int)<100)=true:=cn
 refine bi call202 func202 rfl (by kernel_rfl) rfl ?_;intro b0 hb0
 (repeat' first|simp only[ak,aj,results202,ntmps202,al,d1,d2,ai,seval,ah]|exact rfl|refine aa (v:=.any) ?_|(first|(refine ad ?_ (Bl i hi _) ?_)|(refine ab ?_ (fun _=>Bl i hi _) ?_))|((first|apply Ca|apply Cb)<;>intro hb)|refine Ai (by omega) ?_|(apply Ai<;>intro hb)|refine Fin.pure ?_ ?_ ?_|simp only[ao])
def AE (i:Nat)(hi:i<100)(nm:Nat):Ev cx 171 nm [.int .i64 i] ap.nil (.str (ep i)) []:=by
 refine bi call171 func171 rfl (by kernel_rfl) rfl ?_;intro b0 hb0
 (repeat' first|simp only[ak,aj,results171,ntmps171,al,ai,seval,ah]|exact rfl|refine aa (v:=.any) ?_|(first|(refine ad ?_ (Jx i hi _) ?_)|(refine ab ?_ (fun _=>Jx i hi _) ?_))|((first|apply Ca|apply Cb)<;>intro hb)|refine Ai (by omega) ?_|(apply Ai<;>intro hb)|refine Fin.pure ?_ ?_ ?_|simp only[ao])
def EN (i:Nat)(hi:i<100)(nm:Nat):Ev cx 127 nm [.int .i64 i] ap.nil (.str (ep i)) []:=by
 refine bi call127 func127 rfl (by kernel_rfl) rfl ?_;intro b0 hb0
 (repeat' first|simp only[ak,aj,results127,ntmps127,al,ai,seval,ah]|exact rfl|refine aa (v:=.any) ?_|(first|(refine ad ?_ (AE i hi _) ?_)|(refine ab ?_ (fun _=>AE i hi _) ?_))|((first|apply Ca|apply Cb)<;>intro hb)|refine Ai (by omega) ?_|(apply Ai<;>intro hb)|refine Fin.pure ?_ ?_ ?_|simp only[ao])
def y6 (s:List UInt8):List V:=[.str s]
def cJ (l:List (List UInt8)):plainLL (l.map y6)=true:=cI _ (fun _=>rfl) l
def C0 (l:List (List UInt8))(s:List UInt8)(hn:l.length<=be)(nm:Nat):Ev cx 126 nm [.sl false 1 (l.map y6),.str s] ap.nil (.int .i64 (GL (l.findIdx? (· == s)))) []:=by
 unfold be at hn
 refine bi call126 func126 rfl (by kernel_rfl) rfl ?_;intro b0 hb0;have zF:=Ai results126 ntmps126
 repeat' first|simp only[ak,aj,zF,al,ai,seval,ah]|exact rfl|refine aa (v:=.any) ?_|((first|apply Ca|apply Cb)<;>intro hb)|refine Ai (by omega) ?_|(apply Ai<;>intro hb)
 (refine aR bR (fun x:Nat=>l.length-x) (fun x=>x<=l.length/\(l.take x).any (· == s)=false) (b0+16) (fun x=>[(0,.sl false 1 (l.map y6)),(1,.str s),(7,.int .i64 l.length),(8,.int .i64 x)]) (fun x=>[]) (0) [] ?_ ?_ ?_ ?_;rotate_left 1;(focus (show b0<=_;omega));(focus (refine⟨?_,?_⟩<;>(try simp only[aX,Lm,cJ,ai,seval,ah,ao])<;>(try omega)));rotate_left 1)
 ·exact⟨Nat.zero_le _,by simp⟩
 ·rintro k ⟨hk,hno⟩
  by_cases hlt:k<l.length
  ·obtain⟨h,hh⟩:∃ h,l[k]? = some h:=⟨_,List.getElem?_eq_getElem hlt⟩
   have hat:(l.map y6)[k]? = some (y6 h):=by rw[List.getElem?_map,hh];rfl
   have hd:decide (k<l.length)=true:=decide_eq_true hlt
   have hwk:IntKind.i64.wrap ((k:Int)+1)=((k+1:Nat):Int):=bf
   have hc:(s==h)=(h==s):=by rw[Bool.eq_iff_iff];simp;exact⟨Eq.symm,Eq.symm⟩
   cases hp:(h==s) with
   | true =>
    have hfd:=mS (p:=(· == s)) hno hh hp
    rw[hp]at hc
    (repeat' first|simp only[ak,aj,zF,al,hat,y6,hlt,hd,hwk,hfd,hc,cG,Lm,ai,seval,ah]|exact rfl|refine aa (v:=.any) ?_|((first|apply Ca|apply Cb)<;>intro hb)|refine Ai (by omega) ?_|(apply Ai<;>intro hb)|refine Fin.pure ?_ ?_ ?_|simp only[ao])
   | false =>
    have hn':=gG (p:=(· == s)) hno hh hp
    rw[hp]at hc
    repeat' first|simp only[ak,aj,zF,al,hat,y6,hlt,hd,hwk,hc,Lm,ai,seval,ah]|exact rfl|refine aa (v:=.any) ?_|((first|apply Ca|apply Cb)<;>intro hb)|refine Ai (by omega) ?_|(apply Ai<;>intro hb)
    all_goals ((refine aD bR (k+1) [] ?_ ?_ ?_ ?_;rotate_left 2;(focus (show b0<=_;omega));(focus (refine⟨?_,?_⟩<;>(try simp only[aX,cJ,hwk,ai,seval,ah,ao])<;>(try omega)))))
    all_goals (first|(show l.length-(k+1)<l.length-k;omega)|exact⟨hlt,hn'⟩|skip)
  ·have hke:k=l.length:=by omega
   subst hke
   rw[List.take_length]at hno
   have hfd:=jM hno
   have hd:decide (l.length<l.length)=false:=bo
   (repeat' first|simp only[ak,aj,zF,al,hd,hfd,eI,Lm,ai,seval,ah]|exact rfl|refine aa (v:=.any) ?_|((first|apply Ca|apply Cb)<;>intro hb)|refine Ai (by omega) ?_|(apply Ai<;>intro hb)|refine Fin.pure ?_ ?_ ?_|simp only[ao])
def NH (s:List UInt8)(d:UInt8):decide ((0:Int)<=indexByte s d)=s.contains d:=by
 cases h:eg d s with
 | none =>
  rw[iQ.2 h]
  cases hc:s.contains d with
  | false=>rfl
  | true=>exact absurd (List.contains_iff_mem.1 hc) (hH.1 h)
 | some p =>
  obtain⟨a,b⟩:=p
  have:=(ko h).1
  rw[this,cn,List.contains_iff_mem.2 (by rw[(eH h).1];simp)]
def Fb (s:List UInt8)(d:UInt8)(nm:Nat):Ev cx 195 nm [.str s,.str [d]] ap.nil (.int .i64 (indexByte s d)) []:=by
 refine bi call195 func195 rfl (by kernel_rfl) rfl ?_;intro b0 hb0
 (repeat' first|simp only[ak,aj,results195,ntmps195,al,ai,seval,ah]|exact rfl|refine aa (v:=.any) ?_|(first|(refine ad ?_ (jx s d _) ?_)|(refine ab ?_ (fun _=>jx s d _) ?_))|((first|apply Ca|apply Cb)<;>intro hb)|refine Ai (by omega) ?_|(apply Ai<;>intro hb)|refine Fin.pure ?_ ?_ ?_|simp only[ao])
def zG (s:List UInt8)(d:UInt8)(nm:Nat):Ev cx 156 nm [.str s,.str [d]] ap.nil (.bool (s.contains d)) []:=by
 rw[<- NH]
 refine bi call156 func156 rfl (by kernel_rfl) rfl ?_;intro b0 hb0
 (repeat' first|simp only[ak,aj,results156,ntmps156,al,ai,seval,ah]|exact rfl|refine aa (v:=.any) ?_|(first|(refine ad ?_ (Fb s d _) ?_)|(refine ab ?_ (fun _=>Fb s d _) ?_))|((first|apply Ca|apply Cb)<;>intro hb)|refine Ai (by omega) ?_|(apply Ai<;>intro hb)|refine Fin.pure ?_ ?_ ?_|simp only[ao])
def rX (K:kF):List (V×V):=K.map fun p=>(.str p.1,.agg [.str p.2])
def Sd:vO cx.P 153=some (9,156):=by kernel_rfl
def SS:Qo cx.P 153=true:=by kernel_rfl
def SU:DR cx.P 153=true:=by kernel_rfl
def xX (p:List UInt8):∀(K:kF),dL (.str p) (rX K)=some ((eO p K).map fun v=>.agg [.str v])
 | []=>rfl
 | q::r=>by
  have ih:=xX p r
  simp only[rX,Lc]at ih ⊢
  simp only[dL,kB,eO]
  cases h:(p==q.1) with
  | true=>simp
  | false=>simpa using ih
def K7 (p v:List UInt8):∀(K:kF),o0 (.str p) (.agg [.str v]) (rX K)=rX (sv p v K)
 | []=>rfl
 | q::r=>by
  have ih:=K7 p v r
  simp only[rX,Lc]at ih ⊢
  simp only[o0,kB,sv]
  cases h:(p==q.1) with
  | true=>simp
  | false=>simpa using ih
def GU (y:Nat)(K:kF)(M:ap)(nm:Nat)(hM:M y=some (eW (rX K)))(ho:∀ z,(M z).isSome=true->z∈[y])(hlt:y<nm):Ev cx 107 nm [.mp y] M (.mp nm) [(y,some (eW (rX K))),(nm,some (eW (rX K)))]:=by
 have hc:=fun (M':ap) (m:Nat) (h1:M' y=some (eW (rX K))) h2 h3=>Ev.clone (cx:=cx) func153 (by kernel_rfl) (by kernel_rfl) (by kernel_rfl) (by kernel_rfl) 153 y (rX K) M' m h1 h2 h3
 refine bi call107 func107 rfl (by kernel_rfl) rfl ?_;intro b0 hb0
 have k1:=aC hb0 hM
 have z0:=aE k1
 have g1:(nm=y)=False:=eq_false (by omega)
 repeat' first|simp only[ak,aj,results107,ntmps107,al,SS,hM,z0,au,ai,seval,ah]|exact rfl|refine aa (v:=.any) ?_|(refine ac ?_ [y] (hc _ _ ?_ ag (by omega)) ?_ ?_)|(refine kQ rfl (by kernel_rfl) ?_)|(refine jJ (u:=?_) ?_ SU ?_)|((first|apply Ca|apply Cb)<;>intro hb)|refine Ai (by omega) ?_|(apply Ai<;>intro hb)
 all_goals ((refine Fin.give [(y,none),(b0+80,some 0)] [] ?_ ?_ ?_ ?_ ?_ (aO ho (by simp[aS,tgt]))<;>(try simp only[results107,ntmps107,al,hM,z0,g1,cM,bt,dM,ai,seval,ah])<;>(try simp only[ao])<;>(try omega)))
def po (l:List At)(a:At):l.map bN++[[.str a.space,.str a.name,.str a.value]]=(l++[a]).map bN:=by simp[bN]
def OL (l:List (List UInt8))(a:List UInt8):l.map y6++[[.str a]]=(l++[a]).map y6:=by simp[y6]
def kM (l:List At):(l.map bN).take l.length=l.map bN:=ct _ _
def LP (l:List (List UInt8)):(l.map y6).take l.length=l.map y6:=ct _ _
def vP {f:At->At}{l:List At}{k:Nat}{a:At}(h:l[k]? = some a):(l.take (k+1)).map f=(l.take k).map f++[f a]:=by
 obtain⟨hk,rfl⟩:=List.getElem?_eq_some_iff.1 h
 rw[List.take_succ_eq_append_getElem hk,List.map_append];rfl
def w7:bF []=[]:=rfl
def dx (n:Nd)(sp:List UInt8)(k:Nat):List At:=Ax n sp++fO (bF (n.attrs.take k))
def fb (n:Nd)(k:Nat):List At:=(n.attrs.take k).map (jZ (bF n.attrs))
def xg (n:Nd)(sp:List UInt8)(k:Nat):(dx n sp k).length<=1+n.attrs.length:=by
 have h1:=rC (n.attrs.take k)
 have h2:(Ax n sp).length<=1:=by unfold Ax;split<;>simp
 unfold dx
 rw[List.length_append,IW]
 simp only[List.length_take]at h1
 omega
def rH (n:Nd){k:Nat}(hk:k<=n.attrs.length):(fb n k).length=k:=by unfold fb;rw[Lm,List.length_take];omega
def OJ (n:Nd)(sp:List UInt8)(hn:n.attrs.length<=16)(hl:∀ a∈n.attrs,a.name.length<=1000000)(nm:Nat):Ev cx 77 nm [.agg (aZ n),.str sp] ap.nil (.agg (aZ (b7 n sp))) []:=by
  refine Ev.freeze (v:=.agg [.int .u8 n.kind,.str [],.str n.name,.own nm 0 (b7 n sp).attrs.length,.str [],.int .i64 n.many]) (eff:=[(nm,some ⟨3,(b7 n sp).attrs.map bN⟩)]) ?_ ?_ ?_
  rotate_left 1
  · have hpl:=aq (b7 n sp).attrs
    have htk:=kM (b7 n sp).attrs
    simp only[ak,aj,al,hpl,htk,Lm,ai,seval,ah]<;>omega
  · have hpl:=aq (b7 n sp).attrs
    have htk:=kM (b7 n sp).attrs
    simp only[ak,aj,al,aZ,hpl,htk,Lm,ai,seval,ah]
    rfl
  have hall:(b7 n sp).attrs=dx n sp n.attrs.length++fb n n.attrs.length:=by unfold b7 dx fb;rw[List.take_length]
  rw[hall]
  have hS0:bF (n.attrs.take 0)=[]:=by simp[bF]
  have hR0:fb n 0=[]:=by simp[fb]
  rcases Bool.eq_false_or_eq_true (n.space==sp) with he|he
  focus
    have hA0:dx n sp 0=[]:=by unfold dx Ax;simp[he,bF,fO]
    refine bi call77 func77 rfl (by kernel_rfl) rfl ?_;intro b0 hb0;have zF:=Ai results77 ntmps77
    repeat' first|simp only[ak,aj,zF,al,aZ,he,Bt,Bf,aq,Lm,ai,seval,ah]|exact rfl|refine aa (v:=.any) ?_|refine bc (ps:=[(1,4),(4,7),(1,9)]) (by decide +kernel) (by simp only[List.forall_mem_cons,List.getD_cons_zero,List.getD_cons_succ,zF,al,aZ,he,Bt,Bf,aq,Lm,ai,seval,ah]<;>(try simp)<;>(try omega)) ?_|refine aA (by decide +kernel) ?_|((first|apply Ca|apply Cb)<;>intro hb)|refine Ai (by omega) ?_|(apply Ai<;>intro hb)
    (refine aR bR (fun x:Nat=>n.attrs.length-x) (fun x=>x<=n.attrs.length) (b0+16) (fun x=>[(4,.ptr b0 0 0),(5,.ptr (b0+1) 0 0),(6,.own (b0+3) 0 (bF (n.attrs.take x)).length),(7,.own (b0+4) 0 (fb n x).length),(33,.sl false 3 (n.attrs.map bN)),(34,.int .i64 n.attrs.length),(35,.int .i64 x)]) (fun x=>[(b0,⟨6,[[.int .u8 0,.str [],.str [],.nils,.str [],.int .i64 0]]⟩),(b0+1,⟨6,[[.int .u8 n.kind,.str [],.str n.name,.own (b0+2) 0 (dx n sp x).length,.str [],.int .i64 n.many]]⟩),(b0+2,⟨3,(dx n sp x).map bN⟩),(b0+3,⟨1,(bF (n.attrs.take x)).map y6⟩),(b0+4,⟨3,(fb n x).map bN⟩)]) (0) [some (b0+16),some (b0+144),none,none,none] ?_ ?_ ?_ ?_;rotate_left 1;(focus (show b0<=_;omega));(focus (refine⟨?_,?_⟩<;>(try simp only[aX,hA0,hS0,hR0,w7,List.take_zero,aL,bN,aq,cJ,Lc,Lo,List.length_cons,List.length_nil,Lm,ai,seval,ah,ao])<;>(try omega)));rotate_left 1)
  rotate_left 2
  focus
    have hA0:dx n sp 0=[⟨[],[120,109,108,110,115],n.space⟩]:=by unfold dx Ax;simp[he,bF,fO]
    refine bi call77 func77 rfl (by kernel_rfl) rfl ?_;intro b0 hb0;have zF:=Ai results77 ntmps77
    repeat' first|simp only[ak,aj,zF,al,aZ,he,Bt,Bf,aq,Lm,ai,seval,ah]|exact rfl|refine aa (v:=.any) ?_|refine bc (ps:=[(1,4),(4,7),(1,9)]) (by decide +kernel) (by simp only[List.forall_mem_cons,List.getD_cons_zero,List.getD_cons_succ,zF,al,aZ,he,Bt,Bf,aq,Lm,ai,seval,ah]<;>(try simp)<;>(try omega)) ?_|refine aA (by decide +kernel) ?_|((first|apply Ca|apply Cb)<;>intro hb)|refine Ai (by omega) ?_|(apply Ai<;>intro hb)
    (refine aR bR (fun x:Nat=>n.attrs.length-x) (fun x=>x<=n.attrs.length) (b0+16) (fun x=>[(4,.ptr b0 0 0),(5,.ptr (b0+1) 0 0),(6,.own (b0+3) 0 (bF (n.attrs.take x)).length),(7,.own (b0+4) 0 (fb n x).length),(33,.sl false 3 (n.attrs.map bN)),(34,.int .i64 n.attrs.length),(35,.int .i64 x)]) (fun x=>[(b0,⟨6,[[.int .u8 0,.str [],.str [],.nils,.str [],.int .i64 0]]⟩),(b0+1,⟨6,[[.int .u8 n.kind,.str [],.str n.name,.own (b0+2) 0 (dx n sp x).length,.str [],.int .i64 n.many]]⟩),(b0+2,⟨3,(dx n sp x).map bN⟩),(b0+3,⟨1,(bF (n.attrs.take x)).map y6⟩),(b0+4,⟨3,(fb n x).map bN⟩)]) (0) [some (b0+16),some (b0+144),some (b0+336),none,none] ?_ ?_ ?_ ?_;rotate_left 1;(focus (show b0<=_;omega));(focus (refine⟨?_,?_⟩<;>(try simp only[aX,hA0,hS0,hR0,w7,List.take_zero,aL,bN,aq,cJ,Lc,Lo,List.length_cons,List.length_nil,Lm,ai,seval,ah,ao])<;>(try omega)));rotate_left 1)
  all_goals (first|exact Nat.zero_le _|skip)
  all_goals
    intro k hk
    by_cases hlt:k<n.attrs.length
    · obtain ⟨a,ha⟩:∃ a,n.attrs[k]? = some a:=⟨_,List.getElem?_eq_getElem hlt⟩
      have hat:=rO ha
      have d1:decide ((k:Int)<(n.attrs.length:Int))=true:=cn
      have d2:decide (k<n.attrs.length)=true:=decide_eq_true hlt
      have hwk:IntKind.i64.wrap ((k:Int)+1)=((k+1:Nat):Int):=bf
      have hAl:=xg n sp k
      have hRl:=rH n hk
      have hRl1:=rH n (k:=k+1) hlt
      have hSl:=rC (n.attrs.take k)
      rw[List.length_take]at hSl
      have hS1:=DO ha
      have hR1:fb n (k+1)=fb n k++[jZ (bF n.attrs) a]:=vP ha
      have hA1:dx n sp (k+1)=Ax n sp++fO (bF (n.attrs.take (k+1))):=rfl
      have htk:((fb n k).map bN).take k=(fb n k).map bN:=List.take_of_length_le (by rw[Lm];omega)
      have hna:=hl a (List.mem_of_getElem? ha)
      have hpre:=rD n.attrs (k+1)
      cases h0:(a.space==[]) with
      | true =>
        have hrel:jZ (bF n.attrs) a=⟨[],a.name,a.value⟩:=by unfold jZ;rw[h0];rfl
        have hS2:bF (n.attrs.take (k+1))=bF (n.attrs.take k):=by rw[hS1];unfold gZ;rw[if_pos h0]
        have hA2:dx n sp (k+1)=dx n sp k:=by unfold dx;rw[hS2]
        have hsn:(fb n k).map bN++[[.str [],.str a.name,.str a.value]]=(fb n (k+1)).map bN:=by rw[hR1,hrel];exact po (fb n k) ⟨[],a.name,a.value⟩
        repeat' first|simp only[ak,aj,zF,al,hat,bN,hlt,d1,d2,h0,hwk,hRl,htk,hsn,Bt,Bf,aq,cJ,Lm,ai,seval,ah]|exact rfl|refine aa (v:=.any) ?_|refine bc (ps:=[(1,4),(4,7),(1,9)]) (by decide +kernel) (by simp only[List.forall_mem_cons,List.getD_cons_zero,List.getD_cons_succ,zF,al,hat,bN,hlt,d1,d2,h0,hwk,hRl,htk,hsn,Bt,Bf,aq,cJ,Lm,ai,seval,ah]<;>(try simp)<;>(try omega)) ?_|refine aA (by decide +kernel) ?_|((first|apply Ca|apply Cb)<;>intro hb)|refine Ai (by omega) ?_|(apply Ai<;>intro hb)
        all_goals ((refine aD bR (k+1) [some b0,some (b0+1),some (b0+2),some (b0+3),some (b0+304)] ?_ ?_ ?_ ?_;rotate_left 2;(focus (show b0<=_;omega));(focus (refine⟨?_,?_⟩<;>(try simp only[aX,hS2,hA2,hRl1,hwk,aq,cJ,Lm,ai,seval,ah,ao])<;>(try omega)))))
        all_goals (first|(show n.attrs.length-(k+1)<n.attrs.length-k;omega)|exact hlt|skip)
      | false =>
        have hxl:(a.space==l7)=(a.space==[104,116,116,112,58,47,47,119,119,119,46,119,51,46,111,114,103,47,88,77,76,47,49,57,57,56,47,110,97,109,101,115,112,97,99,101]):=rfl
        have h0':¬(a.space==[])=true:=by rw[h0];decide
        have hrel:jZ (bF n.attrs) a=⟨[],nW (bF n.attrs) a.space++58::a.name,a.value⟩:=by unfold jZ;rw[if_neg h0']
        have hsn0:∀ p:List UInt8,nW (bF n.attrs) a.space=p->(fb n k).map bN++[[.str [],.str (p++[58]++a.name),.str a.value]]=(fb n (k+1)).map bN:=fun p hp=>by
          rw[hR1,hrel,hp,show p++[58]++a.name=p++58::a.name by simp];exact po (fb n k) ⟨[],p++58::a.name,a.value⟩
        cases hx:(a.space==l7) with
        | true =>
          have hS2:bF (n.attrs.take (k+1))=bF (n.attrs.take k):=by rw[hS1];unfold gZ;rw[if_neg h0',if_pos hx]
          have hA2:dx n sp (k+1)=dx n sp k:=by unfold dx;rw[hS2]
          have hsn:=hsn0 [120,109,108] (by unfold nW;rw[if_pos hx])
          simp only[List.cons_append,List.nil_append]at hsn
          rw[hx]at hxl
          repeat' first|simp only[ak,aj,zF,al,hat,bN,hlt,d1,d2,h0,hxl.symm,hwk,hRl,htk,hsn,Bt,Bf,aq,cJ,List.length_append,List.length_cons,List.length_nil,Lm,ai,seval,ah]|exact rfl|refine aa (v:=.any) ?_|refine bc (ps:=[(1,4),(4,7),(1,9)]) (by decide +kernel) (by simp only[List.forall_mem_cons,List.getD_cons_zero,List.getD_cons_succ,zF,al,hat,bN,hlt,d1,d2,h0,hxl.symm,hwk,hRl,htk,hsn,Bt,Bf,aq,cJ,List.length_append,List.length_cons,List.length_nil,Lm,ai,seval,ah]<;>(try simp)<;>(try omega)) ?_|refine aA (by decide +kernel) ?_|((first|apply Ca|apply Cb)<;>intro hb)|refine Ai (by omega) ?_|(apply Ai<;>intro hb)
          all_goals ((refine aD bR (k+1) [some b0,some (b0+1),some (b0+2),some (b0+3),some (b0+480)] ?_ ?_ ?_ ?_;rotate_left 2;(focus (show b0<=_;omega));(focus (refine⟨?_,?_⟩<;>(try simp only[aX,hS2,hA2,hRl1,hwk,aq,cJ,Lm,ai,seval,ah,ao])<;>(try omega)))))
          all_goals (first|(show n.attrs.length-(k+1)<n.attrs.length-k;omega)|exact hlt|skip)
        | false =>
          rw[hx]at hxl
          have hx':¬(a.space==l7)=true:=by rw[hx];decide
          have hix:=fun nm=>C0 (bF (n.attrs.take k)) a.space (by unfold be;omega) nm
          have hSF:=rD n.attrs k
          cases hf:(bF (n.attrs.take k)).findIdx? (· == a.space) with
          | some j =>
            have hj:j<(bF (n.attrs.take k)).length:=(List.findIdx?_eq_some_iff_getElem.1 hf).1
            have hS2:bF (n.attrs.take (k+1))=bF (n.attrs.take k):=by rw[hS1];unfold gZ;rw[if_neg h0',if_neg hx',if_pos (F1 hf)]
            have hA2:dx n sp (k+1)=dx n sp k:=by unfold dx;rw[hS2]
            have hsn:=hsn0 (110::ep (j+1)) (by unfold nW;rw[if_neg hx',O8 hSF hf])
            simp only[List.cons_append,List.append_assoc,List.nil_append]at hsn
            have hil:=ul (j+1) (by omega)
            have hit:=fun nm=>EN (j+1) (by omega) nm
            have e1:decide ((j:Int)<0)=false:=bo
            have e2:IntKind.i64.wrap ((j:Int)+1)=((j+1:Nat):Int):=bf
            rw[hf,cG]at hix
            repeat' first|simp only[ak,aj,zF,al,hat,bN,hlt,d1,d2,h0,hxl.symm,hwk,hRl,htk,hsn,e1,e2,LP,Bt,Bf,aq,cJ,List.append_assoc,List.length_append,List.length_cons,List.length_nil,Lm,ai,seval,ah]|exact rfl|refine aa (v:=.any) ?_|(first|(refine ad ?_ (hit _) ?_)|(refine ab ?_ (fun _=>hit _) ?_))|((refine bm (xs:=?_) [b0+3] ?_ ?_ ?_ rfl (hix _) ?_);rotate_left 1)|omega|refine bc (ps:=[(1,4),(4,7),(1,9)]) (by decide +kernel) (by simp only[List.forall_mem_cons,List.getD_cons_zero,List.getD_cons_succ,zF,al,hat,bN,hlt,d1,d2,h0,hxl.symm,hwk,hRl,htk,hsn,e1,e2,LP,Bt,Bf,aq,cJ,List.append_assoc,List.length_append,List.length_cons,List.length_nil,Lm,ai,seval,ah]<;>(try simp)<;>(try omega)) ?_|refine aA (by decide +kernel) ?_|((first|apply Ca|apply Cb)<;>intro hb)|refine Ai (by omega) ?_|(apply Ai<;>intro hb)
            all_goals ((refine aD bR (k+1) [some b0,some (b0+1),some (b0+2),some (b0+3),some (b0+672)] ?_ ?_ ?_ ?_;rotate_left 2;(focus (show b0<=_;omega));(focus (refine⟨?_,?_⟩<;>(try simp only[aX,hS2,hA2,hRl1,hwk,aq,cJ,Lm,ai,seval,ah,ao])<;>(try omega)))))
            all_goals (first|(show n.attrs.length-(k+1)<n.attrs.length-k;omega)|exact hlt|skip)
          | none =>
            have hS2:bF (n.attrs.take (k+1))=bF (n.attrs.take k)++[a.space]:=by rw[hS1];unfold gZ;rw[if_neg h0',if_neg hx',if_neg (by rw[wc hf];decide)]
            have hpre:=rD n.attrs (k+1)
            have hsn:=hsn0 (110::ep ((bF (n.attrs.take k)).length+1)) (by
              rw[hS2]at hpre
              unfold nW;rw[if_neg hx',O8 hpre (Gf hf)])
            have hA2:dx n sp (k+1)=dx n sp k++[qC (bF (n.attrs.take k)).length a.space]:=by unfold dx;rw[hS2,F3,List.append_assoc]
            have hAs:(dx n sp k).map bN++[[.str [],.str ([120,109,108,110,115,58,110]++ep ((bF (n.attrs.take k)).length+1)),.str a.space]]=(dx n sp (k+1)).map bN:=by rw[hA2];exact po (dx n sp k) (qC _ _)
            have hA3:(dx n sp k).length+1=(dx n sp (k+1)).length:=by rw[hA2,List.length_append];rfl
            have hSs:(bF (n.attrs.take k)).map y6++[[.str a.space]]=(bF (n.attrs.take (k+1))).map y6:=by rw[hS2];exact OL _ _
            have hS3:(bF (n.attrs.take k)).length+1=(bF (n.attrs.take (k+1))).length:=by rw[hS2,List.length_append];rfl
            simp only[List.cons_append,List.append_assoc,List.nil_append]at hsn hAs
            generalize hJ:(bF (n.attrs.take k)).length=j at hsn hAs hS3 hSl hA2
            have hil:=ul (j+1) (by omega)
            have hit:=fun nm=>EN (j+1) (by omega) nm
            have e1:decide ((-1:Int)<0)=true:=rfl
            have e2:IntKind.i64.wrap ((j:Int)+1)=((j+1:Nat):Int):=bf
            have htj:((bF (n.attrs.take k)).map y6).take j=(bF (n.attrs.take k)).map y6:=List.take_of_length_le (by rw[Lm];omega)
            rw[hf,eI]at hix
            repeat' first|simp only[ak,aj,zF,al,hat,bN,hlt,d1,d2,h0,hxl.symm,hwk,hRl,htk,hsn,hAs,hSs,hJ,e1,e2,htj,kM,Bt,Bf,aq,cJ,List.append_assoc,List.length_append,List.length_cons,List.length_nil,Lm,ai,seval,ah]|exact rfl|refine aa (v:=.any) ?_|(first|(refine ad ?_ (hit _) ?_)|(refine ab ?_ (fun _=>hit _) ?_))|((refine bm (xs:=?_) [b0+3] ?_ ?_ ?_ rfl (hix _) ?_);rotate_left 1)|omega|refine bc (ps:=[(1,4),(4,7),(1,9)]) (by decide +kernel) (by simp only[List.forall_mem_cons,List.getD_cons_zero,List.getD_cons_succ,zF,al,hat,bN,hlt,d1,d2,h0,hxl.symm,hwk,hRl,htk,hsn,hAs,hSs,hJ,e1,e2,htj,kM,Bt,Bf,aq,cJ,List.append_assoc,List.length_append,List.length_cons,List.length_nil,Lm,ai,seval,ah]<;>(try simp)<;>(try omega)) ?_|refine aA (by decide +kernel) ?_|((first|apply Ca|apply Cb)<;>intro hb)|refine Ai (by omega) ?_|(apply Ai<;>intro hb)
            all_goals ((refine aD bR (k+1) [some b0,some (b0+1),some (b0+736),some (b0+544),some (b0+1024)] ?_ ?_ ?_ ?_;rotate_left 2;(focus (show b0<=_;omega));(focus (refine⟨?_,?_⟩<;>(try simp only[aX,hS3,hA3,hRl1,hwk,aq,cJ,Lm,ai,seval,ah,ao])<;>(try omega)))))
            all_goals (first|(show n.attrs.length-(k+1)<n.attrs.length-k;omega)|exact hlt|skip)
    · have hke:k=n.attrs.length:=by omega
      subst hke
      have d1:decide ((n.attrs.length:Int)<(n.attrs.length:Int))=false:=bo
      have d2:decide (n.attrs.length<n.attrs.length)=false:=bo
      have hAl:=xg n sp n.attrs.length
      have hRl:=rH n (Nat.le_refl n.attrs.length)
      have htk:((fb n n.attrs.length).map bN).take n.attrs.length=(fb n n.attrs.length).map bN:=List.take_of_length_le (by rw[Lm];omega)
      have hsn:(dx n sp n.attrs.length).map bN++(fb n n.attrs.length).map bN=(dx n sp n.attrs.length++fb n n.attrs.length).map bN:=by rw[List.map_append]
      have hlen:(dx n sp n.attrs.length++fb n n.attrs.length).length=(dx n sp n.attrs.length).length+n.attrs.length:=by rw[List.length_append,hRl]
      ((repeat' first|simp only[ak,aj,zF,al,d1,d2,hRl,htk,hsn,hlen,sN,kM,aq,cJ,Lm,ai,seval,ah]|exact rfl|refine aa (v:=.any) ?_|refine bc (ps:=[(1,4),(4,7),(1,9)]) (by decide +kernel) (by simp only[List.forall_mem_cons,List.getD_cons_zero,List.getD_cons_succ,zF,al,d1,d2,hRl,htk,hsn,hlen,sN,kM,aq,cJ,Lm,ai,seval,ah]<;>(try simp)<;>(try omega)) ?_|refine aA (by decide +kernel) ?_|((first|apply Ca|apply Cb)<;>intro hb)|refine Ai (by omega) ?_|(apply Ai<;>intro hb));(all_goals (first|(refine Fin.auto (r:=?_) (l:=?_) ?_ ?_ ?_ ?_ ?_ ?_ ?_;rotate_left 1;(simp only[zF,nB,pD,ig,jS,d1,d2,hRl,htk,hsn,hlen,sN,kM,aq,cJ,Lm,ai,seval,ah]);(exact rfl);rotate_left 1;(simp only[V.owns,ownsL,List.cons_append,List.nil_append]);(exact rfl);all_goals (try simp only[zF,nB,pD,ig,jS,d1,d2,hRl,htk,hsn,hlen,sN,kM,aq,cJ,Lm,Sp,ai,seval,ah]);all_goals (try simp only[ao]))|skip)))
end Go.Proofs.YtlnlopnpcmahgaaGreatDoor
