/-
 Texts joined: XJf,XJg,XJh,XJi.
-/
import Derived.Test.YtjonibipieofcaaGreatDoorMm
set_option maxHeartbeats 16000000
set_option maxRecDepth 100000
set_option linter.all false
namespace Go.Proofs.YtjonibipieofcaaGreatDoor
open Go Go.RowKit Vm Go.Lib Tryz
open Vm renaming aI->Ca,aP->Cb
open And renaming intro->Ai
open List renaming length_map->Lm,not_mem_nil->Ln,map_nil->Lo,map_cons->Lc,mem_cons->Lk
open Bool renaming not_false->Bf,not_true->Bt
def ru {P:Nd->Fo->Prop} : ∀ {D:Fo} {m:Nd} {c r:Fo},vA P (D.app (.cons m c r))->P m c
 | .nil,_,_,_,h=>h.1
 | .cons _ _ D,_,_,_,h=>ru (D:=D) h.2
def vb {v:List Nd}{p:Nat}{D k:Fo}{m:Nd}{c r:Fo}{rest:List Nd}(hd1:v.drop (p+1)=k.flat++rest)(h:D.app (.cons m c r)=k):v.drop (p+1+D.size)=m::(c.flat++(r.flat++rest)):=by
 have:(v.drop (p+1)).drop D.size=m::(c.flat++(r.flat++rest)):=by
  rw[hd1,<- h,Fo.app_flat,List.append_assoc,<- Fo.flat_length,List.drop_left]
  simp[Fo.flat]
 rwa[List.drop_drop]at this
def yR {D k:Fo}{m:Nd}{c r:Fo}(h:D.app (.cons m c r)=k)(p:Nat):(k.tops (p+1))[D.count]? = some (p+1+D.size):=by
 rw[<- h,Fo.tops_app]
 simp only[Fo.tops]
 exact Lz (by rw[Fo.tops_length])
def Ci (l:List Tk):((l.map bQ).all fun r=>r.all V.one)=true:=by
 rw[List.all_eq_true]
 intro r hr
 obtain⟨t,_,rfl⟩:=List.mem_map.1 hr
 rfl
def xc (v:List Nd)(n:Nd)(k:Fo):Prop:=∀(p:Nat) (rest:List Nd),v.drop p=n::(k.flat++rest) -> ∀ nm,Ev cx 103 nm [.sl false 6 (v.map aD),.int .i64 p] ao.nil (.sl false 4 ((Fo.cons n k .nil).toks.map bQ)) []
def Ev.rows_fz {f:FuncId}{nm:Nat}{args:List V}{z:Nat}{R T:List (List V)}(h:Ev cx f nm args ao.nil (.own nm 0 T.length) [(nm,some ⟨z,R⟩)])(hle:il R T)(hpl:plainLL T=true):Ev cx f nm args ao.nil (.sl false z T) []:=by
 have h2:=Ev.last_le (eff:=[]) (k':=⟨z,T⟩) h ⟨rfl,.inl rfl,hle⟩
 have htk:T.take T.length=T:=List.take_length
 refine Ev.freeze h2 ?_ ?_
 ·simp only[au,ap,am,hpl,htk,List.nil_append,aj,ai,seval]<;>omega
 ·simp only[au,ap,am,hpl,htk,List.nil_append,aj,ai,seval]
def EZ (v:List Nd)(n:Nd)(hk:n.kind=2):xc v n .nil:=by
 intro p rest hd nm
 obtain⟨hx,hpl,hd1⟩:=fS hd
 have hat:=dS hx
 have hpi:=jB p v.length
 have k1:((n.kind:Int)==2)=true:=by rw[hk];rfl
 have ht:(Fo.cons n .nil .nil).toks=[⟨4,[],[],n.text⟩]:=by simp[Fo.toks,hk]
 rw[ht]
 refine Ev.rows_fz (R:=[[.int .u8 4,.str [],.nils,.str n.text]]) ?_ ?_ (aM _)
 ·show Ev cx _ nm _ ao.nil (.own nm 0 1) _
  refine aX call103 func103 ?_;intro b0 hb0;have zF:=Ai results103 ntmps103
  ((repeat' first|simp only[au,ap,zF,am,hat,aD,hpl,hpi,k1,plainL,V.plain,Bool.and_self,Lm,aj,ai,seval]|exact rfl|refine aa (v:=.any) ?_|refine ag (ps:=[(1,4)]) (by decide +kernel) (by simp only[List.forall_mem_cons,List.getD_cons_zero,List.getD_cons_succ,zF,am,hat,aD,hpl,hpi,k1,plainL,V.plain,Bool.and_self,Lm,aj,ai,seval]<;>(try simp)<;>(try omega)) ?_|refine av (by decide +kernel) ?_|((first|apply Ca|apply Cb)<;>intro hb)|refine Ai (by omega) ?_|(apply Ai<;>intro hb));(all_goals (first|(refine Fin.auto (r:=?_) (l:=?_) ?_ ?_ ?_ ?_ ?_ ?_ ?_;rotate_left 1;(simp only[zF,bz,bT,aH,aO,hat,aD,hpl,hpi,k1,plainL,V.plain,Bool.and_self,Lm,aj,ai,seval]);(exact rfl);rotate_left 1;(simp only[V.owns,ownsL,List.cons_append,List.nil_append]);(exact rfl);all_goals (try simp only[zF,bz,bT,aH,aO,hat,aD,hpl,hpi,k1,plainL,V.plain,Bool.and_self,Lm,qR,aj,ai,seval]);all_goals (try simp only[aq]))|skip)))
 ·rw[show [(⟨4,[],[],n.text⟩:Tk)].map bQ=[[.int .u8 4,.str [],.sl false 2 [],.str n.text]] from rfl]
  simp only[fL,dO,eU,jx,pH,ct,il,and_self]
def EY (v:List Nd)(n:Nd)(hk:n.kind≠2)(hm:n.many=0)(ha:n.attrs.length<=1000):xc v n .nil:=by
 intro p rest hd nm
 obtain⟨hx,hpl,hd1⟩:=fS hd
 have hat:=dS hx
 have hpi:=jB p v.length
 have k1:((n.kind:Int)==2)=false:=beq_false_of_ne (by omega)
 have k2:(n.many==0)=true:=by rw[hm];rfl
 have hpr:=vi n.attrs ha
 have ht:(Fo.cons n .nil .nil).toks=[⟨3,n.name,aW n.attrs,[]⟩]:=by simp[Fo.toks,hk,hm]
 rw[ht]
 refine Ev.rows_fz (R:=[[.int .u8 3,.str n.name,.sl false 2 ((aW n.attrs).map fm),.str []]]) ?_ (gz _) (aM _)
 show Ev cx _ nm _ ao.nil (.own nm 0 1) _
 refine aX call103 func103 ?_;intro b0 hb0;have zF:=Ai results103 ntmps103
 ((repeat' first|simp only[au,ap,zF,am,hat,aD,hpl,hpi,k1,k2,ab,aC,plainL,V.plain,Bool.and_self,Lm,aj,ai,seval]|exact rfl|refine aa (v:=.any) ?_|(first|(refine ah ?_ (hpr _) ?_)|(refine ac ?_ (fun _=>hpr _) ?_))|refine ag (ps:=[(1,4)]) (by decide +kernel) (by simp only[List.forall_mem_cons,List.getD_cons_zero,List.getD_cons_succ,zF,am,hat,aD,hpl,hpi,k1,k2,ab,aC,plainL,V.plain,Bool.and_self,Lm,aj,ai,seval]<;>(try simp)<;>(try omega)) ?_|refine av (by decide +kernel) ?_|((first|apply Ca|apply Cb)<;>intro hb)|refine Ai (by omega) ?_|(apply Ai<;>intro hb));(all_goals (first|(refine Fin.auto (r:=?_) (l:=?_) ?_ ?_ ?_ ?_ ?_ ?_ ?_;rotate_left 1;(simp only[zF,bz,bT,aH,aO,hat,aD,hpl,hpi,k1,k2,ab,aC,plainL,V.plain,Bool.and_self,Lm,aj,ai,seval]);(exact rfl);rotate_left 1;(simp only[V.owns,ownsL,List.cons_append,List.nil_append]);(exact rfl);all_goals (try simp only[zF,bz,bT,aH,aO,hat,aD,hpl,hpi,k1,k2,ab,aC,plainL,V.plain,Bool.and_self,Lm,qR,aj,ai,seval]);all_goals (try simp only[aq]))|skip)))
def EX (v:List Nd)(hv:v.length<=1000)(hok:∀ n∈v,n.okTo aT)(n:Nd)(k:Fo)(hk:n.kind≠2)(hm0:n.many≠0)(ha:n.attrs.length<=1000)(d:Nat)(hd12:d<=12)(hg:(Fo.cons n k .nil).good d 0=true)(ih:vA (xc v) k):xc v n k:=by
  intro p rest hd nm
  obtain⟨hx,hpl,hd1⟩:=fS hd
  have hat:=dS hx
  have hpi:=jB p v.length
  obtain⟨g1,g2,g3,g4,g5,g6⟩:=Fo.good_cons.1 hg
  have hkl:=ot hd1
  have hkc:=fe k
  have k1:((n.kind:Int)==2)=false:=beq_false_of_ne (by omega)
  have k2:(n.many==0)=false:=beq_false_of_ne hm0
  have hpr:=vi n.attrs ha
  have hun:=vj v hv hok hd hg hd12
  have hTl:=Fo.tops_length k (p+1)
  generalize hTd:k.tops (p+1)=T at hun hTl
  have ht:(Fo.cons n k .nil).toks=(⟨1,n.name,aW n.attrs,[]⟩::k.toks)++[⟨2,n.name,[],[]⟩]:=by simp[Fo.toks,hk,hm0]
  have htl:k.toks.length<=3000:=by
    rw[Fo.toks_length g5]
    have:=List.length_filter_le (fun n:Nd=>decide (0<n.many)) k.flat
    rw[Fo.flat_length]at this
    omega
  have h1b:bQ ⟨1,n.name,aW n.attrs,[]⟩=[.int .u8 1,.str n.name,.sl false 2 ((aW n.attrs).map fm),.str []]:=rfl
  rw[ht]
  refine Ev.rows_fz (R:=(⟨1,n.name,aW n.attrs,[]⟩::k.toks).map bQ++[[.int .u8 2,.str n.name,.nils,.str []]]) ?_ ?_ (aM _)
  · rw [show(((⟨1,n.name,aW n.attrs,[]⟩::k.toks)++[(⟨2,n.name,[],[]⟩:Tk)]).map bQ).length=(⟨1,n.name,aW n.attrs,[]⟩::k.toks).length+1 by simp]
    obtain⟨Z,hZ⟩:∃ Z,Z=(⟨1,n.name,aW n.attrs,[]⟩::k.toks).map bQ++[[.int .u8 2,.str n.name,.nils,.str []]]:=⟨_,rfl⟩
    obtain⟨N,hN⟩:∃ N,N=((⟨1,n.name,aW n.attrs,[]⟩:Tk)::k.toks).length+1:=⟨_,rfl⟩
    rw[<- hZ,<- hN]
    refine aX call103 func103 ?_;intro b0 hb0;have zF:=Ai results103 ntmps103
    repeat' first|simp only[au,ap,zF,am,hat,aD,hpl,hpi,k1,k2,ae,ab,aC,aJ,Lm,aj,ai,seval]|exact rfl|refine aa (v:=.any) ?_|(first|(refine ah ?_ (hpr _) ?_)|(refine ac ?_ (fun _=>hpr _) ?_)|(refine ah ?_ (hun _) ?_)|(refine ac ?_ (fun _=>hun _) ?_))|refine ag (ps:=[(1,4)]) (by decide +kernel) (by simp only[List.forall_mem_cons,List.getD_cons_zero,List.getD_cons_succ,zF,am,hat,aD,hpl,hpi,k1,k2,ae,ab,aC,aJ,Lm,aj,ai,seval]<;>(try simp)<;>(try omega)) ?_|refine av (by decide +kernel) ?_|((first|apply Ca|apply Cb)<;>intro hb)|refine Ai (by omega) ?_|(apply Ai<;>intro hb)
    (refine ew (fun x:UnSt=>k.count-x.D.count) (fun x=>x.inv k p) (b0+16) (fun x=>[(0,.sl false 6 (v.map aD)),(1,.int .i64 p),(5,.ptr b0 0 0),(6,.own (b0+1) 0 (⟨1,n.name,aW n.attrs,[]⟩::x.D.toks).length),(7,.sl false 1 (T.map gn)),(8,.int .i64 x.D.count)]) (fun x=>[(b0,⟨6,[aD n]⟩),(b0+1,⟨4,(⟨1,n.name,aW n.attrs,[]⟩::x.D.toks).map bQ⟩)]) ((UnSt.mk .nil k (p+1))) [some (b0+80),some (b0+304)] ?_ ?_ ?_;(focus (refine⟨?_,?_⟩<;>(try simp only[aE,h1b,aD,ae,aJ,aC,ab,aM,al,az,Fo.toks,Fo.count,Lc,Lo,List.length_cons,List.length_nil,Lm,aj,ai,aq,seval])<;>(try omega))))
    · exact⟨rfl,rfl⟩
    · rintro ⟨D,R,q⟩ ⟨hi1,hi2⟩
      simp only at hi1 hi2 ⊢
      obtain⟨L,hL⟩:∃ L,L=(⟨1,n.name,aW n.attrs,[]⟩:Tk)::D.toks:=⟨_,rfl⟩
      rw[<- hL]
      have htk:(L.map bQ).take L.length=L.map bQ:=ba _ _
      cases R with
      | nil =>
        rw[Fo.app_nil]at hi1
        subst hi1
        have hLl:L.length<=3001:=by rw[hL];simp;omega
        rw[<- hL]at hZ hN
        have hZ':=hZ.symm
        have hZp:plainLL Z=true:=by rw[hZ,cO,aM];rfl
        have hN':L.length+1=N:=hN.symm
        have d1:=nu D.count T.length
        have d2:decide (D.count<T.length)=false:=bi
        ((repeat' first|simp only[au,ap,zF,am,d1,d2,htk,hZ',hZp,hN',aD,aJ,aM,plainL,V.plain,cO,Bool.and_self,Lm,aj,ai,seval]|exact rfl|refine aa (v:=.any) ?_|refine ag (ps:=[(1,4)]) (by decide +kernel) (by simp only[List.forall_mem_cons,List.getD_cons_zero,List.getD_cons_succ,zF,am,d1,d2,htk,hZ',hZp,hN',aD,aJ,aM,plainL,V.plain,cO,Bool.and_self,Lm,aj,ai,seval]<;>(try simp)<;>(try omega)) ?_|refine av (by decide +kernel) ?_|((first|apply Ca|apply Cb)<;>intro hb)|refine Ai (by omega) ?_|(apply Ai<;>intro hb));(all_goals (first|(refine Fin.auto (r:=?_) (l:=?_) ?_ ?_ ?_ ?_ ?_ ?_ ?_;rotate_left 1;(simp only[zF,bz,bT,aH,aO,d1,d2,htk,hZ',hZp,hN',aD,aJ,aM,plainL,V.plain,cO,Bool.and_self,Lm,aj,ai,seval]);(exact rfl);rotate_left 1;(simp only[V.owns,ownsL,List.cons_append,List.nil_append]);(exact rfl);all_goals (try simp only[zF,bz,bT,aH,aO,d1,d2,htk,hZ',hZp,hN',aD,aJ,aM,plainL,V.plain,cO,Bool.and_self,Lm,qR,aj,ai,seval]);all_goals (try simp only[aq]))|skip)))
      | cons m c r =>
        have hi1':(D.app (.cons m c .nil)).app r=k:=by rw[Fo.app_assoc];exact hi1
        have hkc2:k.count=D.count+(r.count+1):=by rw[<- hi1,Fo.app_count];rfl
        have hks2:k.size=D.size+(c.size+r.size+1):=by rw[<- hi1,Fo.app_size];rfl
        have hdq:=vb hd1 hi1
        rw[<- hi2]at hdq
        have hTq:=yR hi1 p
        rw[hTd,<- hi2]at hTq
        obtain⟨hat1,hil⟩:=G1 hTq
        have hili:=jB D.count T.length
        have d1:decide ((D.count:Int)<(T.length:Int))=true:=decide_eq_true hili
        have d2:decide (D.count<T.length)=true:=decide_eq_true hil
        have w2:IntKind.i64.wrap ((D.count:Int)+1)=((D.count+1:Nat):Int):=bH
        rw[<- hi1]at ih
        have hrc:=(ru ih) q _ hdq
        have hct:=Fo.app_count D (.cons m c .nil)
        simp only[Fo.count,Nat.zero_add]at hct
        have hta:=Fo.toks_app D (.cons m c .nil)
        have hkt:k.toks=D.toks++((Fo.cons m c .nil).toks++r.toks):=by
          rw[<- hi1',Fo.toks_app,hta,List.append_assoc]
        have hkl2:=congrArg List.length hkt
        simp only[List.length_append]at hkl2
        have hL2:(⟨1,n.name,aW n.attrs,[]⟩:Tk)::(D.app (.cons m c .nil)).toks=L++(Fo.cons m c .nil).toks:=by rw[hta,hL];rfl
        have hLl:L.length<=3001:=by rw[hL];simp;omega
        generalize (Fo.cons m c .nil).toks=X at hrc hta hkl2 hL2
        have hLX:L.map bQ++X.map bQ=(L++X).map bQ:=List.map_append.symm
        have hL2m:bQ ⟨1,n.name,aW n.attrs,[]⟩::(D.app (.cons m c .nil)).toks.map bQ=(L++X).map bQ:=by rw[<- hL2];rfl
        have hL2l:(D.app (.cons m c .nil)).toks.length+1=L.length+X.length:=by have:=congrArg List.length hL2;simpa using this
        repeat' first|simp only[au,ap,zF,am,d1,d2,htk,hat1,hil,hili,Ci,aD,gn,ae,aJ,aM,Lm,aj,ai,seval]|exact rfl|refine aa (v:=.any) ?_|(first|(refine ah ?_ (hrc _) ?_)|(refine ac ?_ (fun _=>hrc _) ?_))|refine ag (ps:=[(1,4)]) (by decide +kernel) (by simp only[List.forall_mem_cons,List.getD_cons_zero,List.getD_cons_succ,zF,am,d1,d2,htk,hat1,hil,hili,Ci,aD,gn,ae,aJ,aM,Lm,aj,ai,seval]<;>(try simp)<;>(try omega)) ?_|refine av (by decide +kernel) ?_|((first|apply Ca|apply Cb)<;>intro hb)|refine Ai (by omega) ?_|(apply Ai<;>intro hb)
        all_goals ((refine de (UnSt.mk (D.app (.cons m c .nil)) r (q+1+c.size)) [some b0,some (b0+192)] ?_ ?_ ?_;(focus (refine⟨?_,?_⟩<;>(try simp only[aE,w2,hct,hLX,hL2m,hL2l,aD,ae,aJ,aM,ab,al,az,Lm,aj,ai,aq,seval])<;>(try omega)))))
        all_goals (first|(show k.count-(D.app (.cons m c .nil)).count<k.count-D.count;omega)|(refine⟨hi1',?_⟩;simp only[Fo.app_size,Fo.size];omega)|skip)
  · rw[List.map_append]
    refine lP ?_
    rw[show [(⟨2,n.name,[],[]⟩:Tk)].map bQ=[[.int .u8 2,.str n.name,.sl false 2 [],.str []]] from rfl]
    simp only[fL,dO,eU,jx,pH,ct,il,and_self]
def tx (v:List Nd)(hv:v.length<=1000)(hok:∀ n∈v,n.okTo aT):∀(F:Fo) (d last:Nat),d<=12->F.good d last=true->vA (xc v) F
 | .nil,_,_,_,_=>trivial
 | .cons n k r,d,last,hd,hg=>by
  obtain⟨h1,h2,h3,h4,h5,h6⟩:=Fo.good_cons.1 hg
  refine⟨?_,tx v hv hok r d n.kind hd h6⟩
  have ha:=(fD h1).1
  by_cases hk:n.kind=2
  ·have:=Fo.text_leaf hg hk
   subst this
   exact EZ v n hk
  ·by_cases hm:n.many=0
   ·have hkn:k = .nil:=by
     cases k with
     | nil=>rfl
     | cons _ _ _=>simp[Fo.count]at h2;omega
    subst hkn
    exact EY v n hk hm (by omega)
   ·exact EX v hv hok n k hk hm (by omega) d hd (Fo.good_cons.2 ⟨h1,h2,by omega,h4,h5,rfl⟩) (tx v hv hok k (d-1) 1 (by omega) h5)
def A7 (v:List Nd)(hv:v.length<=1000)(hok:∀ n∈v,n.okTo aT)(nm:Nat):Ev cx 52 nm [.sl false 6 (v.map aD)] ao.nil (ur (cD v).1 (cD v).2) []:=by
 have hm:=lX v (by omega) hok
 have hs:=Ek v (by omega) hok
 unfold ur
 by_cases hc:cT v=0
 ·obtain⟨n,k,hk,hvv,hg,hl⟩:=ma hc
  have hmt:nA v=true:=decide_eq_true hc
  rw[hmt]at hm
  unfold cD
  rw[if_neg (by simp[hc])]
  cases hsp:bV v with
  | true =>
   rw[hsp]at hs
   simp only[if_true,Lo]
   refine aX call52 func52 ?_;intro b0 hb0
   exact wP (a3 results52 ntmps52 @ae) (a2 hm hs)
  | false =>
   rw[hsp]at hs
   have hf:qH v = .cons n k .nil:=by rw[hvv];exact re hg
   have ht:=(tx v hv hok (.cons n k .nil) 12 0 (Nat.le_refl _) hg).1 0 [] (by rw[List.drop_zero,List.append_nil];exact hvv)
   simp only[Int.ofNat_zero]at ht
   rw[hf]
   simp only[Bool.false_eq_true,if_false]
   have hpl:=aM (Fo.cons n k .nil).toks
   have hle:(Fo.cons n k .nil).toks.length<=3000:=by
    rw[Fo.toks_length hg]
    have:=List.length_filter_le (fun n:Nd=>decide (0<n.many)) (Fo.cons n k .nil).flat
    rw[Fo.flat_length]at this
    simp only[Fo.size]at this ⊢
    omega
   generalize (Fo.cons n k .nil).toks=T at ht hpl hle ⊢
   by_cases h5:512<T.length
   ·have d1:decide ((512:Int)<(T.length:Int))=true:=dh
    have d2:decide (512<T.length)=true:=decide_eq_true h5
    rw[if_pos h5]
    simp only[Lo]
    refine aX call52 func52 ?_;intro b0 hb0
    exact wP (a6 results52 ntmps52 d1 d2 hpl @ae) (a3 hm hs ht)
   ·have d1:decide ((512:Int)<(T.length:Int))=false:=bi
    have d2:decide (512<T.length)=false:=decide_eq_false h5
    rw[if_neg h5]
    refine aX call52 func52 ?_;intro b0 hb0
    exact wP (a6 results52 ntmps52 d1 d2 hpl @ae) (a3 hm hs ht)
 ·have hmt:nA v=false:=decide_eq_false hc
  rw[hmt]at hm
  unfold cD
  rw[if_pos hc]
  simp only[Lo]
  refine aX call52 func52 ?_;intro b0 hb0
  (repeat' first|simp only[au,ap,results52,ntmps52,am,ae,Bt,Bf,aj,ai,seval]|exact rfl|refine aa (v:=.any) ?_|(first|(refine ah ?_ (hm _) ?_)|(refine ac ?_ (fun _=>hm _) ?_))|(refine aa (v:=.any) ?_)|((first|apply Ca|apply Cb)<;>intro hb)|refine Ai (by omega) ?_|(apply Ai<;>intro hb)|apply Fin.pure|simp only[aq])
end Go.Proofs.YtjonibipieofcaaGreatDoor
