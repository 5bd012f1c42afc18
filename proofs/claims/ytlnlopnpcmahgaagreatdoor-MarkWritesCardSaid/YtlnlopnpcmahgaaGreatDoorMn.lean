/-
 Texts joined: XJf,XJg,XJh,XJi.
-/
import Derived.Test.YtlnlopnpcmahgaaGreatDoorMm
import Derived.Test.YtlnlopnpcmahgaaGreatDoorMc
import Derived.Test.YtlnlopnpcmahgaaGreatDoorR2
set_option linter.all false
namespace Go.Proofs.YtlnlopnpcmahgaaGreatDoor
open Go Go.RowKit Vm Go.Lib Tryz
open Vm renaming aH->Ca,aL->Cb
open And renaming intro->Ai
open List renaming length_map->Lm,not_mem_nil->Ln,map_nil->Lo,map_cons->Lc,mem_cons->Lk
open Bool renaming not_false->Bf,not_true->Bt
def pu {P:Nd->Fo->Prop} : ∀ {D:Fo} {m:Nd} {c r:Fo},tc P (D.app (.cons m c r))->P m c
 | .nil,_,_,_,h=>h.1
 | .cons _ _ D,_,_,_,h=>pu (D:=D) h.2
def sM {v:List Nd}{p:Nat}{D k:Fo}{m:Nd}{c r:Fo}{rest:List Nd}(hd1:v.drop (p+1)=k.flat++rest)(h:D.app (.cons m c r)=k):v.drop (p+1+D.size)=m::(c.flat++(r.flat++rest)):=by
 have:(v.drop (p+1)).drop D.size=m::(c.flat++(r.flat++rest)):=by
  rw[hd1,<- h,Fo.app_flat,List.append_assoc,<- Fo.flat_length,List.drop_left]
  simp[Fo.flat]
 rwa[List.drop_drop]at this
def v9 {D k:Fo}{m:Nd}{c r:Fo}(h:D.app (.cons m c r)=k)(p:Nat):(k.tops (p+1))[D.count]? = some (p+1+D.size):=by
 rw[<- h,Fo.tops_app]
 simp only[Fo.tops]
 exact HD (by rw[Fo.tops_length])
def zh (l:List Tk):((l.map bv).all fun r=>r.all V.one)=true:=by
 rw[List.all_eq_true]
 intro r hr
 obtain⟨t,_,rfl⟩:=List.mem_map.1 hr
 rfl
def uF (v:List Nd)(n:Nd)(k:Fo):Prop:=∀(p:Nat) (rest:List Nd),v.drop p=n::(k.flat++rest) -> ∀ nm,Ev cx 54 nm [.sl false 6 (v.map aG),.int .i64 p] am.nil (.sl false 4 ((Fo.cons n k .nil).toks.map bv)) []
def Ev.rows_fz {f:FuncId}{nm:Nat}{args:List V}{z:Nat}{R T:List (List V)}(h:Ev cx f nm args am.nil (.own nm 0 T.length) [(nm,some ⟨z,R⟩)])(hle:fX R T)(hpl:plainLL T=true):Ev cx f nm args am.nil (.sl false z T) []:=by
 have h2:=Ev.last_le (eff:=[]) (k':=⟨z,T⟩) h ⟨rfl,.inl rfl,hle⟩
 have htk:T.take T.length=T:=List.take_length
 refine Ev.freeze h2 ?_ ?_
 ·simp only[aj,ag,ap,hpl,htk,List.nil_append,ai,seval,ah]<;>omega
 ·simp only[aj,ag,ap,hpl,htk,List.nil_append,ai,seval,ah]
set_option maxRecDepth 100000 in
set_option maxHeartbeats 8000000 in
def B4 (v:List Nd)(n:Nd)(hk:n.kind=2):uF v n .nil:=by
 intro p rest hd nm
 obtain⟨hx,hpl,hd1⟩:=eQ hd
 have hat:=dG hx
 have hpi:(p:Int)<(v.length:Int):=by omega
 have k1:((n.kind:Int)==2)=true:=by rw[hk];rfl
 have ht:(Fo.cons n .nil .nil).toks=[⟨4,[],[],n.text⟩]:=by simp[Fo.toks,hk]
 rw[ht]
 refine Ev.rows_fz (R:=[[.int .u8 4,.str [],.nils,.str n.text]]) ?_ ?_ (aF _)
 ·show Ev cx _ nm _ am.nil (.own nm 0 1) _
  refine aV call54 func54 rfl (by kernel_rfl) rfl ?_;intro b0 hb0;have zF:=Ai results54 ntmps54
  ((repeat' first|simp only[aj,ag,zF,ap,hat,aG,hpl,hpi,k1,plainL,V.plain,Bool.and_self,Lm,ai,seval,ah]|exact rfl|refine aa (v:=.any) ?_|refine aq (ps:=[(1,4)]) (by decide +kernel) (by simp only[List.forall_mem_cons,List.getD_cons_zero,List.getD_cons_succ,zF,ap,hat,aG,hpl,hpi,k1,plainL,V.plain,Bool.and_self,Lm,ai,seval,ah]<;>(try simp)<;>(try omega)) ?_|refine ao (by decide +kernel) ?_|((first|apply Ca|apply Cb)<;>intro hb)|refine Ai (by omega) ?_|(apply Ai<;>intro hb));(all_goals (first|(refine Fin.auto (r:=?_) (l:=?_) ?_ ?_ ?_ ?_ ?_ ?_ ?_;rotate_left 1;(simp only[zF,be,bA,aU,bd,hat,aG,hpl,hpi,k1,plainL,V.plain,Bool.and_self,Lm,ai,seval,ah]);(exact rfl);rotate_left 1;(simp only[V.owns,ownsL,List.cons_append,List.nil_append]);(exact rfl);all_goals (try simp only[zF,be,bA,aU,bd,hat,aG,hpl,hpi,k1,plainL,V.plain,Bool.and_self,Lm,rT,ai,seval,ah]);all_goals (try simp only[al]))|skip)))
 ·rw[show [(⟨4,[],[],n.text⟩:Tk)].map bv=[[.int .u8 4,.str [],.sl false 2 [],.str n.text]] from rfl]
  simp only[eK,dj,ej,iS,nD,b8,fX,and_self]
set_option maxRecDepth 100000 in
set_option maxHeartbeats 8000000 in
def B0 (v:List Nd)(n:Nd)(hk:n.kind≠2)(hm:n.many=0)(ha:n.attrs.length<=1000):uF v n .nil:=by
 intro p rest hd nm
 obtain⟨hx,hpl,hd1⟩:=eQ hd
 have hat:=dG hx
 have hpi:(p:Int)<(v.length:Int):=by omega
 have k1:((n.kind:Int)==2)=false:=beq_false_of_ne (by omega)
 have k2:(n.many==0)=true:=by rw[hm];rfl
 have hpr:=sR n.attrs ha
 have ht:(Fo.cons n .nil .nil).toks=[⟨3,n.name,aO n.attrs,[]⟩]:=by simp[Fo.toks,hk,hm]
 rw[ht]
 refine Ev.rows_fz (R:=[[.int .u8 3,.str n.name,.sl false 2 ((aO n.attrs).map eh),.str []]]) ?_ (fm _) (aF _)
 show Ev cx _ nm _ am.nil (.own nm 0 1) _
 refine aV call54 func54 rfl (by kernel_rfl) rfl ?_;intro b0 hb0;have zF:=Ai results54 ntmps54
 ((repeat' first|simp only[aj,ag,zF,ap,hat,aG,hpl,hpi,k1,k2,ae,ax,plainL,V.plain,Bool.and_self,Lm,ai,seval,ah]|exact rfl|refine aa (v:=.any) ?_|(first|(refine ac ?_ (hpr _) ?_)|(refine ab ?_ (fun _=>hpr _) ?_))|refine aq (ps:=[(1,4)]) (by decide +kernel) (by simp only[List.forall_mem_cons,List.getD_cons_zero,List.getD_cons_succ,zF,ap,hat,aG,hpl,hpi,k1,k2,ae,ax,plainL,V.plain,Bool.and_self,Lm,ai,seval,ah]<;>(try simp)<;>(try omega)) ?_|refine ao (by decide +kernel) ?_|((first|apply Ca|apply Cb)<;>intro hb)|refine Ai (by omega) ?_|(apply Ai<;>intro hb));(all_goals (first|(refine Fin.auto (r:=?_) (l:=?_) ?_ ?_ ?_ ?_ ?_ ?_ ?_;rotate_left 1;(simp only[zF,be,bA,aU,bd,hat,aG,hpl,hpi,k1,k2,ae,ax,plainL,V.plain,Bool.and_self,Lm,ai,seval,ah]);(exact rfl);rotate_left 1;(simp only[V.owns,ownsL,List.cons_append,List.nil_append]);(exact rfl);all_goals (try simp only[zF,be,bA,aU,bd,hat,aG,hpl,hpi,k1,k2,ae,ax,plainL,V.plain,Bool.and_self,Lm,rT,ai,seval,ah]);all_goals (try simp only[al]))|skip)))
set_option maxRecDepth 100000 in
set_option maxHeartbeats 16000000 in
def BZ (v:List Nd)(hv:v.length<=1000)(hok:∀ n∈v,n.okTo aS)(n:Nd)(k:Fo)(hk:n.kind≠2)(hm0:n.many≠0)(ha:n.attrs.length<=1000)(d:Nat)(hd12:d<=12)(hg:(Fo.cons n k .nil).good d 0=true)(ih:tc (uF v) k):uF v n k:=by
  intro p rest hd nm
  obtain⟨hx,hpl,hd1⟩:=eQ hd
  have hat:=dG hx
  have hpi:(p:Int)<(v.length:Int):=by omega
  obtain⟨g1,g2,g3,g4,g5,g6⟩:=Fo.good_cons.1 hg
  have hkl:=mf hd1
  have hkc:=dX k
  have k1:((n.kind:Int)==2)=false:=beq_false_of_ne (by omega)
  have k2:(n.many==0)=false:=beq_false_of_ne hm0
  have hpr:=sR n.attrs ha
  have hun:=sS v hv hok hd hg hd12
  have hTl:=Fo.tops_length k (p+1)
  generalize hTd:k.tops (p+1)=T at hun hTl
  have ht:(Fo.cons n k .nil).toks=(⟨1,n.name,aO n.attrs,[]⟩::k.toks)++[⟨2,n.name,[],[]⟩]:=by simp[Fo.toks,hk,hm0]
  have htl:k.toks.length<=3000:=by
    rw[Fo.toks_length g5]
    have:=List.length_filter_le (fun n:Nd=>decide (0<n.many)) k.flat
    rw[Fo.flat_length]at this
    omega
  have h1b:bv ⟨1,n.name,aO n.attrs,[]⟩=[.int .u8 1,.str n.name,.sl false 2 ((aO n.attrs).map eh),.str []]:=rfl
  rw[ht]
  refine Ev.rows_fz (R:=(⟨1,n.name,aO n.attrs,[]⟩::k.toks).map bv++[[.int .u8 2,.str n.name,.nils,.str []]]) ?_ ?_ (aF _)
  · rw [show(((⟨1,n.name,aO n.attrs,[]⟩::k.toks)++[(⟨2,n.name,[],[]⟩:Tk)]).map bv).length=(⟨1,n.name,aO n.attrs,[]⟩::k.toks).length+1 by simp]
    obtain⟨Z,hZ⟩:∃ Z,Z=(⟨1,n.name,aO n.attrs,[]⟩::k.toks).map bv++[[.int .u8 2,.str n.name,.nils,.str []]]:=⟨_,rfl⟩
    obtain⟨N,hN⟩:∃ N,N=((⟨1,n.name,aO n.attrs,[]⟩:Tk)::k.toks).length+1:=⟨_,rfl⟩
    rw[<- hZ,<- hN]
    refine aV call54 func54 rfl (by kernel_rfl) rfl ?_;intro b0 hb0;have zF:=Ai results54 ntmps54
    repeat' first|simp only[aj,ag,zF,ap,hat,aG,hpl,hpi,k1,k2,ad,ae,ax,aC,Lm,ai,seval,ah]|exact rfl|refine aa (v:=.any) ?_|(first|(refine ac ?_ (hpr _) ?_)|(refine ab ?_ (fun _=>hpr _) ?_)|(refine ac ?_ (hun _) ?_)|(refine ab ?_ (fun _=>hun _) ?_))|refine aq (ps:=[(1,4)]) (by decide +kernel) (by simp only[List.forall_mem_cons,List.getD_cons_zero,List.getD_cons_succ,zF,ap,hat,aG,hpl,hpi,k1,k2,ad,ae,ax,aC,Lm,ai,seval,ah]<;>(try simp)<;>(try omega)) ?_|refine ao (by decide +kernel) ?_|((first|apply Ca|apply Cb)<;>intro hb)|refine Ai (by omega) ?_|(apply Ai<;>intro hb)
    (refine ay bu (fun x:UnSt=>k.count-x.D.count) (fun x=>x.inv k p) (b0+16) (fun x=>[(0,.sl false 6 (v.map aG)),(1,.int .i64 p),(5,.ptr b0 0 0),(6,.own (b0+1) 0 (⟨1,n.name,aO n.attrs,[]⟩::x.D.toks).length),(7,.sl false 1 (T.map ff)),(8,.int .i64 x.D.count)]) (fun x=>[(b0,⟨6,[aG n]⟩),(b0+1,⟨4,(⟨1,n.name,aO n.attrs,[]⟩::x.D.toks).map bv⟩)]) ((UnSt.mk .nil k (p+1))) [some (b0+80),some (b0+304)] ?_ ?_ ?_ ?_;rotate_left 1;(focus (show b0<=_;omega));(focus (refine⟨?_,?_⟩<;>(try simp only[aM,h1b,aG,ad,aC,ax,ae,aF,aB,aQ,Fo.toks,Fo.count,Lc,Lo,List.length_cons,List.length_nil,Lm,ai,seval,ah,al])<;>(try omega)));rotate_left 1)
    · exact⟨rfl,rfl⟩
    · rintro ⟨D,R,q⟩ ⟨hi1,hi2⟩
      simp only at hi1 hi2 ⊢
      obtain⟨L,hL⟩:∃ L,L=(⟨1,n.name,aO n.attrs,[]⟩:Tk)::D.toks:=⟨_,rfl⟩
      rw[<- hL]
      have htk:(L.map bv).take L.length=L.map bv:=bF _ _
      cases R with
      | nil =>
        rw[Fo.app_nil]at hi1
        subst hi1
        have hLl:L.length<=3001:=by rw[hL];simp;omega
        rw[<- hL]at hZ hN
        have hZ':=hZ.symm
        have hZp:plainLL Z=true:=by rw[hZ,cg,aF];rfl
        have hN':L.length+1=N:=hN.symm
        have d1:decide ((D.count:Int)<(T.length:Int))=false:=aR
        have d2:decide (D.count<T.length)=false:=aR
        ((repeat' first|simp only[aj,ag,zF,ap,d1,d2,htk,hZ',hZp,hN',aG,aC,aF,plainL,V.plain,cg,Bool.and_self,Lm,ai,seval,ah]|exact rfl|refine aa (v:=.any) ?_|refine aq (ps:=[(1,4)]) (by decide +kernel) (by simp only[List.forall_mem_cons,List.getD_cons_zero,List.getD_cons_succ,zF,ap,d1,d2,htk,hZ',hZp,hN',aG,aC,aF,plainL,V.plain,cg,Bool.and_self,Lm,ai,seval,ah]<;>(try simp)<;>(try omega)) ?_|refine ao (by decide +kernel) ?_|((first|apply Ca|apply Cb)<;>intro hb)|refine Ai (by omega) ?_|(apply Ai<;>intro hb));(all_goals (first|(refine Fin.auto (r:=?_) (l:=?_) ?_ ?_ ?_ ?_ ?_ ?_ ?_;rotate_left 1;(simp only[zF,be,bA,aU,bd,d1,d2,htk,hZ',hZp,hN',aG,aC,aF,plainL,V.plain,cg,Bool.and_self,Lm,ai,seval,ah]);(exact rfl);rotate_left 1;(simp only[V.owns,ownsL,List.cons_append,List.nil_append]);(exact rfl);all_goals (try simp only[zF,be,bA,aU,bd,d1,d2,htk,hZ',hZp,hN',aG,aC,aF,plainL,V.plain,cg,Bool.and_self,Lm,rT,ai,seval,ah]);all_goals (try simp only[al]))|skip)))
      | cons m c r =>
        have hi1':(D.app (.cons m c .nil)).app r=k:=by rw[Fo.app_assoc];exact hi1
        have hkc2:k.count=D.count+(r.count+1):=by rw[<- hi1,Fo.app_count];rfl
        have hks2:k.size=D.size+(c.size+r.size+1):=by rw[<- hi1,Fo.app_size];rfl
        have hdq:=sM hd1 hi1
        rw[<- hi2]at hdq
        have hTq:=v9 hi1 p
        rw[hTd,<- hi2]at hTq
        obtain⟨hat1,hil⟩:=DN hTq
        have hili:(D.count:Int)<(T.length:Int):=by omega
        have d1:decide ((D.count:Int)<(T.length:Int))=true:=decide_eq_true hili
        have d2:decide (D.count<T.length)=true:=decide_eq_true hil
        have w2:IntKind.i64.wrap ((D.count:Int)+1)=((D.count+1:Nat):Int):=aK
        rw[<- hi1]at ih
        have hrc:=(pu ih) q _ hdq
        have hct:=Fo.app_count D (.cons m c .nil)
        simp only[Fo.count,Nat.zero_add]at hct
        have hta:=Fo.toks_app D (.cons m c .nil)
        have hkt:k.toks=D.toks++((Fo.cons m c .nil).toks++r.toks):=by
          rw[<- hi1',Fo.toks_app,hta,List.append_assoc]
        have hkl2:=congrArg List.length hkt
        simp only[List.length_append]at hkl2
        have hL2:(⟨1,n.name,aO n.attrs,[]⟩:Tk)::(D.app (.cons m c .nil)).toks=L++(Fo.cons m c .nil).toks:=by rw[hta,hL];rfl
        have hLl:L.length<=3001:=by rw[hL];simp;omega
        generalize (Fo.cons m c .nil).toks=X at hrc hta hkl2 hL2
        have hLX:L.map bv++X.map bv=(L++X).map bv:=List.map_append.symm
        have hL2m:bv ⟨1,n.name,aO n.attrs,[]⟩::(D.app (.cons m c .nil)).toks.map bv=(L++X).map bv:=by rw[<- hL2];rfl
        have hL2l:(D.app (.cons m c .nil)).toks.length+1=L.length+X.length:=by have:=congrArg List.length hL2;simpa using this
        repeat' first|simp only[aj,ag,zF,ap,d1,d2,htk,hat1,hil,hili,zh,aG,ff,ad,aC,aF,Lm,ai,seval,ah]|exact rfl|refine aa (v:=.any) ?_|(first|(refine ac ?_ (hrc _) ?_)|(refine ab ?_ (fun _=>hrc _) ?_))|refine aq (ps:=[(1,4)]) (by decide +kernel) (by simp only[List.forall_mem_cons,List.getD_cons_zero,List.getD_cons_succ,zF,ap,d1,d2,htk,hat1,hil,hili,zh,aG,ff,ad,aC,aF,Lm,ai,seval,ah]<;>(try simp)<;>(try omega)) ?_|refine ao (by decide +kernel) ?_|((first|apply Ca|apply Cb)<;>intro hb)|refine Ai (by omega) ?_|(apply Ai<;>intro hb)
        all_goals ((refine au bu (UnSt.mk (D.app (.cons m c .nil)) r (q+1+c.size)) [some b0,some (b0+192)] ?_ ?_ ?_ ?_;rotate_left 2;(focus (show b0<=_;omega));(focus (refine⟨?_,?_⟩<;>(try simp only[aM,w2,hct,hLX,hL2m,hL2l,aG,ad,aC,aF,ae,aB,aQ,Lm,ai,seval,ah,al])<;>(try omega)))))
        all_goals (first|(show k.count-(D.app (.cons m c .nil)).count<k.count-D.count;omega)|(refine⟨hi1',?_⟩;simp only[Fo.app_size,Fo.size];omega)|skip)
  · rw[List.map_append]
    refine j0 ?_
    rw[show [(⟨2,n.name,[],[]⟩:Tk)].map bv=[[.int .u8 2,.str n.name,.sl false 2 [],.str []]] from rfl]
    simp only[eK,dj,ej,iS,nD,b8,fX,and_self]
def qZ (v:List Nd)(hv:v.length<=1000)(hok:∀ n∈v,n.okTo aS):∀(F:Fo) (d last:Nat),d<=12->F.good d last=true->tc (uF v) F
 | .nil,_,_,_,_=>trivial
 | .cons n k r,d,last,hd,hg=>by
  obtain⟨h1,h2,h3,h4,h5,h6⟩:=Fo.good_cons.1 hg
  refine⟨?_,qZ v hv hok r d n.kind hd h6⟩
  have ha:=(gD h1).1
  by_cases hk:n.kind=2
  ·have:=Fo.text_leaf hg hk
   subst this
   exact B4 v n hk
  ·by_cases hm:n.many=0
   ·have hkn:k = .nil:=by
     cases k with
     | nil=>rfl
     | cons _ _ _=>simp[Fo.count]at h2;omega
    subst hkn
    exact B0 v n hk hm (by omega)
   ·exact BZ v hv hok n k hk hm (by omega) d hd (Fo.good_cons.2 ⟨h1,h2,by omega,h4,h5,rfl⟩) (qZ v hv hok k (d-1) 1 (by omega) h5)
set_option maxRecDepth 100000 in
set_option maxHeartbeats 8000000 in
def ye (v:List Nd)(hv:v.length<=1000)(hok:∀ n∈v,n.okTo aS)(nm:Nat):Ev cx 29 nm [.sl false 6 (v.map aG)] am.nil (rY (bU v).1 (bU v).2) []:=by
 have hm:=wb v (by omega) hok
 have hs:=Bl v (by omega) hok
 unfold rY
 by_cases hc:ez v=0
 ·obtain⟨n,k,hk,hvv,hg,hl⟩:=ko hc
  have hmt:xS v=true:=decide_eq_true hc
  rw[hmt]at hm
  unfold bU
  rw[if_neg (by simp[hc])]
  cases hsp:bD v with
  | true =>
   rw[hsp]at hs
   simp only[if_true,Lo]
   refine aV call29 func29 rfl (by kernel_rfl) rfl ?_;intro b0 hb0
   (repeat' first|simp only[aj,ag,results29,ntmps29,ap,ad,Bt,Bf,ai,seval,ah]|exact rfl|refine aa (v:=.any) ?_|(first|(refine ac ?_ (hm _) ?_)|(refine ab ?_ (fun _=>hm _) ?_)|(refine ac ?_ (hs _) ?_)|(refine ab ?_ (fun _=>hs _) ?_))|((first|apply Ca|apply Cb)<;>intro hb)|refine Ai (by omega) ?_|(apply Ai<;>intro hb)|refine Fin.pure ?_ ?_ ?_|simp only[al])
  | false =>
   rw[hsp]at hs
   have hf:oM v = .cons n k .nil:=by rw[hvv];exact pe hg
   have ht:=(qZ v hv hok (.cons n k .nil) 12 0 (Nat.le_refl _) hg).1 0 [] (by rw[List.drop_zero,List.append_nil];exact hvv)
   simp only[Int.ofNat_zero]at ht
   rw[hf]
   simp only[Bool.false_eq_true,if_false]
   have hpl:=aF (Fo.cons n k .nil).toks
   have hle:(Fo.cons n k .nil).toks.length<=3000:=by
    rw[Fo.toks_length hg]
    have:=List.length_filter_le (fun n:Nd=>decide (0<n.many)) (Fo.cons n k .nil).flat
    rw[Fo.flat_length]at this
    simp only[Fo.size]at this ⊢
    omega
   generalize (Fo.cons n k .nil).toks=T at ht hpl hle ⊢
   by_cases h5:512<T.length
   ·have d1:decide ((512:Int)<(T.length:Int))=true:=cn
    have d2:decide (512<T.length)=true:=decide_eq_true h5
    rw[if_pos h5]
    simp only[Lo]
    refine aV call29 func29 rfl (by kernel_rfl) rfl ?_;intro b0 hb0
    (repeat' first|simp only[aj,ag,results29,ntmps29,ap,d1,d2,hpl,ad,Bt,Bf,Lm,ai,seval,ah]|exact rfl|refine aa (v:=.any) ?_|(first|(refine ac ?_ (hm _) ?_)|(refine ab ?_ (fun _=>hm _) ?_)|(refine ac ?_ (hs _) ?_)|(refine ab ?_ (fun _=>hs _) ?_)|(refine ac ?_ (ht _) ?_)|(refine ab ?_ (fun _=>ht _) ?_))|((first|apply Ca|apply Cb)<;>intro hb)|refine Ai (by omega) ?_|(apply Ai<;>intro hb)|refine Fin.pure ?_ ?_ ?_|simp only[al])
   ·have d1:decide ((512:Int)<(T.length:Int))=false:=aR
    have d2:decide (512<T.length)=false:=decide_eq_false h5
    rw[if_neg h5]
    refine aV call29 func29 rfl (by kernel_rfl) rfl ?_;intro b0 hb0
    (repeat' first|simp only[aj,ag,results29,ntmps29,ap,d1,d2,hpl,ad,Bt,Bf,Lm,ai,seval,ah]|exact rfl|refine aa (v:=.any) ?_|(first|(refine ac ?_ (hm _) ?_)|(refine ab ?_ (fun _=>hm _) ?_)|(refine ac ?_ (hs _) ?_)|(refine ab ?_ (fun _=>hs _) ?_)|(refine ac ?_ (ht _) ?_)|(refine ab ?_ (fun _=>ht _) ?_))|((first|apply Ca|apply Cb)<;>intro hb)|refine Ai (by omega) ?_|(apply Ai<;>intro hb)|refine Fin.pure ?_ ?_ ?_|simp only[al])
 ·have hmt:xS v=false:=decide_eq_false hc
  rw[hmt]at hm
  unfold bU
  rw[if_pos hc]
  simp only[Lo]
  refine aV call29 func29 rfl (by kernel_rfl) rfl ?_;intro b0 hb0
  (repeat' first|simp only[aj,ag,results29,ntmps29,ap,ad,Bt,Bf,ai,seval,ah]|exact rfl|refine aa (v:=.any) ?_|(first|(refine ac ?_ (hm _) ?_)|(refine ab ?_ (fun _=>hm _) ?_))|(refine aa (v:=.any) ?_)|((first|apply Ca|apply Cb)<;>intro hb)|refine Ai (by omega) ?_|(apply Ai<;>intro hb)|refine Fin.pure ?_ ?_ ?_|simp only[al])
end Go.Proofs.YtlnlopnpcmahgaaGreatDoor
