/-
 Texts joined: XJq,XJr,XJs.
-/
import Derived.Test.YtjonibipieofcaaGreatDoorMq
import Derived.Test.YtjonibipieofcaaGreatDoorMj
import Derived.Test.YtjonibipieofcaaGreatDoorMk
set_option maxHeartbeats 16000000
set_option maxRecDepth 100000
set_option linter.all false
namespace Go.Proofs.YtjonibipieofcaaGreatDoor
open Go Go.RowKit Vm Go.Lib Tryz
open Vm renaming aI->Ca,aP->Cb
open And renaming intro->Ai
open List renaming length_map->Lm,not_mem_nil->Ln,map_nil->Lo,map_cons->Lc,mem_cons->Lk
open Bool renaming not_false->Bf,not_true->Bt
def Hr (n:Nd)(sp:List UInt8)(hk:n.kind=1)(hn:n.okTo 1000000)(ha:n.attrs.length<=30)(nm:Nat) :
  Ev cx 163 nm [.agg (aD n),.str sp] ao.nil (.agg (aD (dn n sp))) []:=by
 have h:=El n sp hk hn ha nm
 have hc:aD (dn n sp)=[.int .u8 1,.str [],.str n.name,.sl false 3 ((dn n sp).attrs.map bf),.str [],.int .i64 n.many]:=by
  have:(dn n sp).kind=1:=hk
  unfold aD;rw[this];rfl
 rw[hc]
 generalize (dn n sp).attrs=A at h ⊢
 have hpl:=ab A
 have htk:=fb A
 refine Ev.freeze h ?_ ?_
 ·simp only[au,ap,am,hpl,htk,Lm,aj,ai,seval]<;>omega
 ·simp only[au,ap,am,hpl,htk,Lm,aj,ai,seval]
def Fo.bare_app:∀(F G:Fo) (sp:List UInt8),(F.app G).bare sp=F.bare sp++G.bare sp
 | .nil,_,_=>rfl
 | .cons n k r,G,sp=>by simp only[Fo.app,Fo.bare,r.bare_app G sp,List.append_assoc]
def IC (v:List Nd)(n:Nd)(k:Fo):Prop:=∀(p:Nat) (rest:List Nd) (sp:List UInt8),v.drop p=n::(k.flat++rest) ->
 ∀ nm,Ev cx 141 nm [.sl false 6 (v.map aD),.int .i64 p,.str sp] ao.nil (.sl false 6 (((Fo.cons n k .nil).bare sp).map aD)) []
def CY (v:List Nd)(n:Nd)(hk:n.kind=2):IC v n .nil:=by
 intro p rest sp hd nm
 obtain⟨hx,hpl,hd1⟩:=fS hd
 have hat:=dS hx
 have hpi:=jB p v.length
 have k1:((n.kind:Int)==2)=true:=by rw[hk];rfl
 have hr:(Fo.cons n .nil .nil).bare sp=[n]:=by simp[Fo.bare,hk]
 rw[hr]
 refine Ev.rows_fz (R:=[aD n]) ?_ (gz _) (ae _)
 show Ev cx _ nm _ ao.nil (.own nm 0 1) _
 simp only[aD]
 refine aX call141 func141 ?_;intro b0 hb0
 ((repeat' first|simp only[au,ap,results141,ntmps141,am,hat,aD,hpl,hpi,k1,ae,ab,plainL,V.plain,Bool.and_self,Lm,aj,ai,seval]|exact rfl|refine aa (v:=.any) ?_|refine av (by decide +kernel) ?_|((first|apply Ca|apply Cb)<;>intro hb)|refine Ai (by omega) ?_|(apply Ai<;>intro hb));(all_goals (first|(refine Fin.auto (r:=?_) (l:=?_) ?_ ?_ ?_ ?_ ?_ ?_ ?_;rotate_left 1;(simp only[results141,ntmps141,bz,bT,aH,aO,hat,aD,hpl,hpi,k1,ae,ab,plainL,V.plain,Bool.and_self,Lm,aj,ai,seval]);(exact rfl);rotate_left 1;(simp only[V.owns,ownsL,List.cons_append,List.nil_append]);(exact rfl);all_goals (try simp only[results141,ntmps141,bz,bT,aH,aO,hat,aD,hpl,hpi,k1,ae,ab,plainL,V.plain,Bool.and_self,Lm,qR,aj,ai,seval]);all_goals (try simp only[aq]))|skip)))
def CX (v:List Nd)(hv:v.length<=1000)(hokv:∀ n∈v,n.okTo 1000000)(n:Nd)(k:Fo)(hk:n.kind=1)(d:Nat)(hd12:d<=12)(hg:(Fo.cons n k .nil).good d 0=true)(ih:vA (IC v) k):IC v n k:=by
 intro p rest sp hd nm
 have hokl:∀ x∈v,x.okTo aT:=fun x hx=>cW (hokv x hx) (by decide)
 obtain⟨hx,hpl,hd1⟩:=fS hd
 have hat:=dS hx
 have hpi:=jB p v.length
 obtain⟨g1,g2,g3,g4,g5,g6⟩:=Fo.good_cons.1 hg
 have hkl:=ot hd1
 have hkc:=fe k
 have k1:((n.kind:Int)==2)=false:=by rw[hk];rfl
 have k2:¬ n.kind=2:=by omega
 have ha16:=(fD g1).1
 have hto:=Hr n sp hk (hokv n (List.mem_of_getElem? hx)) (by omega)
 have hun:=vj v hv hokl hd hg hd12
 have hTl:=Fo.tops_length k (p+1)
 generalize hTd:k.tops (p+1)=T at hun hTl
 have hres:(Fo.cons n k .nil).bare sp=dn n sp::k.bare n.space:=by simp[Fo.bare,k2]
 rw[hres]
 clear hres
 generalize dn n sp=X at hto ⊢
 have hr1:(k.bare n.space).length<=1000:=by
  have:=Fo.tell_flat n.space g5
  rw[<- this,Fo.flat_length,Fo.tell_size]
  omega
 have hX1:[(.int .u8 X.kind),(.str X.space),(.str X.name),(.sl false 3 (X.attrs.map bf)),(.str X.text),(.int .i64 X.many)]=aD X:=rfl
 have hpX:plainL (aD X)=true:=by simp[aD,plainL,V.plain,ab]
 obtain⟨Z,hZ⟩:∃ Z,Z=(X::k.bare n.space).map aD:=⟨_,rfl⟩
 obtain⟨N,hN⟩:∃ N,N=(X::k.bare n.space).length:=⟨_,rfl⟩
 refine Ev.rows_fz (R:=Z) ?_ (by rw[hZ];exact gz _) (ae _)
 rw[Lm,<- hN]
 refine aX call141 func141 ?_;intro b0 hb0;have zF:=Ai results141 ntmps141
 repeat' first|simp only[au,ap,zF,am,hat,aD,hpl,hpi,k1,ae,ab,plainL,V.plain,Bool.and_self,Lm,aj,ai,seval]|exact rfl|refine aa (v:=.any) ?_|(first|(refine ah ?_ (hto _) ?_)|(refine ac ?_ (fun _=>hto _) ?_)|(refine ah ?_ (hun _) ?_)|(refine ac ?_ (fun _=>hun _) ?_))|refine av (by decide +kernel) ?_|((first|apply Ca|apply Cb)<;>intro hb)|refine Ai (by omega) ?_|(apply Ai<;>intro hb)
 (refine ew (fun x:UnSt=>k.count-x.D.count) (fun x=>x.inv k p) (b0+16) (fun x=>[(0,.sl false 6 (v.map aD)),(1,.int .i64 p),(7,.own b0 0 (X::x.D.bare n.space).length),(8,.sl false 1 (T.map gn)),(9,.int .i64 x.D.count)]) (fun x=>[(b0,⟨6,(X::x.D.bare n.space).map aD⟩)]) ((UnSt.mk .nil k (p+1))) [some (b0+208)] ?_ ?_ ?_;(focus (refine⟨?_,?_⟩<;>(try simp only[aE,hX1,hpX,Bool.true_or,if_true,ae,aJ,ab,al,az,Fo.bare,Fo.count,Lc,Lo,List.length_cons,List.length_nil,Lm,aj,ai,aq,seval])<;>(try omega))))
 ·exact⟨rfl,rfl⟩
 ·rintro ⟨D,R,q⟩ ⟨hi1,hi2⟩
  simp only at hi1 hi2 ⊢
  obtain⟨L,hL⟩:∃ L,L=X::D.bare n.space:=⟨_,rfl⟩
  rw[<- hL]
  have htk:(L.map aD).take L.length=L.map aD:=ba _ _
  cases R with
  | nil =>
   rw[Fo.app_nil]at hi1
   subst hi1
   rw[<- hL]at hZ hN
   have hLl:L.length<=1001:=by rw[hL];simp;omega
   have d1:=nu D.count T.length
   have d2:decide (D.count<T.length)=false:=bi
   subst hZ;subst hN
   ((repeat' first|simp only[au,ap,zF,am,d1,d2,htk,aJ,ae,Lm,aj,ai,seval]|exact rfl|refine aa (v:=.any) ?_|refine av (by decide +kernel) ?_|((first|apply Ca|apply Cb)<;>intro hb)|refine Ai (by omega) ?_|(apply Ai<;>intro hb));(all_goals (first|(refine Fin.auto (r:=?_) (l:=?_) ?_ ?_ ?_ ?_ ?_ ?_ ?_;rotate_left 1;(simp only[zF,bz,bT,aH,aO,d1,d2,htk,aJ,ae,Lm,aj,ai,seval]);(exact rfl);rotate_left 1;(simp only[V.owns,ownsL,List.cons_append,List.nil_append]);(exact rfl);all_goals (try simp only[zF,bz,bT,aH,aO,d1,d2,htk,aJ,ae,Lm,qR,aj,ai,seval]);all_goals (try simp only[aq]))|skip)))
  | cons m c r =>
   have hi1':(D.app (.cons m c .nil)).app r=k:=by rw[Fo.app_assoc];exact hi1
   have hkc2:k.count=D.count+(r.count+1):=by rw[<- hi1,Fo.app_count];rfl
   have hks2:k.size=D.size+(c.size+r.size+1):=by rw[<- hi1,Fo.app_size];rfl
   have hdq:=vb hd1 hi1
   rw[<- hi2]at hdq
   have hTq:=yR hi1 p
   rw[hTd,<- hi2]at hTq
   obtain⟨hat1,hil⟩:=G1 hTq
   have hili:=jB D.count T.length
   have d1:decide ((D.count:Int)<(T.length:Int))=true:=decide_eq_true hili
   have d2:decide (D.count<T.length)=true:=decide_eq_true hil
   have w2:IntKind.i64.wrap ((D.count:Int)+1)=((D.count+1:Nat):Int):=bH
   rw[<- hi1]at ih
   have hrc:=(ru ih) q _ n.space hdq
   have hct:=Fo.app_count D (.cons m c .nil)
   simp only[Fo.count,Nat.zero_add]at hct
   have ra1:=Fo.bare_app D (.cons m c .nil) n.space
   have hra:=Fo.bare_app (D.app (.cons m c .nil)) r n.space
   rw[hi1',ra1]at hra
   have hkl2:=congrArg List.length hra
   simp only[List.length_append]at hkl2
   have hL2:X::(D.app (.cons m c .nil)).bare n.space=L++(Fo.cons m c .nil).bare n.space:=by rw[ra1,hL];rfl
   have hLl:L.length<=1001:=by rw[hL];simp;omega
   generalize (Fo.cons m c .nil).bare n.space=Y at hrc hkl2 hL2
   have hLX:L.map aD++Y.map aD=(L++Y).map aD:=List.map_append.symm
   have hL2m:aD X::((D.app (.cons m c .nil)).bare n.space).map aD=(L++Y).map aD:=by rw[<- hL2];rfl
   have hL2l:((D.app (.cons m c .nil)).bare n.space).length+1=L.length+Y.length:=by have:=congrArg List.length hL2;simpa using this
   have hatn:(v.map aD)[p]? = some [.int .u8 n.kind,.str n.space,.str n.name,.sl false 3 (n.attrs.map bf),.str n.text,.int .i64 n.many]:=hat
   repeat' first|simp only[au,ap,zF,am,d1,d2,htk,hatn,hat1,hil,hili,hpl,hpi,rj,gn,ae,aJ,Lm,aj,ai,seval]|exact rfl|refine aa (v:=.any) ?_|(first|(refine ah ?_ (hrc _) ?_)|(refine ac ?_ (fun _=>hrc _) ?_))|refine av (by decide +kernel) ?_|((first|apply Ca|apply Cb)<;>intro hb)|refine Ai (by omega) ?_|(apply Ai<;>intro hb)
   all_goals ((refine de (UnSt.mk (D.app (.cons m c .nil)) r (q+1+c.size)) [some (b0+272)] ?_ ?_ ?_;(focus (refine⟨?_,?_⟩<;>(try simp only[aE,w2,hct,hLX,hL2m,hL2l,ae,aJ,al,az,Lm,aj,ai,aq,seval])<;>(try omega)))))
   all_goals (first|(show k.count-(D.app (.cons m c .nil)).count<k.count-D.count;omega)|(refine⟨hi1',?_⟩;simp only[Fo.app_size,Fo.size];omega)|skip)
def rX (v:List Nd)(hv:v.length<=1000)(hok:∀ n∈v,n.okTo 1000000):∀(F:Fo) (d last:Nat),d<=12->F.good d last=true->vA (IC v) F
 | .nil,_,_,_,_=>trivial
 | .cons n k r,d,last,hd,hg=>by
  obtain⟨h1,h2,h3,h4,h5,h6⟩:=Fo.good_cons.1 hg
  refine⟨?_,rX v hv hok r d n.kind hd h6⟩
  by_cases hk:n.kind=2
  ·have:=Fo.text_leaf hg hk
   subst this
   exact CY v n hk
  ·have hk1:n.kind=1:=by rcases gF h1 with e|e;exact e;exact absurd e hk
   exact CX v hv hok n k hk1 d hd (Fo.good_cons.2 ⟨h1,h2,by omega,h4,h5,rfl⟩) (rX v hv hok k (d-1) 1 (by omega) h5)
def A8 (v:List Nd)(hv:v.length<=1000)(hok:∀ n∈v,n.okTo 1000000){n:Nd}{k:Fo}(hvv:v=n::k.flat)(hg:(Fo.cons n k .nil).good 12 0=true)(sp:List UInt8)(nm:Nat) :
  Ev cx 101 nm [.sl false 6 (v.map aD),.str sp] ao.nil (.sl false 6 (((Fo.cons n k .nil).bare sp).map aD)) []:=by
 have hd:=(rX v hv hok (.cons n k .nil) 12 0 (Nat.le_refl _) hg).1 0 [] sp (by rw[List.drop_zero,List.append_nil];exact hvv)
 simp only[Int.ofNat_zero]at hd
 have hpl:=ae ((Fo.cons n k .nil).bare sp)
 refine aX call101 func101 ?_;intro b0 hb0
 exact wP (a4 results101 ntmps101 hpl @ae) hd
def Hl (v:List Nd)(sp:List UInt8)(hv:v.length<=1000)(hok:∀ n∈v,n.okTo 1000000/\n.i64)(hs:sp.length<=aT)(nm:Nat) :
    Ev cx 51 nm [.sl false 6 (v.map aD),.str sp] ao.nil (qD (bC v sp).1 (bC v sp).2) []:=by
  have hokl:∀ x∈v,x.okTo aT:=fun x hx=>cW (hok x hx).1 (by decide)
  have hm:=yW v hv hokl
  have hc:=fN sp hs
  unfold qD
  by_cases h1:cn v=0
  · rw [decide_eq_true h1]at hm
    by_cases h2:aF sp=0
    · rw [h2]at hc
      cases c1:(sp==[104,116,116,112,58,47,47,119,119,119,46,119,51,46,111,114,103,47,88,77,76,47,49,57,57,56,47,110,97,109,101,115,112,97,99,101]) with
      | true =>
        have hg:dN sp=true:=by unfold dN me;rw[c1];rfl
        have hb:bC v sp=([],8):=by unfold bC;rw[if_neg (by simp[h1]),if_pos (.inr hg)]
        rw[hb]
        simp only[Lo]
        refine aX call51 func51 ?_;intro b0 hb0
        (repeat' first|simp only[au,ap,results51,ntmps51,am,c1,bF,ae,Bt,Bf,aj,ai,seval]|exact rfl|refine aa (v:=.any) ?_|(first|(refine ah ?_ (hm _) ?_)|(refine ac ?_ (fun _=>hm _) ?_)|(refine ah ?_ (hc _) ?_)|(refine ac ?_ (fun _=>hc _) ?_))|(refine aa (v:=.any) ?_)|((first|apply Ca|apply Cb)<;>intro hb)|refine Ai (by omega) ?_|(apply Ai<;>intro hb)|apply Fin.pure|simp only[aq])
      | false =>
        cases c2:(sp==[104,116,116,112,58,47,47,119,119,119,46,119,51,46,111,114,103,47,50,48,48,48,47,120,109,108,110,115,47]) with
        | true =>
          have hg:dN sp=true:=by unfold dN me nN;rw[c1,c2];rfl
          have hb:bC v sp=([],8):=by unfold bC;rw[if_neg (by simp[h1]),if_pos (.inr hg)]
          rw[hb]
          simp only[Lo]
          refine aX call51 func51 ?_;intro b0 hb0
          (repeat' first|simp only[au,ap,results51,ntmps51,am,c1,c2,bF,ae,Bt,Bf,aj,ai,seval]|exact rfl|refine aa (v:=.any) ?_|(first|(refine ah ?_ (hm _) ?_)|(refine ac ?_ (fun _=>hm _) ?_)|(refine ah ?_ (hc _) ?_)|(refine ac ?_ (fun _=>hc _) ?_))|(refine aa (v:=.any) ?_)|((first|apply Ca|apply Cb)<;>intro hb)|refine Ai (by omega) ?_|(apply Ai<;>intro hb)|apply Fin.pure|simp only[aq])
        | false =>
          have hg:dN sp=false:=by unfold dN me nN;rw[c1,c2];rfl
          obtain⟨n,k,hk,hvv,hgd,hl⟩:=ma (uC h1).2
          have hf:qH v = .cons n k .nil:=by rw[hvv];exact re hgd
          have hto:=A8 v hv (fun x hx=>(hok x hx).1) hvv hgd sp
          have hb:bC v sp=if kZ ((Fo.cons n k .nil).bare sp)=true then ([],4) else ((Fo.cons n k .nil).bare sp,0):=by
            unfold bC
            rw[if_neg (by simp[h1]),if_neg (by simp[h2,hg]),hf]
          rw[hb]
          clear hb
          have hTl:((Fo.cons n k .nil).bare sp).length<=1000:=by
            rw[<- Fo.tell_flat sp hgd,Fo.flat_length,Fo.tell_size];simp only[Fo.size];omega
          have hpl:=ae ((Fo.cons n k .nil).bare sp)
          generalize (Fo.cons n k .nil).bare sp=T at hto hTl hpl ⊢
          refine aX call51 func51 ?_;intro b0 hb0
          refine wR (a7 results51 ntmps51 c1 c2 @bF @ae hpl) (a3 hm hc hto) ?_
          (refine ew (fun x:Nat=>T.length-x) (fun x=>x<=T.length/\(T.take x).any (fun n=>decide (16<n.attrs.length))=false) (b0+16) (fun x=>[(6,.sl false 6 (T.map aD)),(7,.int .i64 x)]) (fun x=>[]) (0) [] ?_ ?_ ?_;(focus (refine⟨?_,?_⟩<;>(try simp only[aE,hpl,ae,Lm,aj,ai,aq,seval])<;>(try omega))))
          · exact⟨Nat.zero_le _,rfl⟩
          · rintro i ⟨hi,hno⟩
            by_cases hlt:i<T.length
            · obtain⟨x,hx⟩:=ic hlt
              have hat:=dS hx
              have hii:=jB i T.length
              have d1:decide ((i:Int)<(T.length:Int))=true:=decide_eq_true hii
              have d2:=decide_eq_true hlt
              have wi:=eD i
              by_cases hw:16<x.attrs.length
              · have e1:decide ((16:Int)<(x.attrs.length:Int))=true:=dh
                have e2:decide (16<x.attrs.length)=true:=decide_eq_true hw
                have hr:kZ T=true:=by unfold kZ;exact fx hx e2
                rw[if_pos hr]
                simp only[Lo]
                exact wP (a2 results51 (a9 ntmps51 d1 d2 hat @aD.eq_1 hlt hii e1 e2)) trivial
              · have e1:decide ((16:Int)<(x.attrs.length:Int))=false:=bi
                have e2:decide (16<x.attrs.length)=false:=decide_eq_false hw
                have hno':=gq hx hno e2
                refine wR (a3 results51 ntmps51 (a9 d1 d2 hat @aD.eq_1 hlt hii e1 e2 wi)) trivial ?_
                all_goals ((refine de (i+1) [] ?_ ?_ ?_;(focus (refine⟨?_,?_⟩<;>(try simp only[aE,hpl,ae,wi,Lm,aj,ai,aq,seval])<;>(try omega)))))
                all_goals (first|(show T.length-(i+1)<T.length-i;omega)|exact⟨hlt,hno'⟩|skip)
            · have hie:i=T.length:=by omega
              subst hie
              have d1:=nu T.length T.length
              have d2:decide (T.length<T.length)=false:=bi
              rw[List.take_length]at hno
              have hr:kZ T=false:=hno
              rw[hr]
              simp only[Bool.false_eq_true,if_false]
              exact wP (a6 results51 ntmps51 d1 d2 hpl @ae) trivial
    · have hb:bC v sp=([],8):=by unfold bC;rw[if_neg (by simp[h1]),if_pos (.inl h2)]
      have q:(aF sp != 0)=true:=by simpa using h2
      rw[hb]
      simp only[Lo]
      generalize aF sp=E at hc q
      refine aX call51 func51 ?_;intro b0 hb0
      (repeat' first|simp only[au,ap,results51,ntmps51,am,q,bF,ae,Bt,Bf,aj,ai,seval]|exact rfl|refine aa (v:=.any) ?_|(first|(refine ah ?_ (hm _) ?_)|(refine ac ?_ (fun _=>hm _) ?_)|(refine ah ?_ (hc _) ?_)|(refine ac ?_ (fun _=>hc _) ?_))|(refine aa (v:=.any) ?_)|((first|apply Ca|apply Cb)<;>intro hb)|refine Ai (by omega) ?_|(apply Ai<;>intro hb)|apply Fin.pure|simp only[aq])
  · rw [decide_eq_false h1]at hm
    have h8:cn v=8:=by
      unfold cn at h1 ⊢
      split
      · rfl
      · rename_i h;rw[if_neg h]at h1
        unfold cT at h1 ⊢
        split
        · rfl
        · rename_i h2;rw[if_neg h2]at h1;exact absurd rfl h1
    have hb:bC v sp=([],8):=by unfold bC;rw[if_pos h1,h8]
    rw[hb]
    simp only[Lo]
    refine aX call51 func51 ?_;intro b0 hb0
    (repeat' first|simp only[au,ap,results51,ntmps51,am,bF,ae,Bt,Bf,aj,ai,seval]|exact rfl|refine aa (v:=.any) ?_|(first|(refine ah ?_ (hm _) ?_)|(refine ac ?_ (fun _=>hm _) ?_))|(refine aa (v:=.any) ?_)|((first|apply Ca|apply Cb)<;>intro hb)|refine Ai (by omega) ?_|(apply Ai<;>intro hb)|apply Fin.pure|simp only[aq])
def Ba (v:List Nd)(o:List UInt8)(hv:v.length<=900)(hok:∀ n∈v,n.okTo 999900/\n.i64)(ho:o.length<=aT)(nm:Nat):Ev cx 18 nm [.sl false 6 (v.map aD),.str o] ao.nil (.tup [.str (eR v o).1,.int .i64 (eR v o).2]) []:=by
 have hok1:∀ n∈v,n.okTo 1000000/\n.i64:=fun n hn=>⟨cW (hok n hn).1 (by decide),(hok n hn).2⟩
 have s1:=Hl v o (by omega) hok1 ho
 have hbl:=qg v o
 have hbf:=bare_fit (v:=v) (sp:=o) (B:=999900) hok
 have s2:=A7 (bC v o).1 (by omega) (fun n hn=>cW (hbf n hn).1 (by decide))
 have s3:=Hn (cD (bC v o).1).1 (by have:=vv (bC v o).1;omega) (vu (K:=1000000) (fun x hx=>cW (hbf x hx).1 (by decide)))
 unfold qD at s1
 unfold ur at s2
 unfold eR
 have hp1:=ae (bC v o).1
 have hp2:=aM (cD (bC v o).1).1
 generalize lN (cD (bC v o).1).1=J at s3 ⊢
 generalize fh (cD (bC v o).1).1=JE at s3 ⊢
 generalize (cD (bC v o).1).1=T at s2 s3 hp2 ⊢
 generalize (cD (bC v o).1).2=TE at s2 ⊢
 generalize (bC v o).1=B at s1 s2 hp1 ⊢
 generalize (bC v o).2=BE at s1 ⊢
 by_cases h1:BE=0
 ·subst h1
  rw[if_neg (by simp)]
  by_cases h2:TE=0
  ·subst h2
   rw[if_neg (by simp)]
   refine aX call18 func18 ?_;intro b0 hb0
   exact wP (a5 results18 ntmps18 hp1 hp2 @ae) (a3 s1 s2 s3)
  ·rw[if_pos h2]
   have q:(TE != 0)=true:=by simpa using h2
   refine aX call18 func18 ?_;intro b0 hb0
   exact wP (a6 results18 ntmps18 q hp1 hp2 @ae) (a2 s1 s2)
 ·rw[if_pos h1]
  have q:(BE != 0)=true:=by simpa using h1
  refine aX call18 func18 ?_;intro b0 hb0
  exact wP (a5 results18 ntmps18 q hp1 @ae) s1
end Go.Proofs.YtjonibipieofcaaGreatDoor
