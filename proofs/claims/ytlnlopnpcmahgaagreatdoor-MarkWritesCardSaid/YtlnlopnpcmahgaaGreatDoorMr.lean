/-
 Texts joined: XJq,XJr,XJs,XJu.
-/
import Derived.Test.YtlnlopnpcmahgaaGreatDoorMq
import Derived.Test.YtlnlopnpcmahgaaGreatDoorR7
import Derived.Test.YtlnlopnpcmahgaaGreatDoorMj
import Derived.Test.YtlnlopnpcmahgaaGreatDoorMk
import Derived.Test.YtlnlopnpcmahgaaGreatDoorMl
import Derived.Test.YtlnlopnpcmahgaaGreatDoorMe
import Derived.Test.YtlnlopnpcmahgaaGreatDoorQv
set_option linter.all false
namespace Go.Proofs.YtlnlopnpcmahgaaGreatDoor
open Go Go.RowKit Vm Go.Lib Tryz
open Vm renaming aH->Ca,aL->Cb
open And renaming intro->Ai
open List renaming length_map->Lm,not_mem_nil->Ln,map_nil->Lo,map_cons->Lc,mem_cons->Lk
open Bool renaming not_false->Bf,not_true->Bt
def Ed (n:Nd)(sp:List UInt8)(hk:n.kind=1)(hn:n.okTo 1000000)(ha:n.attrs.length<=30)(nm:Nat) :
  Ev cx 139 nm [.agg (aG n),.str sp] am.nil (.agg (aG (cD n sp))) []:=by
 have h:=Bm n sp hk hn ha nm
 have hc:aG (cD n sp)=[.int .u8 1,.str [],.str n.name,.sl false 3 ((cD n sp).attrs.map bh),.str [],.int .i64 n.many]:=by
  have:(cD n sp).kind=1:=hk
  unfold aG;rw[this];rfl
 rw[hc]
 generalize (cD n sp).attrs=A at h ⊢
 have hpl:=ae A
 have htk:=dM A
 refine Ev.freeze h ?_ ?_
 ·simp only[aj,ag,ap,hpl,htk,Lm,ai,seval,ah]<;>omega
 ·simp only[aj,ag,ap,hpl,htk,Lm,ai,seval,ah]
def Fo.bare_app:∀(F G:Fo) (sp:List UInt8),(F.app G).bare sp=F.bare sp++G.bare sp
 | .nil,_,_=>rfl
 | .cons n k r,G,sp=>by simp only[Fo.app,Fo.bare,r.bare_app G sp,List.append_assoc]
def Fm (v:List Nd)(n:Nd)(k:Fo):Prop:=∀(p:Nat) (rest:List Nd) (sp:List UInt8),v.drop p=n::(k.flat++rest) ->
 ∀ nm,Ev cx 92 nm [.sl false 6 (v.map aG),.int .i64 p,.str sp] am.nil (.sl false 6 (((Fo.cons n k .nil).bare sp).map aG)) []
set_option maxRecDepth 100000 in
set_option maxHeartbeats 8000000 in
def z6 (v:List Nd)(n:Nd)(hk:n.kind=2):Fm v n .nil:=by
 intro p rest sp hd nm
 obtain⟨hx,hpl,hd1⟩:=eQ hd
 have hat:=dG hx
 have hpi:(p:Int)<(v.length:Int):=by omega
 have k1:((n.kind:Int)==2)=true:=by rw[hk];rfl
 have hr:(Fo.cons n .nil .nil).bare sp=[n]:=by simp[Fo.bare,hk]
 rw[hr]
 refine Ev.rows_fz (R:=[aG n]) ?_ (fm _) (ad _)
 show Ev cx _ nm _ am.nil (.own nm 0 1) _
 simp only[aG]
 refine aV call92 func92 rfl (by kernel_rfl) rfl ?_;intro b0 hb0
 ((repeat' first|simp only[aj,ag,results92,ntmps92,ap,hat,aG,hpl,hpi,k1,ad,ae,plainL,V.plain,Bool.and_self,Lm,ai,seval,ah]|exact rfl|refine aa (v:=.any) ?_|refine ao (by decide +kernel) ?_|((first|apply Ca|apply Cb)<;>intro hb)|refine Ai (by omega) ?_|(apply Ai<;>intro hb));(all_goals (first|(refine Fin.auto (r:=?_) (l:=?_) ?_ ?_ ?_ ?_ ?_ ?_ ?_;rotate_left 1;(simp only[results92,ntmps92,be,bA,aU,bd,hat,aG,hpl,hpi,k1,ad,ae,plainL,V.plain,Bool.and_self,Lm,ai,seval,ah]);(exact rfl);rotate_left 1;(simp only[V.owns,ownsL,List.cons_append,List.nil_append]);(exact rfl);all_goals (try simp only[results92,ntmps92,be,bA,aU,bd,hat,aG,hpl,hpi,k1,ad,ae,plainL,V.plain,Bool.and_self,Lm,rT,ai,seval,ah]);all_goals (try simp only[al]))|skip)))
set_option maxRecDepth 100000 in
set_option maxHeartbeats 16000000 in
def z5 (v:List Nd)(hv:v.length<=1000)(hokv:∀ n∈v,n.okTo 1000000)(n:Nd)(k:Fo)(hk:n.kind=1)(d:Nat)(hd12:d<=12)(hg:(Fo.cons n k .nil).good d 0=true)(ih:tc (Fm v) k):Fm v n k:=by
 intro p rest sp hd nm
 have hokl:∀ x∈v,x.okTo aS:=fun x hx=>eZ (hokv x hx) (by decide)
 obtain⟨hx,hpl,hd1⟩:=eQ hd
 have hat:=dG hx
 have hpi:(p:Int)<(v.length:Int):=by omega
 obtain⟨g1,g2,g3,g4,g5,g6⟩:=Fo.good_cons.1 hg
 have hkl:=mf hd1
 have hkc:=dX k
 have k1:((n.kind:Int)==2)=false:=by rw[hk];rfl
 have k2:¬ n.kind=2:=by omega
 have ha16:=(gD g1).1
 have hto:=Ed n sp hk (hokv n (List.mem_of_getElem? hx)) (by omega)
 have hun:=sS v hv hokl hd hg hd12
 have hTl:=Fo.tops_length k (p+1)
 generalize hTd:k.tops (p+1)=T at hun hTl
 have hres:(Fo.cons n k .nil).bare sp=cD n sp::k.bare n.space:=by simp[Fo.bare,k2]
 rw[hres]
 clear hres
 generalize cD n sp=X at hto ⊢
 have hr1:(k.bare n.space).length<=1000:=by
  have:=Fo.tell_flat n.space g5
  rw[<- this,Fo.flat_length,Fo.tell_size]
  omega
 have hX1:[(.int .u8 X.kind),(.str X.space),(.str X.name),(.sl false 3 (X.attrs.map bh)),(.str X.text),(.int .i64 X.many)]=aG X:=rfl
 have hpX:plainL (aG X)=true:=by simp[aG,plainL,V.plain,ae]
 obtain⟨Z,hZ⟩:∃ Z,Z=(X::k.bare n.space).map aG:=⟨_,rfl⟩
 obtain⟨N,hN⟩:∃ N,N=(X::k.bare n.space).length:=⟨_,rfl⟩
 refine Ev.rows_fz (R:=Z) ?_ (by rw[hZ];exact fm _) (ad _)
 rw[Lm,<- hN]
 refine aV call92 func92 rfl (by kernel_rfl) rfl ?_;intro b0 hb0;have zF:=Ai results92 ntmps92
 repeat' first|simp only[aj,ag,zF,ap,hat,aG,hpl,hpi,k1,ad,ae,plainL,V.plain,Bool.and_self,Lm,ai,seval,ah]|exact rfl|refine aa (v:=.any) ?_|(first|(refine ac ?_ (hto _) ?_)|(refine ab ?_ (fun _=>hto _) ?_)|(refine ac ?_ (hun _) ?_)|(refine ab ?_ (fun _=>hun _) ?_))|refine ao (by decide +kernel) ?_|((first|apply Ca|apply Cb)<;>intro hb)|refine Ai (by omega) ?_|(apply Ai<;>intro hb)
 (refine ay bu (fun x:UnSt=>k.count-x.D.count) (fun x=>x.inv k p) (b0+16) (fun x=>[(0,.sl false 6 (v.map aG)),(1,.int .i64 p),(7,.own b0 0 (X::x.D.bare n.space).length),(8,.sl false 1 (T.map ff)),(9,.int .i64 x.D.count)]) (fun x=>[(b0,⟨6,(X::x.D.bare n.space).map aG⟩)]) ((UnSt.mk .nil k (p+1))) [some (b0+208)] ?_ ?_ ?_ ?_;rotate_left 1;(focus (show b0<=_;omega));(focus (refine⟨?_,?_⟩<;>(try simp only[aM,hX1,hpX,Bool.true_or,if_true,ad,aC,ae,aB,aQ,Fo.bare,Fo.count,Lc,Lo,List.length_cons,List.length_nil,Lm,ai,seval,ah,al])<;>(try omega)));rotate_left 1)
 ·exact⟨rfl,rfl⟩
 ·rintro ⟨D,R,q⟩ ⟨hi1,hi2⟩
  simp only at hi1 hi2 ⊢
  obtain⟨L,hL⟩:∃ L,L=X::D.bare n.space:=⟨_,rfl⟩
  rw[<- hL]
  have htk:(L.map aG).take L.length=L.map aG:=bF _ _
  cases R with
  | nil =>
   rw[Fo.app_nil]at hi1
   subst hi1
   rw[<- hL]at hZ hN
   have hLl:L.length<=1001:=by rw[hL];simp;omega
   have d1:decide ((D.count:Int)<(T.length:Int))=false:=aR
   have d2:decide (D.count<T.length)=false:=aR
   subst hZ;subst hN
   ((repeat' first|simp only[aj,ag,zF,ap,d1,d2,htk,aC,ad,Lm,ai,seval,ah]|exact rfl|refine aa (v:=.any) ?_|refine ao (by decide +kernel) ?_|((first|apply Ca|apply Cb)<;>intro hb)|refine Ai (by omega) ?_|(apply Ai<;>intro hb));(all_goals (first|(refine Fin.auto (r:=?_) (l:=?_) ?_ ?_ ?_ ?_ ?_ ?_ ?_;rotate_left 1;(simp only[zF,be,bA,aU,bd,d1,d2,htk,aC,ad,Lm,ai,seval,ah]);(exact rfl);rotate_left 1;(simp only[V.owns,ownsL,List.cons_append,List.nil_append]);(exact rfl);all_goals (try simp only[zF,be,bA,aU,bd,d1,d2,htk,aC,ad,Lm,rT,ai,seval,ah]);all_goals (try simp only[al]))|skip)))
  | cons m c r =>
   have hi1':(D.app (.cons m c .nil)).app r=k:=by rw[Fo.app_assoc];exact hi1
   have hkc2:k.count=D.count+(r.count+1):=by rw[<- hi1,Fo.app_count];rfl
   have hks2:k.size=D.size+(c.size+r.size+1):=by rw[<- hi1,Fo.app_size];rfl
   have hdq:=sM hd1 hi1
   rw[<- hi2]at hdq
   have hTq:=v9 hi1 p
   rw[hTd,<- hi2]at hTq
   obtain⟨hat1,hil⟩:=DN hTq
   have hili:(D.count:Int)<(T.length:Int):=by omega
   have d1:decide ((D.count:Int)<(T.length:Int))=true:=decide_eq_true hili
   have d2:decide (D.count<T.length)=true:=decide_eq_true hil
   have w2:IntKind.i64.wrap ((D.count:Int)+1)=((D.count+1:Nat):Int):=aK
   rw[<- hi1]at ih
   have hrc:=(pu ih) q _ n.space hdq
   have hct:=Fo.app_count D (.cons m c .nil)
   simp only[Fo.count,Nat.zero_add]at hct
   have ra1:=Fo.bare_app D (.cons m c .nil) n.space
   have hra:=Fo.bare_app (D.app (.cons m c .nil)) r n.space
   rw[hi1',ra1]at hra
   have hkl2:=congrArg List.length hra
   simp only[List.length_append]at hkl2
   have hL2:X::(D.app (.cons m c .nil)).bare n.space=L++(Fo.cons m c .nil).bare n.space:=by rw[ra1,hL];rfl
   have hLl:L.length<=1001:=by rw[hL];simp;omega
   generalize (Fo.cons m c .nil).bare n.space=Y at hrc hkl2 hL2
   have hLX:L.map aG++Y.map aG=(L++Y).map aG:=List.map_append.symm
   have hL2m:aG X::((D.app (.cons m c .nil)).bare n.space).map aG=(L++Y).map aG:=by rw[<- hL2];rfl
   have hL2l:((D.app (.cons m c .nil)).bare n.space).length+1=L.length+Y.length:=by have:=congrArg List.length hL2;simpa using this
   have hatn:(v.map aG)[p]? = some [.int .u8 n.kind,.str n.space,.str n.name,.sl false 3 (n.attrs.map bh),.str n.text,.int .i64 n.many]:=hat
   repeat' first|simp only[aj,ag,zF,ap,d1,d2,htk,hatn,hat1,hil,hili,hpl,hpi,GS,ff,ad,aC,Lm,ai,seval,ah]|exact rfl|refine aa (v:=.any) ?_|(first|(refine ac ?_ (hrc _) ?_)|(refine ab ?_ (fun _=>hrc _) ?_))|refine ao (by decide +kernel) ?_|((first|apply Ca|apply Cb)<;>intro hb)|refine Ai (by omega) ?_|(apply Ai<;>intro hb)
   all_goals ((refine au bu (UnSt.mk (D.app (.cons m c .nil)) r (q+1+c.size)) [some (b0+272)] ?_ ?_ ?_ ?_;rotate_left 2;(focus (show b0<=_;omega));(focus (refine⟨?_,?_⟩<;>(try simp only[aM,w2,hct,hLX,hL2m,hL2l,ad,aC,aB,aQ,Lm,ai,seval,ah,al])<;>(try omega)))))
   all_goals (first|(show k.count-(D.app (.cons m c .nil)).count<k.count-D.count;omega)|(refine⟨hi1',?_⟩;simp only[Fo.app_size,Fo.size];omega)|skip)
def pR (v:List Nd)(hv:v.length<=1000)(hok:∀ n∈v,n.okTo 1000000):∀(F:Fo) (d last:Nat),d<=12->F.good d last=true->tc (Fm v) F
 | .nil,_,_,_,_=>trivial
 | .cons n k r,d,last,hd,hg=>by
  obtain⟨h1,h2,h3,h4,h5,h6⟩:=Fo.good_cons.1 hg
  refine⟨?_,pR v hv hok r d n.kind hd h6⟩
  by_cases hk:n.kind=2
  ·have:=Fo.text_leaf hg hk
   subst this
   exact z6 v n hk
  ·have hk1:n.kind=1:=by rcases fp h1 with e|e;exact e;exact absurd e hk
   exact z5 v hv hok n k hk1 d hd (Fo.good_cons.2 ⟨h1,h2,by omega,h4,h5,rfl⟩) (pR v hv hok k (d-1) 1 (by omega) h5)
set_option maxRecDepth 100000 in
def yf (v:List Nd)(hv:v.length<=1000)(hok:∀ n∈v,n.okTo 1000000){n:Nd}{k:Fo}(hvv:v=n::k.flat)(hg:(Fo.cons n k .nil).good 12 0=true)(sp:List UInt8)(nm:Nat) :
  Ev cx 51 nm [.sl false 6 (v.map aG),.str sp] am.nil (.sl false 6 (((Fo.cons n k .nil).bare sp).map aG)) []:=by
 have hd:=(pR v hv hok (.cons n k .nil) 12 0 (Nat.le_refl _) hg).1 0 [] sp (by rw[List.drop_zero,List.append_nil];exact hvv)
 simp only[Int.ofNat_zero]at hd
 have hpl:=ad ((Fo.cons n k .nil).bare sp)
 refine aV call51 func51 rfl (by kernel_rfl) rfl ?_;intro b0 hb0
 (repeat' first|simp only[aj,ag,results51,ntmps51,ap,hpl,ad,ai,seval,ah]|exact rfl|refine aa (v:=.any) ?_|(first|(refine ac ?_ (hd _) ?_)|(refine ab ?_ (fun _=>hd _) ?_))|((first|apply Ca|apply Cb)<;>intro hb)|refine Ai (by omega) ?_|(apply Ai<;>intro hb)|refine Fin.pure ?_ ?_ ?_|simp only[al])
set_option maxRecDepth 100000 in
set_option maxHeartbeats 16000000 in
def D5 (v:List Nd)(sp:List UInt8)(hv:v.length<=1000)(hok:∀ n∈v,n.okTo 1000000/\n.i64)(hs:sp.length<=aS)(nm:Nat) :
    Ev cx 28 nm [.sl false 6 (v.map aG),.str sp] am.nil (oI (bi v sp).1 (bi v sp).2) []:=by
  have hokl:∀ x∈v,x.okTo aS:=fun x hx=>eZ (hok x hx).1 (by decide)
  have hm:=Ec v hv hokl
  have hc:=fw sp hs
  unfold oI
  by_cases h1:ct v=0
  · rw [decide_eq_true h1]at hm
    by_cases h2:az sp=0
    · rw [h2]at hc
      cases c1:(sp==[104,116,116,112,58,47,47,119,119,119,46,119,51,46,111,114,103,47,88,77,76,47,49,57,57,56,47,110,97,109,101,115,112,97,99,101]) with
      | true =>
        have hg:cZ sp=true:=by unfold cZ ks;rw[c1];rfl
        have hb:bi v sp=([],8):=by unfold bi;rw[if_neg (by simp[h1]),if_pos (.inr hg)]
        rw[hb]
        simp only[Lo]
        refine aV call28 func28 rfl (by kernel_rfl) rfl ?_;intro b0 hb0
        (repeat' first|simp only[aj,ag,results28,ntmps28,ap,c1,bx,ad,Bt,Bf,ai,seval,ah]|exact rfl|refine aa (v:=.any) ?_|(first|(refine ac ?_ (hm _) ?_)|(refine ab ?_ (fun _=>hm _) ?_)|(refine ac ?_ (hc _) ?_)|(refine ab ?_ (fun _=>hc _) ?_))|(refine aa (v:=.any) ?_)|((first|apply Ca|apply Cb)<;>intro hb)|refine Ai (by omega) ?_|(apply Ai<;>intro hb)|refine Fin.pure ?_ ?_ ?_|simp only[al])
      | false =>
        cases c2:(sp==[104,116,116,112,58,47,47,119,119,119,46,119,51,46,111,114,103,47,50,48,48,48,47,120,109,108,110,115,47]) with
        | true =>
          have hg:cZ sp=true:=by unfold cZ ks lQ;rw[c1,c2];rfl
          have hb:bi v sp=([],8):=by unfold bi;rw[if_neg (by simp[h1]),if_pos (.inr hg)]
          rw[hb]
          simp only[Lo]
          refine aV call28 func28 rfl (by kernel_rfl) rfl ?_;intro b0 hb0
          (repeat' first|simp only[aj,ag,results28,ntmps28,ap,c1,c2,bx,ad,Bt,Bf,ai,seval,ah]|exact rfl|refine aa (v:=.any) ?_|(first|(refine ac ?_ (hm _) ?_)|(refine ab ?_ (fun _=>hm _) ?_)|(refine ac ?_ (hc _) ?_)|(refine ab ?_ (fun _=>hc _) ?_))|(refine aa (v:=.any) ?_)|((first|apply Ca|apply Cb)<;>intro hb)|refine Ai (by omega) ?_|(apply Ai<;>intro hb)|refine Fin.pure ?_ ?_ ?_|simp only[al])
        | false =>
          have hg:cZ sp=false:=by unfold cZ ks lQ;rw[c1,c2];rfl
          obtain⟨n,k,hk,hvv,hgd,hl⟩:=ko (sc h1).2
          have hf:oM v = .cons n k .nil:=by rw[hvv];exact pe hgd
          have hto:=yf v hv (fun x hx=>(hok x hx).1) hvv hgd sp
          have hb:bi v sp=if js ((Fo.cons n k .nil).bare sp)=true then ([],4) else ((Fo.cons n k .nil).bare sp,0):=by
            unfold bi
            rw[if_neg (by simp[h1]),if_neg (by simp[h2,hg]),hf]
          rw[hb]
          clear hb
          have hTl:((Fo.cons n k .nil).bare sp).length<=1000:=by
            rw[<- Fo.tell_flat sp hgd,Fo.flat_length,Fo.tell_size];simp only[Fo.size];omega
          have hpl:=ad ((Fo.cons n k .nil).bare sp)
          generalize (Fo.cons n k .nil).bare sp=T at hto hTl hpl ⊢
          refine aV call28 func28 rfl (by kernel_rfl) rfl ?_;intro b0 hb0
          repeat' first|simp only[aj,ag,results28,ntmps28,ap,c1,c2,bx,ad,hpl,Bt,Bf,ai,seval,ah]|exact rfl|refine aa (v:=.any) ?_|(first|(refine ac ?_ (hm _) ?_)|(refine ab ?_ (fun _=>hm _) ?_)|(refine ac ?_ (hc _) ?_)|(refine ab ?_ (fun _=>hc _) ?_)|(refine ac ?_ (hto _) ?_)|(refine ab ?_ (fun _=>hto _) ?_))|((first|apply Ca|apply Cb)<;>intro hb)|refine Ai (by omega) ?_|(apply Ai<;>intro hb)
          (refine ay bu (fun x:Nat=>T.length-x) (fun x=>x<=T.length/\(T.take x).any (fun n=>decide (16<n.attrs.length))=false) (b0+16) (fun x=>[(6,.sl false 6 (T.map aG)),(7,.int .i64 x)]) (fun x=>[]) (0) [] ?_ ?_ ?_ ?_;rotate_left 1;(focus (show b0<=_;omega));(focus (refine⟨?_,?_⟩<;>(try simp only[aM,hpl,ad,Lm,ai,seval,ah,al])<;>(try omega)));rotate_left 1)
          · exact⟨Nat.zero_le _,rfl⟩
          · rintro i ⟨hi,hno⟩
            by_cases hlt:i<T.length
            · obtain⟨x,hx⟩:∃ x,T[i]? = some x:=⟨_,List.getElem?_eq_getElem hlt⟩
              have hat:=dG hx
              have hii:(i:Int)<(T.length:Int):=by omega
              have d1:decide ((i:Int)<(T.length:Int))=true:=decide_eq_true hii
              have d2:decide (i<T.length)=true:=decide_eq_true hlt
              have wi:IntKind.i64.wrap ((i:Int)+1)=((i+1:Nat):Int):=aK
              by_cases hw:16<x.attrs.length
              · have e1:decide ((16:Int)<(x.attrs.length:Int))=true:=cn
                have e2:decide (16<x.attrs.length)=true:=decide_eq_true hw
                have hr:js T=true:=by unfold js;exact ew hx e2
                rw[if_pos hr]
                simp only[Lo]
                (repeat' first|simp only[aj,ag,results28,ntmps28,ap,d1,d2,hat,aG,hlt,hii,e1,e2,Lm,ai,seval,ah]|exact rfl|refine aa (v:=.any) ?_|((first|apply Ca|apply Cb)<;>intro hb)|refine Ai (by omega) ?_|(apply Ai<;>intro hb)|refine Fin.pure ?_ ?_ ?_|simp only[al])
              · have e1:decide ((16:Int)<(x.attrs.length:Int))=false:=aR
                have e2:decide (16<x.attrs.length)=false:=decide_eq_false hw
                have hno':=fg hx hno e2
                repeat' first|simp only[aj,ag,results28,ntmps28,ap,d1,d2,hat,aG,hlt,hii,e1,e2,wi,Lm,ai,seval,ah]|exact rfl|refine aa (v:=.any) ?_|((first|apply Ca|apply Cb)<;>intro hb)|refine Ai (by omega) ?_|(apply Ai<;>intro hb)
                all_goals ((refine au bu (i+1) [] ?_ ?_ ?_ ?_;rotate_left 2;(focus (show b0<=_;omega));(focus (refine⟨?_,?_⟩<;>(try simp only[aM,hpl,ad,wi,Lm,ai,seval,ah,al])<;>(try omega)))))
                all_goals (first|(show T.length-(i+1)<T.length-i;omega)|exact⟨hlt,hno'⟩|skip)
            · have hie:i=T.length:=by omega
              subst hie
              have d1:decide ((T.length:Int)<(T.length:Int))=false:=aR
              have d2:decide (T.length<T.length)=false:=aR
              rw[List.take_length]at hno
              have hr:js T=false:=hno
              rw[hr]
              simp only[Bool.false_eq_true,if_false]
              (repeat' first|simp only[aj,ag,results28,ntmps28,ap,d1,d2,hpl,ad,Lm,ai,seval,ah]|exact rfl|refine aa (v:=.any) ?_|((first|apply Ca|apply Cb)<;>intro hb)|refine Ai (by omega) ?_|(apply Ai<;>intro hb)|refine Fin.pure ?_ ?_ ?_|simp only[al])
    · have hb:bi v sp=([],8):=by unfold bi;rw[if_neg (by simp[h1]),if_pos (.inl h2)]
      have q:(az sp != 0)=true:=by simpa using h2
      rw[hb]
      simp only[Lo]
      generalize az sp=E at hc q
      refine aV call28 func28 rfl (by kernel_rfl) rfl ?_;intro b0 hb0
      (repeat' first|simp only[aj,ag,results28,ntmps28,ap,q,bx,ad,Bt,Bf,ai,seval,ah]|exact rfl|refine aa (v:=.any) ?_|(first|(refine ac ?_ (hm _) ?_)|(refine ab ?_ (fun _=>hm _) ?_)|(refine ac ?_ (hc _) ?_)|(refine ab ?_ (fun _=>hc _) ?_))|(refine aa (v:=.any) ?_)|((first|apply Ca|apply Cb)<;>intro hb)|refine Ai (by omega) ?_|(apply Ai<;>intro hb)|refine Fin.pure ?_ ?_ ?_|simp only[al])
  · rw [decide_eq_false h1]at hm
    have h8:ct v=8:=by
      unfold ct at h1 ⊢
      split
      · rfl
      · rename_i h;rw[if_neg h]at h1
        unfold ez at h1 ⊢
        split
        · rfl
        · rename_i h2;rw[if_neg h2]at h1;exact absurd rfl h1
    have hb:bi v sp=([],8):=by unfold bi;rw[if_pos h1,h8]
    rw[hb]
    simp only[Lo]
    refine aV call28 func28 rfl (by kernel_rfl) rfl ?_;intro b0 hb0
    (repeat' first|simp only[aj,ag,results28,ntmps28,ap,bx,ad,Bt,Bf,ai,seval,ah]|exact rfl|refine aa (v:=.any) ?_|(first|(refine ac ?_ (hm _) ?_)|(refine ab ?_ (fun _=>hm _) ?_))|(refine aa (v:=.any) ?_)|((first|apply Ca|apply Cb)<;>intro hb)|refine Ai (by omega) ?_|(apply Ai<;>intro hb)|refine Fin.pure ?_ ?_ ?_|simp only[al])
set_option maxRecDepth 100000 in
set_option maxHeartbeats 8000000 in
def yh (v:List Nd)(o:List UInt8)(hv:v.length<=900)(hok:∀ n∈v,n.okTo 999900/\n.i64)(ho:o.length<=aS)(nm:Nat):Ev cx 12 nm [.sl false 6 (v.map aG),.str o] am.nil (.tup [.str (dW v o).1,.int .i64 (dW v o).2]) []:=by
 have hok1:∀ n∈v,n.okTo 1000000/\n.i64:=fun n hn=>⟨eZ (hok n hn).1 (by decide),(hok n hn).2⟩
 have s1:=D5 v o (by omega) hok1 ho
 have hbl:=oc v o
 have hbf:=bare_fit (v:=v) (sp:=o) (B:=999900) hok
 have s2:=ye (bi v o).1 (by omega) (fun n hn=>eZ (hbf n hn).1 (by decide))
 have s3:=D7 (bU (bi v o).1).1 (by have:=s5 (bi v o).1;omega) (s4 (K:=1000000) (fun x hx=>eZ (hbf x hx).1 (by decide)))
 unfold oI at s1
 unfold rY at s2
 unfold dW
 have hp1:=ad (bi v o).1
 have hp2:=aF (bU (bi v o).1).1
 generalize jY (bU (bi v o).1).1=J at s3 ⊢
 generalize ed (bU (bi v o).1).1=JE at s3 ⊢
 generalize (bU (bi v o).1).1=T at s2 s3 hp2 ⊢
 generalize (bU (bi v o).1).2=TE at s2 ⊢
 generalize (bi v o).1=B at s1 s2 hp1 ⊢
 generalize (bi v o).2=BE at s1 ⊢
 by_cases h1:BE=0
 ·subst h1
  rw[if_neg (by simp)]
  by_cases h2:TE=0
  ·subst h2
   rw[if_neg (by simp)]
   refine aV call12 func12 rfl (by kernel_rfl) rfl ?_;intro b0 hb0;have zF:=Ai results12 ntmps12
   (repeat' first|simp only[aj,ag,zF,ap,hp1,hp2,ad,ai,seval,ah]|exact rfl|refine aa (v:=.any) ?_|((first|(refine ac ?_ (s1 _) ?_)|(refine ab ?_ (fun _=>s1 _) ?_));(focus (simp only[zF,ap,hp1,hp2,ad,ai,seval,ah]<;>exact rfl)))|((first|(refine ac ?_ (s2 _) ?_)|(refine ab ?_ (fun _=>s2 _) ?_));(focus (simp only[zF,ap,hp1,hp2,ad,ai,seval,ah]<;>exact rfl)))|((first|(refine ac ?_ (s3 _) ?_)|(refine ab ?_ (fun _=>s3 _) ?_));(focus (simp only[zF,ap,hp1,hp2,ad,ai,seval,ah]<;>exact rfl)))|((first|apply Ca|apply Cb)<;>intro hb)|refine Ai (by omega) ?_|(apply Ai<;>intro hb)|refine Fin.pure ?_ ?_ ?_|simp only[al])
  ·rw[if_pos h2]
   have q:(TE != 0)=true:=by simpa using h2
   refine aV call12 func12 rfl (by kernel_rfl) rfl ?_;intro b0 hb0;have zF:=Ai results12 ntmps12
   (repeat' first|simp only[aj,ag,zF,ap,q,hp1,hp2,ad,ai,seval,ah]|exact rfl|refine aa (v:=.any) ?_|((first|(refine ac ?_ (s1 _) ?_)|(refine ab ?_ (fun _=>s1 _) ?_));(focus (simp only[zF,ap,q,hp1,hp2,ad,ai,seval,ah]<;>exact rfl)))|((first|(refine ac ?_ (s2 _) ?_)|(refine ab ?_ (fun _=>s2 _) ?_));(focus (simp only[zF,ap,q,hp1,hp2,ad,ai,seval,ah]<;>exact rfl)))|((first|apply Ca|apply Cb)<;>intro hb)|refine Ai (by omega) ?_|(apply Ai<;>intro hb)|refine Fin.pure ?_ ?_ ?_|simp only[al])
 ·rw[if_pos h1]
  have q:(BE != 0)=true:=by simpa using h1
  refine aV call12 func12 rfl (by kernel_rfl) rfl ?_;intro b0 hb0;have zF:=Ai results12 ntmps12
  (repeat' first|simp only[aj,ag,zF,ap,q,hp1,ad,ai,seval,ah]|exact rfl|refine aa (v:=.any) ?_|(first|(refine ac ?_ (s1 _) ?_)|(refine ab ?_ (fun _=>s1 _) ?_))|((first|apply Ca|apply Cb)<;>intro hb)|refine Ai (by omega) ?_|(apply Ai<;>intro hb)|refine Fin.pure ?_ ?_ ?_|simp only[al])
set_option maxRecDepth 100000 in
set_option maxHeartbeats 8000000 in
def Bn (v:List Nd)(hv:v.length<=1000)(ha:∀ n∈v,n.attrs.length<=1000)(nm:Nat):Ev cx 10 nm [.sl false 6 (v.map aG)] am.nil (.own nm 0 v.length) [(nm,some ⟨6,v.map aG⟩)]:=by
 refine aV call10 func10 rfl (by kernel_rfl) rfl ?_;intro b0 hb0;have zF:=Ai results10 ntmps10
 repeat' first|simp only[aj,ag,zF,ap,ai,seval,ah]|exact rfl|refine aa (v:=.any) ?_|((first|apply Ca|apply Cb)<;>intro hb)|refine Ai (by omega) ?_|(apply Ai<;>intro hb)
 (refine xO bu (fun x:Nat=>v.length-x) (fun x=>x<=v.length) (b0+16) (fun x=>[(0,.sl false 6 (v.map aG)),(3,.own b0 0 x),(4,.int .i64 x)]) (fun x=>[(b0,⟨6,(v.take x).map aG⟩)]) (0) [none] ?_ ?_ ?_ ?_;rotate_left 1;(focus (show b0<=_;omega));(focus (refine⟨?_,?_⟩<;>(try simp only[aM,pI,ad,aB,List.take_zero,Lo,List.length_nil,Lm,ai,seval,ah,al])<;>(try omega)));rotate_left 1)
 ·exact Nat.zero_le _
 ·intro k hk
  by_cases hlt:k<v.length
  ·obtain⟨x,hx⟩:∃ x,v[k]? = some x:=⟨_,List.getElem?_eq_getElem hlt⟩
   have hat:=dG hx
   have hxa:=ha x (List.mem_of_getElem? hx)
   have d1:decide ((k:Int)<(v.length:Int))=true:=cn
   have d2:decide (k<v.length)=true:=decide_eq_true hlt
   have hki:(k:Int)<(v.length:Int):=by omega
   have hwk:IntKind.i64.wrap ((k:Int)+1)=((k+1:Nat):Int):=aK
   have hkl:(v.take k).length=k:=by rw[List.length_take];omega
   have htk:((v.take k).map aG).take k=(v.take k).map aG:=List.take_of_length_le (by rw[Lm,hkl];omega)
   have hta:(x.attrs.map bh).take x.attrs.length=x.attrs.map bh:=bF _ _
   have hsn:(v.take (k+1)).map aG=(v.take k).map aG++[aG x]:=by
    obtain⟨h1,h2⟩:=List.getElem?_eq_some_iff.1 hx
    rw[List.take_succ_eq_append_getElem h1,h2];simp
   repeat' first|simp only[aj,ag,zF,ap,ad,ae,hat,aG,hlt,hki,d1,d2,hwk,htk,hkl,hta,mJ,List.nil_append,List.length_nil,Nat.zero_add,Lm,ai,seval,ah]|exact rfl|refine aa (v:=.any) ?_|((first|apply Ca|apply Cb)<;>intro hb)|refine Ai (by omega) ?_|(apply Ai<;>intro hb)
   all_goals ((refine uJ bu (k+1) [some (b0+320)] ?_ ?_ ?_ ?_;rotate_left 2;(focus (show b0<=_;omega));(focus (refine⟨?_,?_⟩<;>(try simp only[aM,pI,hwk,hsn,htk,hkl,hta,aG,aB,ad,ae,md,vt _ _ (ad _),jT,rD _ _ (ad _),AM,aQ,List.length_append,List.length_cons,List.length_nil,Lm,ai,seval,ah,al])<;>(try omega)))))
   all_goals (first|(show v.length-(k+1)<v.length-k;omega)|exact hlt|skip)
  ·have hkm:k=v.length:=by omega
   subst hkm
   have d1:decide ((v.length:Int)<(v.length:Int))=false:=aR
   have d2:decide (v.length<v.length)=false:=aR
   ((repeat' first|simp only[aj,ag,zF,ap,d1,d2,ad,List.take_length,Lm,ai,seval,ah]|exact rfl|refine aa (v:=.any) ?_|((first|apply Ca|apply Cb)<;>intro hb)|refine Ai (by omega) ?_|(apply Ai<;>intro hb));(all_goals (first|(refine Fin.auto (r:=?_) (l:=?_) ?_ ?_ ?_ ?_ ?_ ?_ ?_;rotate_left 1;(simp only[zF,be,bA,aU,bd,d1,d2,ad,List.take_length,Lm,ai,seval,ah]);(exact rfl);rotate_left 1;(simp only[V.owns,ownsL,List.cons_append,List.nil_append]);(exact rfl);all_goals (try simp only[zF,be,bA,aU,bd,d1,d2,ad,List.take_length,Lm,rT,ai,seval,ah]);all_goals (try simp only[al]))|skip)))
def Ee (v:List Nd)(hv:v.length<=1000)(ha:∀ n∈v,n.attrs.length<=1000)(nm:Nat):Ev cx 10 nm [.sl false 6 (v.map aG)] am.nil (.sl false 6 (v.map aG)) []:=by
 have hpl:=ad v
 have htk:(v.map aG).take v.length=v.map aG:=bF _ _
 refine Ev.freeze (Bn v hv ha nm) ?_ ?_
 ·simp only[aj,ag,ap,hpl,htk,Lm,ai,seval,ah]<;>omega
 ·simp only[aj,ag,ap,hpl,htk,Lm,ai,seval,ah]
set_option maxRecDepth 100000 in
set_option maxHeartbeats 8000000 in
def oV (v:List Nd)(o:List UInt8)(hv:v.length<=aS)(hok:∀ x∈v,x.okTo aS/\x.i64)(ho:o.length<=aS)(nm:Nat):Ev cx 3 nm [.sl false 6 (v.map aG),.str o] am.nil (.bool true) []:=by
 have hgr:=xF v 100 5000 (by omega) (by omega) hv (fun x hx=>(hok x hx).1)
 cases hg:jV v 100 5000 with
 | true =>
  rw[hg]at hgr
  refine aV call3 func3 rfl (by kernel_rfl) rfl ?_;intro b0 hb0
  (repeat' first|simp only[aj,ag,results3,ntmps3,ap,bx,ad,ai,seval,ah]|exact rfl|refine aa (v:=.any) ?_|(first|(refine ac ?_ (hgr _) ?_)|(refine ab ?_ (fun _=>hgr _) ?_))|(refine aa (v:=.any) ?_)|((first|apply Ca|apply Cb)<;>intro hb)|refine Ai (by omega) ?_|(apply Ai<;>intro hb)|refine Fin.pure ?_ ?_ ?_|simp only[al])
 | false =>
  rw[hg]at hgr
  obtain⟨hv1,hv2⟩:=rP (by omega) (by omega) hg
  have hvo:∀ n∈v,n.okTo 999900/\n.i64:=fun n hn=>⟨eZ (hv2 n hn).2.1 (by decide),(hok n hn).2⟩
  by_cases hl:o.length<=1000
  ·have d1:decide ((1000:Int)<(o.length:Int))=false:=aR
   have d2:decide (1000<o.length)=false:=aR
   have htw:=Ee v (by omega) (fun n hn=>by have:=(hv2 n hn).1;omega)
   have a1:=EX v o hv hvo ho
   have a2:=yh v o (by omega) hvo ho
   have hsm:=Bp v v hv hv (fun x hx=>(hok x hx).1.1) (fun x hx=>(hok x hx).1.1)
   rw[decide_eq_true rfl]at hsm
   generalize (dW v o).1=x at a1 a2
   generalize (dW v o).2=e at a1 a2
   have q1:(e==e)=true:=by simp
   have q2:(x==x)=true:=by simp
   refine aV call3 func3 rfl (by kernel_rfl) rfl ?_;intro b0 hb0
   (repeat' first|simp only[aj,ag,results3,ntmps3,ap,d1,d2,q1,q2,ad,Lm,ai,seval,ah]|exact rfl|refine aa (v:=.any) ?_|((first|(refine ac ?_ (a1 _) ?_)|(refine ab ?_ (fun _=>a1 _) ?_));(focus (simp only[results3,ntmps3,ap,d1,d2,q1,q2,ad,Lm,ai,seval,ah]<;>exact rfl)))|((first|(refine ac ?_ (a2 _) ?_)|(refine ab ?_ (fun _=>a2 _) ?_));(focus (simp only[results3,ntmps3,ap,d1,d2,q1,q2,ad,Lm,ai,seval,ah]<;>exact rfl)))|(first|(refine ac ?_ (hgr _) ?_)|(refine ab ?_ (fun _=>hgr _) ?_)|(refine ac ?_ (htw _) ?_)|(refine ab ?_ (fun _=>htw _) ?_)|(refine ac ?_ (hsm _) ?_)|(refine ab ?_ (fun _=>hsm _) ?_))|((first|apply Ca|apply Cb)<;>intro hb)|refine Ai (by omega) ?_|(apply Ai<;>intro hb)|refine Fin.pure ?_ ?_ ?_|simp only[al])
  ·have d1:decide ((1000:Int)<(o.length:Int))=true:=cn
   have d2:decide (1000<o.length)=true:=cn
   refine aV call3 func3 rfl (by kernel_rfl) rfl ?_;intro b0 hb0
   (repeat' first|simp only[aj,ag,results3,ntmps3,ap,d1,d2,ad,ai,seval,ah]|exact rfl|refine aa (v:=.any) ?_|(first|(refine ac ?_ (hgr _) ?_)|(refine ab ?_ (fun _=>hgr _) ?_))|((first|apply Ca|apply Cb)<;>intro hb)|refine Ai (by omega) ?_|(apply Ai<;>intro hb)|refine Fin.pure ?_ ?_ ?_|simp only[al])
def oU (xs:List V)(h:hY cx.P Tryz.f3.params.toList xs):Ev cx 3 0 xs am.nil (.bool true) []:=by
 rw[Tryz.params3]at h
 obtain⟨_,v1,_,rfl,h1,_,v2,_,rfl,h2,h3⟩:=h
 obtain rfl:=Cj h3
 obtain⟨l,rfl,hl,hs⟩:=A1 h1
 obtain⟨o,rfl,ho⟩:=fA jZ h2
 rw[uP y5 (by simp),uP jZ (by simp)]
 exact oV l o hl hs (by unfold aS;omega) 0
end Go.Proofs.YtlnlopnpcmahgaaGreatDoor
