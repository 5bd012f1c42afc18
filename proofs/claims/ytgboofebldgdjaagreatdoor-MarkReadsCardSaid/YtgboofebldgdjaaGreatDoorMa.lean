/-
 Texts joined: XSt,XSv,XSu,XIb,XLs,XLg,XLh,XLp,XLl,XIe,XIa,XIc,XIf,XIg.
-/
import Derived.Stop.Asserts
import Derived.RowKitTokens
import Derived.Test.YtgboofebldgdjaaGreatDoorR1
set_option linter.all false
namespace Go.Proofs.YtgboofebldgdjaaGreatDoor
set_option maxRecDepth 100000
set_option maxHeartbeats 32000000
open Go Go.RowKit Vm Go.Lib Tryz
def ym (T:List Tk)(e:Int):V:=.tup [.sl false 4 (T.map aY),.int .i64 e]
def zS (n:Nd)(k:Fo):List Tk:=if pR n k=0 then (Fo.cons n k .nil).toks else []
def KS (n:Nd)(k:Fo)(hk1:n.kind=1)(hg:(Fo.cons n k .nil).good 12 0=true)(hl:k.size+1<=512)(hok:∀ x∈n::k.flat,x.okTo aN/\x.i64)(nm:Nat):Ev cx 34 nm [.sl false 6 ((n::k.flat).map aC)] ah.nil (ym (zS n k) (pR n k)) []:=by
 unfold zS
 by_cases h:pR n k=0
 ·have h3:=xc n k hk1 hg hl hok _ _ nm (.inr ⟨h,rfl,rfl⟩)
  rw[if_pos h,h]
  generalize (Fo.cons n k .nil).toks=T at h3 ⊢
  have hpl:=ax T
  have htk:(T.map aY).take T.length=T.map aY:=bF _ _
  refine Ev.freeze h3 ?_ ?_
  ·simp only[cC,aK,aF,hpl,htk,Lm,au,aH,seval]<;>omega
  ·unfold ym
   simp only[cC,aK,aF,hpl,htk,Lm,au,aH,seval]
 ·have h3:=xc n k hk1 hg hl hok _ _ nm (.inl ⟨h,rfl,rfl⟩)
  rw[if_neg h]
  refine Ev.res_le h3 ?_
  unfold ym
  simp only[m9,cS,dQ,bR,jh,Lo,XJ]
def D4 (v:List Nd)(hv:v.length<=aN)(hok:∀ n∈v,n.okTo aN/\n.i64)(h:cQ v=none)(nm:Nat):Ev cx 34 nm [.sl false 6 (v.map aC)] ah.nil (ym [] 8) []:=by
 refine Ev.res_le (KT v hv hok h nm) ?_
 unfold ym
 simp only[m9,cS,dQ,bR,jh,Lo,XJ]
def RC {v:List Nd}{en:ZB}(h:cQ v=some en):∃ n k,n.kind=1/\v=n::k.flat/\(Fo.cons n k .nil).good 12 0=true/\k.size+1<=512/\v.length=k.size+1:=by
 obtain⟨n,k,h1,h2,h3,h4,_⟩:=mR.1 h
 have hl:v.length=k.size+1:=by rw[h2];simp[Fo.flat_length]
 exact⟨n,k,h1,h2,h3,by omega,hl⟩
def Fo.app_assoc:∀(F G H:Fo),(F.app G).app H=F.app (G.app H)
 | .nil,_,_=>rfl
 | .cons n k r,g,h=>by simp[Fo.app,r.app_assoc]
def Sg {α:Type}{a b:List α}{x:α}{i:Nat}(h:i=a.length):(a++x::b)[i]? = some x:=by subst h;simp
structure Wh where
 D:Fo
 R:Fo
 q:Nat
 i:Nat
def Wh.inv (k:Fo)(x:Wh):Prop:=x.D.app x.R=k/\x.q=1+x.D.size/\x.i=x.D.count
def FW {l:ZB}{i q:Nat}(h:l[i]? = some q):(l.map bH)[i]? = some (bH q)/\i<l.length:=by
 refine⟨by rw[WG,h];rfl,(AS.1 h).1⟩
def zl {n:Nd}{K:Nat}(h:n.okTo K)(h30:n.attrs.length<=30)(k:Nat):(⟨k,n.name,aV n.attrs,[]⟩:Tk).okTo K/\(aV n.attrs).length<=30:=by
 obtain⟨h1,h2,h3,h4,h5⟩:=h
 have hl:(aV n.attrs).length=n.attrs.length:=by simp[aV]
 refine⟨⟨by rw[hl];exact h1,h3,by simp,fun a ha=>?_⟩,by omega⟩
 simp only[aV,Wn]at ha
 obtain⟨b,hb,rfl⟩:=ha
 exact⟨(h5 b hb).2.1,(h5 b hb).2.2⟩
def Fo.toks_fit {K:Nat} : ∀(F:Fo),(∀ x∈F.flat,x.okTo K/\x.attrs.length<=30) -> ∀ t∈F.toks,t.okTo K/\t.attrs.length<=30
 | .nil,_=>fun t ht=>by simp[Fo.toks]at ht
 | .cons n k r,h=>fun t ht=>by
  have hn:=h n (by simp[Fo.flat])
  have hk:=Fo.toks_fit k (fun x hx=>h x (by simp[Fo.flat,hx]))
  have hr:=Fo.toks_fit r (fun x hx=>h x (by simp[Fo.flat,hx]))
  simp only[Fo.toks,Wf]at ht
  rcases ht with ht|ht
  ·split at ht
   ·simp only[WW]at ht
    subst ht
    exact⟨⟨by simp,by simp,hn.1.2.2.2.1,by simp⟩,by simp⟩
   ·split at ht
    ·simp only[WW]at ht
     subst ht
     exact zl hn.1 hn.2 3
    ·simp only[Lk,Wf,Ln,XU]at ht
     rcases ht with rfl|ht|rfl
     ·exact zl hn.1 hn.2 1
     ·exact hk t ht
     ·exact⟨⟨by simp,hn.1.2.2.1,by simp,by simp⟩,by simp⟩
  ·exact hr t ht
def cW (v:List Nd):List Tk×Int:=if dN v≠0 then ([],8) else if bj v=true then ([],8) else if 512<(oo v).toks.length then ([],4) else ((oo v).toks,0)
def cB (s:ZA):List Nd×Int:=if (gh s).2≠0 then ([],(gh s).2) else bX (gh s).1
def ic (v:List Nd)(sp:ZA):ZA×Int:=if (bM v sp).2≠0 then ([],(bM v sp).2) else if (cW (bM v sp).1).2≠0 then ([],(cW (bM v sp).1).2) else (ov (cW (bM v sp).1).1,gJ (cW (bM v sp).1).1)
def dW (s:ZA):ZA×Int:=if (cB s).2≠0 then ([],(cB s).2) else ic (cB s).1 []
def xd {n:Nd}{k:Fo}(hk:n.kind=1)(hg:(Fo.cons n k .nil).good 12 0=true)(hl:k.size+1<=512):cW (n::k.flat)=(zS n k,pR n k):=by
 unfold cW zS pR
 rw[if_neg (by simp[sj hk hg hl]),pc hg]
 split
 ·rfl
 ·split<;>simp
def D5 {v:List Nd}(h:(cW v).2=0):∃ n k,n.kind=1/\v=n::k.flat/\(Fo.cons n k .nil).good 12 0=true/\k.size+1<=512/\bj v=false/\(Fo.cons n k .nil).toks.length<=512/\(cW v).1=(Fo.cons n k .nil).toks:=by
 have hc:dN v=0:=by
  by_cases hc:dN v=0
  ·exact hc
  ·unfold cW at h;rw[if_pos hc]at h;cases h
 obtain⟨n,k,hk,hv,hg,hl⟩:=lc hc
 have ht:=xd hk hg hl
 rw[<- hv]at ht
 rw[ht]at h ⊢
 simp only at h ⊢
 have hT:zS n k=(Fo.cons n k .nil).toks:=by unfold zS;rw[if_pos h]
 refine⟨n,k,hk,hv,hg,hl,?_⟩
 unfold pR at h
 rw[<- hv]at h
 split at h
 ·cases h
 ·rename_i h1
  split at h
  ·cases h
  ·rename_i h2
   exact⟨by simpa using h1,by omega,hT⟩
def HN {v:List Nd}(h:(cW v).2≠0):(cW v).1=[]:=by
 unfold cW at h ⊢
 split
 ·rfl
 ·rename_i h1
  rw[if_neg h1]at h
  split
  ·rfl
  ·rename_i h2
   rw[if_neg h2]at h
   split
   ·rfl
   ·rename_i h3
    rw[if_neg h3]at h;exact absurd rfl h
def OQ (v:List Nd)(hv:v.length<=aN)(hok:∀ n∈v,n.okTo aN/\n.i64)(nm:Nat):Ev cx 34 nm [.sl false 6 (v.map aC)] ah.nil (ym (cW v).1 (cW v).2) []:=by
 cases hbo:cQ v with
 | none =>
  have:cW v=([],8):=by unfold cW dN;rw[hbo];rfl
  rw[this]
  exact D4 v hv hok hbo nm
 | some en =>
  obtain⟨n,k,h1,h2,h3,h4,h5⟩:=RC hbo
  subst h2
  rw[xd h1 h3 h4]
  exact KS n k h1 h3 h4 hok nm
def zU (v:List Nd):(cW v).1.length<=512:=by
 by_cases h:(cW v).2=0
 ·obtain⟨n,k,_,_,_,_,_,h6,h7⟩:=D5 h
  rw[h7];exact h6
 ·rw[HN h];simp
def zT {v:List Nd}{K:Nat}(hok:∀ x∈v,x.okTo K):∀ t∈(cW v).1,t.okTo K/\t.attrs.length<=30:=by
 by_cases h:(cW v).2=0
 ·obtain⟨n,k,h1,h2,h3,h4,h5,h6,h7⟩:=D5 h
  rw[h7]
  have hfl:(Fo.cons n k .nil).flat=v:=by rw[h2];simp[Fo.flat]
  refine Fo.toks_fit _ (by
   rw[hfl]
   intro x hx
   have hm:=(Fo.good_all h3 x (by rw[hfl];exact hx)).1
   exact⟨hok x hx,by have:=(ia hm).1;omega⟩)
 ·rw[HN h];intro t ht;cases ht
def Dw {s:ZA}(hs:s.length<=16384):(gh s).1.length<=600 /\ ∀ x∈(gh s).1,x.okTo 100000/\x.i64:=by
 unfold gh
 split
 ·exact⟨by simp,fun x hx=>by cases hx⟩
 ·rename_i h
  have h0:(bW s).2.2=0:=X6.1 h
  exact zo (toks_fit hs h0).1 (fun t ht=>Hy (Dg h0 t ht) Y6)
def wK {s:ZA}(hs:s.length<=16384):(cB s).1.length<=600 /\ ∀ x∈(cB s).1,x.okTo 100000/\x.i64:=by
 obtain⟨h1,h2⟩:=Dw hs
 unfold cB
 split
 ·exact⟨by simp,fun x hx=>by cases hx⟩
 ·exact⟨W4 (Gw _) h1,res_fit ZI h2⟩
def Rm {s:ZA}(h:(cB s).2≠0):(cB s).1=[]:=by
 unfold cB at h ⊢
 split
 ·rfl
 ·rename_i h1
  rw[if_neg h1]at h
  unfold bX at h ⊢
  split
  ·rfl
  ·rename_i h2
   rw[if_neg h2]at h
   split
   ·rfl
   ·rename_i h3
    rw[if_neg h3]at h
    split
    ·rename_i h4;rw[if_pos h4]at h;exact absurd rfl h
    ·rfl
def O2 {v:List Nd}{sp:ZA}(h:(ic v sp).2≠0):(ic v sp).1=[]:=by
 unfold ic at h ⊢
 split
 ·rfl
 ·rename_i h1
  rw[if_neg h1]at h
  split
  ·rfl
  ·rename_i h2
   rw[if_neg h2]at h
   simp only at h ⊢
   unfold ov;rw[if_neg h]
def LS {s:ZA}(h:(dW s).2≠0):(dW s).1=[]:=by
 unfold dW at h ⊢
 split
 ·rfl
 ·rename_i h1
  rw[if_neg h1]at h
  exact O2 h
def LU {s:ZA}(h:(dW s).2=0):(cB s).2=0/\dW s=ic (cB s).1 []:=by
 unfold dW at h ⊢
 by_cases h1:(cB s).2=0
 ·rw[if_neg (by simpa using h1)]
  exact⟨h1,rfl⟩
 ·rw[if_pos h1]at h;exact absurd h h1
def FK {s:ZA}(h:(dn s).isSome=true)(hl:s.length<=16384):az s=0:=dJ.2 ⟨hl,h⟩
def JM {s:ZA}(q:Bool)(h:(dn s).isSome=true)(hl:s.length<=1027):wz q s=0/\Bi q s=bZ q s:=by
 have hw:=bP q s
 have h0:wz q s=0:=by
  unfold wz
  rw[if_neg (fun e=>e (FK h Y6)),if_neg Y6]
 exact⟨h0,by unfold Bi;rw[if_pos h0]⟩
def yl {q:Bool}{d r:ZA}(n:Nat):bZ q (d++r.take n)=bZ q d++bZ q (r.take n):=Cw q d _
def Cd (c:UInt8):(IntKind.u8.wrap ((BitVec.ofInt IntKind.u8.bits (c.toNat:Int) &&& BitVec.ofInt IntKind.u8.bits 192).toNat:Int)==128)=qU c:=by
 have:∀ n:Fin 256,(IntKind.u8.wrap ((BitVec.ofInt IntKind.u8.bits (n.val:Int) &&& BitVec.ofInt IntKind.u8.bits 192).toNat:Int)==128)=(decide (128<=n.val)&&decide (n.val<192)):=ZJ
 exact this ⟨c.toNat,c.toNat_lt⟩
def RZ {r:ZA}{n:Nat}(h:n<r.length):∃ b,r[n]? = some b:=⟨_,AT h⟩
def Hr (s:ZA)(q:Bool)(hd:(dn s).isSome=true)(hs:s.length<=1000000)(nm:Nat):Ev cx 135 nm [.str s,.bool q] ah.nil (.str (bZ q s)) []:=by
  refine aG call135 func135 results135 ntmps135 ?_;intro b0 hb0 zN
  (refine xR trivial trivial ?_)
  (have zF:=a9 @EJ @vx @Gb @Gc @gU @eC @ib @ed @oC;refine fu (fun x:ZA×ZA=>x.2.length) (fun x=>s=x.1++x.2/\(dn x.2).isSome=true) (b0+16) (fun x=>[(0,.str x.2),(1,.bool q),(5,.ptr b0 0 0)]) (fun x=>[(b0,bS false b0 (b0+1) (bZ q x.1)),(b0+1,rK (bZ q x.1))]) (([],s)) [some (b0+16),none] ?_ ?_)
  · exact⟨rfl,hd⟩
  · rintro ⟨d,r⟩ ⟨hsr,hr⟩
    simp only at hsr hr
    have hlen:d.length+r.length<=1000000:=by rw[hsr]at hs;simpa using hs
    have hwd:=bP q d
    by_cases hne:r=[]
    · subst hne
      have e0:(([]:ZA)==[])=true:=rfl
      have e1:d=s:=by rw[hsr];simp
      subst e1
      have hll:(bZ q d).length<=aN:=by unfold aN;omega
      (have zF:=e0;repeat' first|refine wS ?_|exact wE|refine ab wM [b0,b0+1] (qP false b0 (b0+1) (bZ q d) _ _ hll Y6 wM wM ac Y6 Y6) wM ?_|((first|apply b7|apply cM)<;>intro hb)|refine Ai Y6 ?_|(apply Ai<;>intro hb)|apply Fin.pure|simp only[aB])
    · have e0:(r==[])=false:=If hne
      have hrl:0<r.length:=Wl.2 hne
      obtain⟨j,j1,j2,j3,j4⟩:=KR hr (k:=min r.length 1024) Y6
      have hmin:min (r.length:Int) 1024=((min r.length 1024:Nat):Int):=Y6
      generalize hk0:min r.length 1024=k0 at *
      (refine xR (a2 e0 hmin) trivial ?_)
      (have zF:=a4 @nk @iU @ib @ed;refine fu (fun x:Nat=>j-x) (fun x=>k0<=x/\x<=j) (b0+16) (fun x=>[(0,.str r),(1,.bool q),(5,.ptr b0 0 0),(6,.int .i64 x)]) (fun x=>[(b0,bS false b0 (b0+1) (bZ q d)),(b0+1,rK (bZ q d))]) (k0) [some b0,some (b0+1)] ?_ ?_)
      · exact⟨IS _,j1⟩
      · rintro n ⟨hn1,hn2⟩
        have hnr:n<=r.length:=Y6
        by_cases hgo:n<r.length /\ ∀ b,r[n]? = some b->qU b=true
        · obtain⟨hlt,hcb⟩:=hgo
          obtain⟨b,hb⟩:=RZ hlt
          have hc:=hcb b hb
          have hca:=Cd b
          rw[hc]at hca
          have hnj:n≠j:=fun e=>by
            subst e
            have:=j4 b hb
            rw[hc]at this;cases this
          have hd1:decide (n<r.length)=true:=AI hlt
          have hwk:=eX n
          (refine xR (a5 hb hd1 hlt hca hwk) trivial ?_)
          all_goals ((have zF:=a5 @nk @iU @ib @ed hwk;refine c7 (n+1) [some b0,some (b0+1)] ?_ ?_))
          all_goals (first|(show j-(n+1)<j-n;omega)|(show k0<=n+1/\n+1<=j;omega)|skip)
        · have hstop:∀ b,r[n]? = some b->qU b=false:=by
            intro b hb
            cases hc:qU b with
            | false=>rfl
            | true=>exact absurd ⟨(AS.1 hb).1,fun b' hb'=>by rw[hb]at hb';cases hb';exact hc⟩ hgo
          obtain⟨hc1,hc2⟩:=OL hr hnr hstop
          have hn27:n<=1027:=Y6
          have htl:(r.take n).length=n:=by rw[WK];omega
          obtain⟨hp1,hp2⟩:=JM q hc1 Y6
          have hput:=PZ (r.take n) q (by unfold aN;omega)
          rw[hp1,hp2]at hput
          have hw2:=bP q (r.take n)
          have hne2:bZ q (r.take n)≠[]:=by
            intro e
            have:=congrArg List.length e
            simp only[List.length_nil]at this
            omega
          have hll:(bZ q d).length+(bZ q (r.take n)).length<=aN:=by unfold aN;omega
          have hint:(n:Int)<=(r.length:Int):=Y6
          have hx:bZ q d++bZ q (r.take n)=bZ q (d++r.take n):=(yl n).symm
          have hdl:(r.drop n).length=r.length-n:=by simp
          by_cases hlt:n<r.length
          · obtain⟨b,hb⟩:=RZ hlt
            have hca:=Cd b
            rw[hstop b hb]at hca
            have hd1:=AI hlt
            (have zF:=a7 hb hd1 hlt hca hnr hint @aD;have cF:=hput;repeat' first|refine wS ?_|exact wE|refine ab wM [b0,b0+1] (pz false b0 (b0+1) (bZ q d) _ _ (bZ q (r.take n)) hne2 hll Y6 wM wM ac Y6 Y6) wM ?_|((first|apply b7|apply cM)<;>intro hb)|refine Ai Y6 ?_|(apply Ai<;>intro hb))
            all_goals ((have zF:=a5 @nk @iU @ib @ed hx;refine c7 ((d++r.take n,r.drop n)) [some b0,some (b0+368)] ?_ ?_))
            all_goals (first|(show(r.drop n).length<r.length;omega)|(refine⟨?_,hc2⟩;rw[hsr,WV,List.take_append_drop])|skip)
          · have hd1:decide (n<r.length)=false:=WA hlt
            (have zF:=a5 hd1 hlt hnr hint @aD;have cF:=hput;repeat' first|refine wS ?_|exact wE|refine ab wM [b0,b0+1] (pz false b0 (b0+1) (bZ q d) _ _ (bZ q (r.take n)) hne2 hll Y6 wM wM ac Y6 Y6) wM ?_|((first|apply b7|apply cM)<;>intro hb)|refine Ai Y6 ?_|(apply Ai<;>intro hb))
            all_goals ((have zF:=a5 @nk @iU @ib @ed hx;refine c7 ((d++r.take n,r.drop n)) [some b0,some (b0+368)] ?_ ?_))
            all_goals (first|(show(r.drop n).length<r.length;omega)|(refine⟨?_,hc2⟩;rw[hsr,WV,List.take_append_drop])|skip)
def pG (t:Tk)(k:Nat):ZA:=[60]++t.name++fc (t.attrs.take k)
def xB (t:Tk):60::t.name=pG t 0:=by simp[pG,fc]
def Ek {t:Tk}{k:Nat}{a:Pr}(h:t.attrs[k]? = some a):pG t k++(32::(a.name++[61,34]++bZ true a.value++[34]))=pG t (k+1):=by
 unfold pG
 rw[B5 h];simp[nL]
def Si (t:Tk)(q y:Nat):bK true q (.own y 0 (t.name.length+1))=bS false q y (pG t 0):=by
 rw[<- xB,u5 false q y ZH];rfl
def xA (t:Tk)(k:Nat)(h:t.okTo 1000000)(hl:t.attrs.length<=30):(pG t k).length<=220000000:=by
 obtain⟨h1,h2,h3,h4⟩:=h
 have hw:=(tV (t:=⟨1,t.name,t.attrs.take k,t.text⟩) (n:=1000000) ZK h2 h3 (fun a ha=>h4 a (X7 ha))).1
 simp only at hw
 simp only[pG,List.length_append,List.length_cons,List.length_nil]
 omega
def r9 (t:Tk):pG t t.attrs.length=[60]++t.name++fc t.attrs:=by unfold pG;rw[WJ]
def OI (t:Tk)(h:t.okTo 1000000)(hat:gC t.attrs=true)(k3:Bool)(q2:((t.kind:Int)==2)=false)(q4:((t.kind:Int)==4)=false)(q3:((t.kind:Int)==3)=k3)(nm:Nat):Ev cx 81 nm [.agg (aY t)] ah.nil (.str (if k3 then (pG t t.attrs.length++[47])++[62] else pG t t.attrs.length++[62])) []:=by
 have hwl:=fun k=>xA t k h (by have:=(gq.1 hat).1;omega)
 obtain⟨hat1,hat2⟩:=gq.1 hat
 obtain⟨hl,hnl,htl,hal⟩:=h
 have hll1:(60::t.name).length<=aN:=by unfold aN;simp;omega
 have hbk:=Si t
 have hw0:=xB t
 refine aG call81 func81 results81 ntmps81 ?_;intro b0 hb0 zN
 (have zF:=a5 @aY.eq_1 q2 q4 @kB @aD;repeat' first|refine wS ?_ | refine ab wM [b0+128] (Ed false (b0+128) (60::t.name) ZH hll1 _ _ wM ac Y6) wM ?_ | refine Ai Y6 ?_)
 (have zF:=a9 @aA @ks @aY.eq_1 hbk hw0 @nk @iU @ib @ed;refine fu (fun x:Nat=>t.attrs.length-x) (fun x=>x<=t.attrs.length) (b0+16) (fun x=>[(1,.ptr b0 0 0),(3,.ptr (b0+1) 0 0),(24,.sl false 2 (t.attrs.map cZ)),(25,.int .i64 t.attrs.length),(26,.int .i64 x)]) (fun x=>[(b0,⟨4,[aY t]⟩),(b0+1,bS false (b0+1) (b0+2) (pG t x)),(b0+2,rK (pG t x))]) (0) [some b0,some (b0+128),some (b0+192)] ?_ ?_)
 ·exact WB _
 ·intro k hk
  by_cases hlt:k<t.attrs.length
  ·obtain⟨a,ha⟩:=js hlt
   obtain⟨hs1,hs2⟩:=hal a (By ha)
   have hat0:=wx ha
   have hd:=AI hlt
   have hwk:=eX k
   have hov:=hat2 k a hlt ha
   simp only[Pl,In,WD]at hov
   have hpv:=Hr a.value true (dJ.1 hov.2).2 hs2
   have hnx:=Ek ha
   have hew:=bP true a.value
   have l1:(a.name++[61,34]).length=a.name.length+2:=by simp
   have l2:(a.name++[61,34]++bZ true a.value).length=a.name.length+2+(bZ true a.value).length:=by simp;omega
   have hz:=hwl (k+1)
   have hz2:(pG t k).length+(32::(a.name++[61,34]++bZ true a.value++[34])).length<=aN:=by
    rw[<- List.length_append,hnx];unfold aN;omega
   (have zF:=a9 @aA @aY.eq_1 hat0 @cZ.eq_1 hd hlt l1 l2 @aD;have cF:=hpv;repeat' first|refine wS ?_ | refine ab wM [b0+1,b0+2] (pz false (b0+1) (b0+2) (pG t k) _ _ (32::(a.name++[61,34]++bZ true a.value++[34])) ZH hz2 Y6 wM wM ac Y6 Y6) wM ?_|refine gR [(1,6)] ?_ | refine Ai Y6 ?_)
   all_goals ((have zF:=a9 @aA @ks @aY.eq_1 hwk hnx @nk @iU @ib @ed;refine c7 (k+1) [some b0,some (b0+1),some (b0+240)] ?_ ?_))
   all_goals (first|(show t.attrs.length-(k+1)<t.attrs.length-k;omega)|(show k+1<=t.attrs.length;omega))
  ·have hke:k=t.attrs.length:=Y6
   subst hke
   have hd:decide (t.attrs.length<t.attrs.length)=false:=aL
   have hz:=hwl t.attrs.length
   have z1:(pG t t.attrs.length).length+1<=aN:=by unfold aN;omega
   have z2:(pG t t.attrs.length++[47]).length+1<=aN:=by simp only[List.length_append,List.length_cons,List.length_nil];unfold aN;omega
   have z3:(pG t t.attrs.length++[62]).length<=aN:=by simp only[List.length_append,List.length_cons,List.length_nil];unfold aN;omega
   have z4:((pG t t.attrs.length++[47])++[62]).length<=aN:=by simp only[List.length_append,List.length_cons,List.length_nil];unfold aN;omega
   cases k3 with
   | true =>
    (have zF:=a5 @aA @aY.eq_1 hd q3 @aD;repeat' first|refine wS ?_|exact wE|refine ab wM [b0+1,b0+2] (r7 false (b0+1) (b0+2) (pG t t.attrs.length) _ _ 47 z1 Y6 wM wM ac Y6 Y6) wM ?_|refine ab wM [b0+1,b0+80] (r7 false (b0+1) (b0+80) (pG t t.attrs.length++[47]) _ _ 62 z2 Y6 wM wM ac Y6 Y6) wM ?_|refine ab wM [b0+1,b0+96] (qP false (b0+1) (b0+96) ((pG t t.attrs.length++[47])++[62]) _ _ z4 Y6 wM wM ac Y6 Y6) wM ?_ | apply Fin.pure)
   | false =>
    (have zF:=a5 @aA @aY.eq_1 hd q3 @aD;repeat' first|refine wS ?_|exact wE|refine ab wM [b0+1,b0+2] (r7 false (b0+1) (b0+2) (pG t t.attrs.length) _ _ 62 z1 Y6 wM wM ac Y6 Y6) wM ?_|refine ab wM [b0+1,b0+80] (qP false (b0+1) (b0+80) (pG t t.attrs.length++[62]) _ _ z3 Y6 wM wM ac Y6 Y6) wM ?_ | apply Fin.pure)
def GV (t:Tk)(h:t.okTo 1000000)(hok:dy t=true)(nm:Nat):Ev cx 81 nm [.agg (aY t)] ah.nil (.str (fk t)) []:=by
 obtain⟨hl,hnl,htl,hal⟩:=h
 have hk0:=hok
 unfold dy at hk0
 rcases kP t.kind with ⟨q1,q3,q2,q4,hkd⟩|⟨q1,q3,q2,q4,hkd⟩|⟨q1,q3,q2,q4,hkd⟩|⟨q1,q3,q2,q4,hkd⟩|⟨q1,q3,q2,q4,hk1,hk3,hk2,hk4⟩
 ·rw[if_pos (.inl hkd)]at hk0
  simp only[In]at hk0
  have hw:fk t=pG t t.attrs.length++[62]:=by unfold fk;rw[if_neg Y6,if_neg Y6,if_neg Y6,r9]
  rw[hw]
  exact OI t ⟨hl,hnl,htl,hal⟩ hk0.1.2 false q2 q4 q3 nm
 ·rw[if_pos (.inr hkd)]at hk0
  simp only[In]at hk0
  have hw:fk t=(pG t t.attrs.length++[47])++[62]:=by unfold fk;rw[if_neg Y6,if_neg Y6,if_pos hkd,r9];simp
  rw[hw]
  exact OI t ⟨hl,hnl,htl,hal⟩ hk0.1.2 true q2 q4 q3 nm
 ·have hw:fk t=60::47::(t.name++[62]):=by unfold fk;rw[if_neg Y6,if_pos hkd];simp
  rw[hw]
  refine aG call81 func81 results81 ntmps81 ?_;intro b0 hb0 zN
  (have zF:=a5 @aY.eq_1 q1 q2 q3 q4;repeat' first|refine wS ?_|exact wE | refine Ai Y6 ?_ | apply Fin.pure)
 ·rw[if_neg Y6,if_neg Y6,if_pos hkd]at hk0
  simp only[In,WD]at hk0
  have hw:fk t=bZ false t.text:=by unfold fk;rw[if_pos hkd]
  rw[hw]
  refine aG call81 func81 results81 ntmps81 ?_;intro b0 hb0 zN
  (have zF:=a5 @aY.eq_1 q1 q2 q3 q4;have cF:=Hr t.text false (dJ.1 hk0.2).2 htl;repeat' first|refine wS ?_|exact wE | apply Fin.pure)
 ·rw[if_neg Y6,if_neg hk2,if_neg hk4]at hk0
  cases hk0
def ON {t:Tk}(h:dy t=true):fk t≠[]:=by
 unfold fk
 split
 ·rename_i hk
  unfold dy at h
  rw[if_neg Y6,if_neg Y6,if_pos hk]at h
  simp only[In,XH,Xu]at h
  intro e
  have h1:=(bP false t.text).1
  rw[e]at h1
  have:=Wl.2 h.1.2
  simp at h1
  exact h.1.2 h1
 ·split<;>simp
def Lr {α:Type}{p:α->Bool}{l:List α}{k:Nat}{x:α}(h:l[k]? = some x)(hp:p x=true):l.any p=true:=Xa.2 ⟨x,By h,hp⟩
def yX {l:List Tk}(h:(l.any fun t=>!dy t)=true):gJ l=8:=by unfold gJ;rw[if_pos (.inl h)]
def yW {l:List Tk}(h:lS l=true):gJ l=8:=by unfold gJ;rw[if_pos (.inr h)]
def m7 {l:List Tk}(h1:(l.any fun t=>!dy t)=false)(h2:lS l=false)(h:512<l.length\/16384<(cP l).length):gJ l=4:=by
 unfold gJ;rw[if_neg (by simp[h1,h2]),if_pos h]
def C7 {l:List Tk}(h1:(l.any fun t=>!dy t)=false)(h2:lS l=false)(h:¬(512<l.length\/16384<(cP l).length)):gJ l=0:=by
 unfold gJ;rw[if_neg (by simp[h1,h2]),if_neg h]
def C8 {l:List Tk}(h:gJ l=0):ov l=cP l:=by unfold ov;rw[if_pos h]
def jN {l:List Tk}{e:Int}(h:gJ l=e)(he:e≠0):ov l=[]:=by unfold ov;rw[if_neg Y6]
def zV:cP []=[]:=rfl
def rZ {l:List Tk}(hs:∀ t∈l,t.okTo 1000000/\t.attrs.length<=30)(hl:l.length<=512)(k:Nat):(cP (l.take k)).length<=111104063488:=by
 have h1:(cP (l.take k)).length<=(l.take k).length*217000124:=ql (fun t ht=>by
  obtain⟨⟨_,h2,h3,h4⟩,h30⟩:=hs t (X7 ht)
  have:=(tV h30 h2 h3 h4).2
  omega)
 have h2:(l.take k).length<=512:=by simp;omega
 exact W4 h1 (W4 (WX 217000124 h2) ZI)
def mO {l:List Tk}{k:Nat}(h:nw l k)(hn:∀ a b,l[k-1]? = some a->l[k]? = some b->0<k -> ¬(a.kind=4/\b.kind=4)):nw l (k+1):=by
 intro i a b hi ha hb
 by_cases e:i+1=k
 ·subst e
  exact hn a b (by simpa using ha) hb Y6
 ·exact h i a b Y6 ha hb
def MP (t:Tk)(h:t.okTo aN)(nm:Nat):Ev cx 79 nm [.agg (aY t)] ah.nil (.bool (!dy t)) []:=by
 have hc:=B9 t h
 unfold Rz at hc
 generalize dy t=b at hc ⊢
 cases b<;>(
  refine aG call79 func79 results79 ntmps79 ?_;intro b0 hb0 zN
  exact xP (a2 @aA @aY.eq_1) hc)
def QD (l:List Tk)(hl:l.length<=600)(hs:∀ t∈l,t.okTo 1000000/\t.attrs.length<=30)(nm:Nat):Ev cx 35 nm [.sl false 4 (l.map aY)] ah.nil (.tup [.str (ov l),.int .i64 (gJ l)]) []:=by
  have hlim:∀ t∈l,t.okTo aN:=fun t ht=>by
    obtain⟨⟨h1,h2,h3,h4⟩,_⟩:=hs t ht
    unfold aN
    exact⟨by omega,by omega,by omega,fun a ha=>by have:=h4 a ha;omega⟩
  have hcf:=pH l 79 [] (fun t=>!dy t) (fun t ht nm=>MP t (hlim t ht) nm) (by unfold aN;omega) rfl
  cases hany:(l.any fun t=>!dy t) with
  | true =>
    rw[hany]at hcf
    have he:=yX hany
    have hj:=jN he Y6
    refine aG call35 func35 results35 ntmps35 ?_;intro b0 hb0 zN
    exact xP (a2 he hj) hcf
  | false =>
    rw[hany]at hcf
    refine aG call35 func35 results35 ntmps35 ?_;intro b0 hb0 zN
    (refine xR trivial hcf ?_)
    (have zF:=@ax;refine fu (fun x:Nat=>l.length-x) (fun x=>x<=l.length/\nw l x) (b0+16) (fun x=>[(0,.sl false 4 (l.map aY)),(11,.sl false 4 (l.map aY)),(12,.int .i64 l.length),(13,.int .i64 x)]) (fun x=>[]) (0) [] ?_ ?_)
    · exact⟨WB _,fun i a b hi=>by omega⟩
    · rintro k ⟨hk,hadj⟩
      by_cases hlt:k<l.length
      · obtain ⟨t,ht⟩:∃ t,l[k]? = some t:=⟨_,AT hlt⟩
        have hat:=gO ht
        have hd1:=AI hlt
        have hwk:=eX k
        by_cases h0:k=0
        · subst h0
          have hg:nw l (0+1):=fun i a b hi=>by omega
          have hd9:decide ((0:Int)<(l.length:Int))=true:=bz
          (refine xR (a6 @aA hat @aY.eq_1 hd1 hd9 hlt) trivial ?_)
          all_goals ((have zF:=a3 @ax hwk (show IntKind.i64.wrap 1=1 from by decide);refine c7 (0+1) [] ?_ ?_))
          all_goals (first|(show l.length-(0+1)<l.length-0;omega)|exact⟨by omega,hg⟩|skip)
        · obtain⟨m,rfl⟩:∃ m,k=m+1:=⟨k-1,by omega⟩
          have hlt0:m<l.length:=Y6
          obtain⟨p,hp⟩:∃ p,l[m]? = some p:=⟨_,AT hlt0⟩
          have hpt:=gO hp
          have hd0:decide ((0:Int)<((m+1:Nat):Int))=true:=bz
          have hwm:IntKind.i64.wrap (((m+1:Nat):Int)-1)=((m:Nat):Int):=by rw[aX];omega
          have hcs:(((t.kind:Int)==4)=false/\nw l (m+1+1))\/(((t.kind:Int)==4)=true/\((p.kind:Int)==(t.kind:Int))=false/\nw l (m+1+1))\/(((t.kind:Int)==4)=true/\((p.kind:Int)==(t.kind:Int))=true/\gJ l=8):=by
            by_cases c2:t.kind=4
            · by_cases c1:p.kind=4
              · right;right
                exact⟨by rw[c2];rfl,by rw[c1,c2];rfl,yW (BN hp ht c1 c2)⟩
              · right;left
                refine⟨by rw[c2];rfl,If Y6,mO hadj (fun a b ha hb _ h=>?_)⟩
                rw[YO,hp]at ha;cases ha;exact c1 h.1
            · left
              refine⟨If Y6,mO hadj (fun a b ha hb _ h=>?_)⟩
              rw[ht]at hb;cases hb;exact c2 h.2
          rcases hcs with ⟨c1,hg⟩|⟨c1,c2,hg⟩|⟨c1,c2,he⟩
          · (refine xR (a2 @aA (a9 hat hpt @aY.eq_1 hd0 hd1 hlt hlt0 hwm c1)) trivial ?_)
            all_goals ((have zF:=a2 @ax hwk;refine c7 (m+1+1) [] ?_ ?_))
            all_goals (first|(show l.length-(m+1+1)<l.length-(m+1);omega)|exact⟨by omega,hg⟩|skip)
          · (refine xR (a3 @aA hat (a9 hpt @aY.eq_1 hd0 hd1 hlt hlt0 hwm c1 c2)) trivial ?_)
            all_goals ((have zF:=a2 @ax hwk;refine c7 (m+1+1) [] ?_ ?_))
            all_goals (first|(show l.length-(m+1+1)<l.length-(m+1);omega)|exact⟨by omega,hg⟩|skip)
          · have hj:=jN he Y6
            exact xP (a5 @aA hat hpt @aY.eq_1 (a9 hd0 hd1 hlt hlt0 hwm c1 c2 he hj)) trivial
      · have hke:k=l.length:=Y6
        subst hke
        have hd1:decide (l.length<l.length)=false:=aL
        have hadj':lS l=false:=oT.2 hadj
        by_cases h512:512<l.length
        · have he:=m7 hany hadj' (.inl h512)
          have hj:=jN he Y6
          have hd2:decide ((512:Int)<(l.length:Int))=true:=bz
          exact xP (a4 hd1 hd2 he hj) trivial
        · have hd2:decide ((512:Int)<(l.length:Int))=false:=aL
          have htl:=rZ hs Y6
          (refine xR (a2 hd1 hd2) trivial ?_)
          (have zF:=a9 @EJ @Gb @Gc @gU @eC @ib @ed @ax @zV;refine fu (fun x:Nat=>l.length-x) (fun x=>x<=l.length/\(cP (l.take x)).length<=16384) (b0+16) (fun x=>[(0,.sl false 4 (l.map aY)),(6,.ptr b0 0 0),(40,.sl false 4 (l.map aY)),(41,.int .i64 l.length),(42,.int .i64 x)]) (fun x=>[(b0,bS false b0 (b0+1) (cP (l.take x))),(b0+1,rK (cP (l.take x)))]) (0) [some (b0+80),none] ?_ ?_)
          · exact⟨WB _,by simp[cP]⟩
          · rintro j ⟨hj,hsz⟩
            by_cases hlt3:j<l.length
            · obtain⟨t,ht⟩:=js hlt3
              have hat:=gO ht
              have hd3:=AI hlt3
              have hwj:=eX j
              have htok:dy t=true:=by
                cases hh:dy t with
                | true=>rfl
                | false=>rw[Lr (p:=fun t=>!dy t) ht (by simp[hh])]at hany;cases hany
              have hwr:=GV t (hs t (By ht)).1 htok
              have hne:=ON htok
              have hnx:=xe ht
              have b2:=htl (j+1)
              have hll:(cP (l.take j)).length+(fk t).length<=aN:=by
                rw[hnx,List.length_append]at b2;unfold aN;omega
              have hll2:(cP (l.take (j+1))).length<=aN:=by unfold aN;omega
              by_cases hbig:16384<(cP (l.take (j+1))).length
              · have hbl:16384<(cP l).length:=by
                  refine Wi hbig ?_
                  conv=>rhs;rw[<- List.take_append_drop (j+1) l]
                  unfold cP
                  rw[List.flatMap_append,List.length_append];omega
                have he:=m7 hany hadj' (.inr hbl)
                have hjt:=jN he Y6
                have hd4:decide ((16384:Int)<((cP (l.take (j+1))).length:Int))=true:=bz
                (have zF:=a2 @aA (a9 hat @aY.eq_1 hd3 hlt3 hd4 he hjt hnx.symm @aD);have cF:=hwr;repeat' first|refine wS ?_|exact wE|refine ab wM [b0,b0+1] (pz false b0 (b0+1) (cP (l.take j)) _ _ (fk t) hne hll Y6 wM wM ac Y6 Y6) wM ?_|refine ab wM [b0,b0+128] (uo false b0 (b0+128) (cP (l.take (j+1))) _ _ Y6 wM wM ac Y6 Y6) wM ?_|((first|apply b7|apply cM)<;>intro hb)|refine Ai Y6 ?_|(apply Ai<;>intro hb)|apply Fin.pure|simp only[aB])
              · have hd4:decide ((16384:Int)<((cP (l.take (j+1))).length:Int))=false:=aL
                (have zF:=a8 @aA hat @aY.eq_1 hd3 hlt3 hd4 hnx.symm @aD;have cF:=hwr;repeat' first|refine wS ?_|exact wE|refine ab wM [b0,b0+1] (pz false b0 (b0+1) (cP (l.take j)) _ _ (fk t) hne hll Y6 wM wM ac Y6 Y6) wM ?_|refine ab wM [b0,b0+128] (uo false b0 (b0+128) (cP (l.take (j+1))) _ _ Y6 wM wM ac Y6 Y6) wM ?_|((first|apply b7|apply cM)<;>intro hb)|refine Ai Y6 ?_|(apply Ai<;>intro hb))
                all_goals ((have zF:=a7 @ax hwj hnx.symm @nk @iU @ib @ed;refine c7 (j+1) [some b0,some (b0+128)] ?_ ?_))
                all_goals (first|(show l.length-(j+1)<l.length-j;omega)|exact⟨by omega,by omega⟩|skip)
            · have hje:j=l.length:=Y6
              subst hje
              rw[WJ]at hsz
              have hd3:decide (l.length<l.length)=false:=aL
              have he:=C7 hany hadj' Y6
              have hjt:=C8 he
              have hll:(cP l).length<=aN:=by unfold aN;omega
              (have zF:=a3 hd3 he hjt;repeat' first|refine wS ?_|exact wE|refine ab wM [b0,b0+1] (qP false b0 (b0+1) (cP l) _ _ hll Y6 wM wM ac Y6 Y6) wM ?_|((first|apply b7|apply cM)<;>intro hb)|refine Ai Y6 ?_|(apply Ai<;>intro hb)|apply Fin.pure|simp only[aB])
def Cv (e:Int):V:=if e=0 then .val .nilIface else .iface 23 (.int .i64 e)
def kp (e:Int)(nm:Nat):Ev cx 23 nm [.int .i64 e] ah.nil (Cv e) []:=by
 unfold Cv
 by_cases h:e=0
 ·subst h
  rw[if_pos rfl]
  refine aG call23 func23 results23 ntmps23 ?_;intro b0 hb0 zN
  exact xP trivial trivial
 ·rw[if_neg h]
  have q:(e==0)=false:=by simpa using h
  refine aG call23 func23 results23 ntmps23 ?_;intro b0 hb0 zN
  (have zF:=q;repeat' first|refine wS ?_|exact wE|refine lY rfl (by kernel_rfl) ?_|((first|apply b7|apply cM)<;>intro hb)|refine Ai Y6 ?_|(apply Ai<;>intro hb)|apply Fin.pure|simp only[aB])
def o7 (e:Int):Cv e = .val .nilIface\/Cv e = .iface 23 (.int .i64 e):=by
 unfold Cv
 split
 ·exact .inl rfl
 ·exact .inr rfl
structure Pp where
 o:ZA
 t:ZA
 l:List Tk
 v:List Nd
def zu (p:Pp):Blk:=⟨4,[[.str p.o,.str p.t,.sl false 4 (p.l.map aY),.sl false 6 (p.v.map aC)]]⟩
def jX (f:Nat)(p:Pp)(e:Int)(p':Pp):Prop :=
 ∀(q:Nat) (M:ah) (nm:Nat),M q=some (zu p)->(∀ z,(M z).isSome=true->z∈[q])->q<nm->Ev cx f nm [.ptr q 0 0] M (Cv e) [(q,some (zu p'))]
def Rc (p:Pp)(ht:p.t.length<=aN):jX 10 p (bW p.t).2.2 { p with l:=(bW p.t).1 }:=by
 intro q M nm hq ho hn
 have hl:=Th p.t ht
 unfold Df at hl
 have hf:=kp (bW p.t).2.2
 unfold zu at hq ⊢
 simp only at hq ⊢
 generalize (bW p.t).1=L at hl ⊢
 generalize (bW p.t).2.1=A at hl ⊢
 generalize (bW p.t).2.2=E at hl hf ⊢
 rcases o7 E with hW|hW
 all_goals
  rw[hW]at hf ⊢
  refine aG call10 func10 results10 ntmps10 ?_;intro b0 hb0 zN
  have lq:=aq hb0 hq
  have z0:=aE lq;have z1:=ak lq;have z2:=ay lq;have z3:=ae lq
  (refine xR (a7 hq z0 z1 z2 z3 @ax @aa) (a2 hl hf) ?_)
  all_goals ((have zF:=a8 @ax @aa hq z0 z1 z2 z3 @aD;refine jW [(q,none)] [] ho))
def Jz (p:Pp)(hl:p.l.length<=600)(hs:∀ t∈p.l,t.okTo 1000000/\t.attrs.length<=30):jX 11 p (bU p.l) { p with v:=bJ p.l }:=by
 intro q M nm hq ho hn
 have hl:=ND p.l hl hs
 unfold eN at hl
 have hf:=kp (bU p.l)
 unfold zu at hq ⊢
 simp only at hq ⊢
 generalize bJ p.l=L at hl ⊢
 generalize bU p.l=E at hl hf ⊢
 rcases o7 E with hW|hW
 all_goals
  rw[hW]at hf ⊢
  refine aG call11 func11 results11 ntmps11 ?_;intro b0 hb0 zN
  have lq:=aq hb0 hq
  have z0:=aE lq;have z1:=ak lq;have z2:=ay lq;have z3:=ae lq
  (refine xR (a7 hq z0 z1 z2 z3 @ax @aa) (a2 hl hf) ?_)
  all_goals ((have zF:=a8 @ax @aa hq z0 z1 z2 z3 @aD;refine jW [(q,none)] [] ho))
def Dv (p:Pp)(hv:p.v.length<=aN)(hok:∀ n∈p.v,n.okTo 1000000/\n.i64):jX 12 p (bX p.v).2 { p with v:=(bX p.v).1 }:=by
 intro q M nm hq ho hn
 have hl:=DQ p.v hv hok
 unfold eN at hl
 have hf:=kp (bX p.v).2
 unfold zu at hq ⊢
 simp only at hq ⊢
 generalize (bX p.v).1=L at hl ⊢
 generalize (bX p.v).2=E at hl hf ⊢
 rcases o7 E with hW|hW
 all_goals
  rw[hW]at hf ⊢
  refine aG call12 func12 results12 ntmps12 ?_;intro b0 hb0 zN
  have lq:=aq hb0 hq
  have z0:=aE lq;have z1:=ak lq;have z2:=ay lq;have z3:=ae lq
  (refine xR (a7 hq z0 z1 z2 z3 @ax @aa) (a2 hl hf) ?_)
  all_goals ((have zF:=a8 @ax @aa hq z0 z1 z2 z3 @aD;refine jW [(q,none)] [] ho))
def NB (p:Pp)(hv:p.v.length<=aN)(hok:∀ n∈p.v,n.okTo 1000000/\n.i64)(hs:p.o.length<=aN):jX 16 p (bM p.v p.o).2 { p with v:=(bM p.v p.o).1 }:=by
 intro q M nm hq ho hn
 have hl:=LM p.v p.o hv hok hs
 unfold eN at hl
 have hf:=kp (bM p.v p.o).2
 unfold zu at hq ⊢
 simp only at hq ⊢
 generalize (bM p.v p.o).1=L at hl ⊢
 generalize (bM p.v p.o).2=E at hl hf ⊢
 rcases o7 E with hW|hW
 all_goals
  rw[hW]at hf ⊢
  refine aG call16 func16 results16 ntmps16 ?_;intro b0 hb0 zN
  have lq:=aq hb0 hq
  have z0:=aE lq;have z1:=ak lq;have z2:=ay lq;have z3:=ae lq
  (refine xR (a7 hq z0 z1 z2 z3 @ax @aa) (a2 hl hf) ?_)
  all_goals ((have zF:=a8 @ax @aa hq z0 z1 z2 z3 @aD;refine jW [(q,none)] [] ho))
def JA (p:Pp)(hv:p.v.length<=aN)(hok:∀ n∈p.v,n.okTo aN/\n.i64):jX 17 p (cW p.v).2 { p with l:=(cW p.v).1 }:=by
 intro q M nm hq ho hn
 have hl:=OQ p.v hv hok
 unfold ym at hl
 have hf:=kp (cW p.v).2
 unfold zu at hq ⊢
 simp only at hq ⊢
 generalize (cW p.v).1=L at hl ⊢
 generalize (cW p.v).2=E at hl hf ⊢
 rcases o7 E with hW|hW
 all_goals
  rw[hW]at hf ⊢
  refine aG call17 func17 results17 ntmps17 ?_;intro b0 hb0 zN
  have lq:=aq hb0 hq
  have z0:=aE lq;have z1:=ak lq;have z2:=ay lq;have z3:=ae lq
  (refine xR (a7 hq z0 z1 z2 z3 @ax @aa) (a2 hl hf) ?_)
  all_goals ((have zF:=a8 @ax @aa hq z0 z1 z2 z3 @aD;refine jW [(q,none)] [] ho))
def NC (p:Pp)(hl:p.l.length<=600)(hs:∀ t∈p.l,t.okTo 1000000/\t.attrs.length<=30):jX 18 p (gJ p.l) { p with t:=ov p.l }:=by
 intro q M nm hq ho hn
 have hl:=QD p.l hl hs
 have hf:=kp (gJ p.l)
 unfold zu at hq ⊢
 simp only at hq ⊢
 generalize ov p.l=L at hl ⊢
 generalize gJ p.l=E at hl hf ⊢
 rcases o7 E with hW|hW
 all_goals
  rw[hW]at hf ⊢
  refine aG call18 func18 results18 ntmps18 ?_;intro b0 hb0 zN
  have lq:=aq hb0 hq
  have z0:=aE lq;have z1:=ak lq;have z2:=ay lq;have z3:=ae lq
  (refine xR (a7 hq z0 z1 z2 z3 @ax @aa) (a2 hl hf) ?_)
  all_goals ((have zF:=a8 @ax @aa hq z0 z1 z2 z3 @aD;refine jW [(q,none)] [] ho))
set_option maxRecDepth 100000
set_option maxHeartbeats 32000000
open Go Go.RowKit Go.Extern.Stop Go.Stop Go.Extern
def Iw (t:Value)(w:World) :
  Calls Tryz.prog 21 #[.nilIface,t] w fun e w'=>e = .returned (.bool false)/\w'=w:=by
 go_enter Tryz.func21,Tryz.ntmps21
 go_wp2
 go_ret
 exact⟨rfl,rfl⟩
def xL (t:Addr)(w:World):(ReflectliteValue.unpack (.iface 53 (.pointer (some t)))).run Tryz.prog w
  = .ok (.agg #[.pointer (some ⟨9,53,none⟩),.pointer (some ⟨w.heap.size,0,none⟩),.int .u64 150]) (w.alloc (.cells #[.pointer (some t)] 53)):=Y7
def EE (a : Addr) (w : World) : (ReflectliteValue.methodAny (ReflectliteValue.valueError "reflectlite.Value.Type" 0) (fun t _ _ _ => ReflectliteType.toType t) #[.agg #[.pointer (some ⟨9, 53, none⟩), .pointer (some a), .int .u64 150]]).run Tryz.prog w
  = .ok (.iface 150 (.agg #[.pointer (some ⟨9,53,none⟩)])) w:=Y7
def uX (h : Value) (w : World) : (Go.method 415 150 (.agg #[h]) "Kind").run Tryz.prog w = .ok (254, h) w := by kernel_rfl
def ED (w:World):((ReflectliteType.abiMethod fun t=>(fun a:Nat=>Value.int IntKind.u8 (a:Int)) <$> Rtype.kind t) #[.pointer (some ⟨9,53,none⟩)]).run Tryz.prog w = .ok (.int .u8 22) w:=Y7
def EC (w:World):((ReflectliteType.abiMethod fun t=>(fun a:Nat=>Value.int IntKind.u8 (a:Int)) <$> Rtype.kind t) #[.pointer (some ⟨9,23,none⟩)]).run Tryz.prog w = .ok (.int .u8 2) w:=Y7
def VR (z:Sem Value)(f:TypeId->Addr->Nat->Nat->Sem Value)(v:Value) :
  ReflectliteValue.method z f #[v]=(do match <- ReflectliteValue.parts v with|none=>z|some (t,a,fl)=>f t a fl (fl % 32)):=rfl
def tv (a:Addr)(w:World):(ReflectliteValue.parts (.agg #[.pointer (some ⟨9,53,none⟩),.pointer (some a),.int .u64 150])).run Tryz.prog w = .ok (some (53,a,150)) w:=Y7
def BX (a p:Addr)(W:World)(ha:W.cell? a=some (.pointer (some p))) :
  (ReflectliteValue.method (ReflectliteValue.valueError "reflectlite.Value.IsNil" 0) ReflectliteValue.isNil #[.agg #[.pointer (some ⟨9, 53, none⟩), .pointer (some a), .int .u64 150]]).run Tryz.prog W = .ok (.bool false) W := by
 rw[VR]
 simp only[Sem.run_bind,tv,Result.andThen]
 simp[ReflectliteValue.isNil,loadVar,isAgg,underlying,Tryz.underlying53,ha,Result.andThen]
def uW (h : Value) (w : World) : (Go.method 415 150 (.agg #[h]) "Elem").run Tryz.prog w = .ok (265, .agg #[h]) w := by kernel_rfl
def nK (h : Value) (w : World) : (Go.method 415 150 (.agg #[h]) "Implements").run Tryz.prog w = .ok (266, .agg #[h]) w := by kernel_rfl
def mP (h : Value) (w : World) : (Go.method 415 150 (.agg #[h]) "AssignableTo").run Tryz.prog w = .ok (263, .agg #[h]) w := by kernel_rfl
def EB (w:World):(ReflectliteType.method ReflectliteType.elem #[.agg #[.pointer (some ⟨9,53,none⟩)]]).run Tryz.prog w = .ok (.iface 150 (.agg #[.pointer (some ⟨9,23,none⟩)])) w:=Y7
def sc (w : World) : (ReflectliteType.relation "Implements" ReflectliteType.implements_ #[.agg #[.pointer (some ⟨9, 23, none⟩)], .iface 150 (.agg #[.pointer (some ⟨9, 51, none⟩)])]).run Tryz.prog w = .ok (.bool true) w := by kernel_rfl
def Af (v:Value)(w:World):(ReflectliteType.typeOf #[.iface 23 v]).run Tryz.prog w = .ok (.iface 150 (.agg #[.pointer (some ⟨9,23,none⟩)])) w:=Y7
def sb (w : World) : (ReflectliteType.relation "AssignableTo" ReflectliteType.assignableTo #[.agg #[.pointer (some ⟨9, 23, none⟩)], .iface 150 (.agg #[.pointer (some ⟨9, 23, none⟩)])]).run Tryz.prog w = .ok (.bool true) w := by kernel_rfl
def xK (e:Int)(w:World):(ReflectliteValue.unpack (.iface 23 (.int .i64 e))).run Tryz.prog w
  = .ok (.agg #[.pointer (some ⟨9,23,none⟩),.pointer (some ⟨w.heap.size,0,none⟩),.int .u64 130]) (w.alloc (.cells #[.int .i64 e] 23)):=Y7
def Ad (w:World):(Rtype.elem? 53).run Tryz.prog w = .ok (some 23) w:=Y7
def Lz (p:Addr)(w:World):(ReflectliteValue.mk 23 p ReflectliteValue.flagAddr).run Tryz.prog w = .ok (.agg #[.pointer (some ⟨9,23,none⟩),.pointer (some p),.int .u64 386]) w:=Y7
def BW (a p:Addr)(W:World)(ha:W.cell? a=some (.pointer (some p))) :
  (ReflectliteValue.method (ReflectliteValue.valueError "reflectlite.Value.Elem" 0) ReflectliteValue.elem #[.agg #[.pointer (some ⟨9, 53, none⟩), .pointer (some a), .int .u64 150]]).run Tryz.prog W
   = .ok (.agg #[.pointer (some ⟨9,23,none⟩),.pointer (some p),.int .u64 386]) W:=by
 rw[VR]
 simp only[Sem.run_bind,tv,Result.andThen]
 simp[ReflectliteValue.elem,loadVar,isAgg,underlying,Tryz.underlying53,ha,Result.andThen,Ad,Lz]
def VW (v x:Value):ReflectliteValue.set #[v,x]=(do
  let (some (dst,a,fl),some (src,b,_)):=(<- ReflectliteValue.parts v,<- ReflectliteValue.parts x)
   | unsupported (.noEntry "extern/(internal/reflectlite.Value).Set.zeroValue")
  if fl / ReflectliteValue.flagAddr % 2 == 0 then unsupported (.noEntry "extern/(internal/reflectlite.Value).Set.unaddressable")
  let val <- loadVar src b
  if <- Rtype.directlyAssignable dst src then storeVar dst a val
  else if <- Rtype.implements dst src then
   if (<- Rtype.kind src)==20 then
    match val with
    | .nilIface => unsupported (.noEntry "extern/reflectlite: a nil value of one interface type handed on as a value of another")
    | _=>storeVar dst a val
   else storeVar dst a (.iface src val)
  else panicString ("reflectlite.Set: value of type " ++ (<- Rtype.spelt src) ++ " is not assignable to type " ++ (<- Rtype.spelt dst))
  pure (.tuple #[])):=rfl
def Ae (a:Addr)(w:World):(ReflectliteValue.parts (.agg #[.pointer (some ⟨9,23,none⟩),.pointer (some a),.int .u64 386])).run Tryz.prog w = .ok (some (23,a,386)) w:=Y7
def BZ (a:Addr)(w:World):(ReflectliteValue.parts (.agg #[.pointer (some ⟨9,23,none⟩),.pointer (some a),.int .u64 130])).run Tryz.prog w = .ok (some (23,a,130)) w:=Y7
def Ac (w:World):(Rtype.directlyAssignable 23 23).run Tryz.prog w = .ok true w:=Y7
def HX (ta b:Addr)(e:Int)(old:Value)(W:World)(hb:W.cell? b=some (.int .i64 e))(ht:W.cell? ta=some old)(hf:W.frozen? ta=false) :
  (ReflectliteValue.set #[.agg #[.pointer (some ⟨9,23,none⟩),.pointer (some ta),.int .u64 386],.agg #[.pointer (some ⟨9,23,none⟩),.pointer (some b),.int .u64 130]]).run Tryz.prog W
   = .ok (.tuple #[]) (W.setCell ta (.int .i64 e)):=by
 rw[VW]
 simp only[Sem.run_bind,Ae,BZ,Result.andThen]
 simp[ReflectliteValue.flagAddr,loadVar,isAgg,underlying,Tryz.underlying23,hb,Result.andThen,Ac,storeVar,Value.cells,storeCells,Addr.add]
 rw[run_store Tryz.prog W ta _ _ (by rfl)]
 simp[ht,hf]
def Iv (e:Int)(t:Addr)(old:Value)(w:World)(hg:w.cell? ⟨0,0,none⟩=some (.iface 150 (.agg #[.pointer (some ⟨9,51,none⟩)])))(ht0:w.cell? t=some old)(hf0:w.frozen? t=false) :
  Calls Tryz.prog 21 #[.iface 23 (.int .i64 e),.iface 53 (.pointer (some t))] w fun ev w'=>ev = .returned (.bool true)/\w'=((((w.alloc (.cells #[.pointer (some t)] 53)).alloc (.cells #[.pointer (some ⟨9,53,none⟩),.pointer (some ⟨w.heap.size,0,none⟩),.int .u64 150] 87)).alloc (.cells #[.pointer (some ⟨9,53,none⟩),.pointer (some ⟨w.heap.size,0,none⟩),.int .u64 150] 87)).alloc (.cells #[.int .i64 e] 23)).setCell t (.int .i64 e):=by
 have h6:=@run_callFunc_extern Tryz.prog 39 _ (fun args=>ReflectliteValue.unpack (args.getD 0 (.tuple #[]))) Tryz.func39 (by kernel_rfl) (by kernel_rfl) (by kernel_rfl) (by kernel_rfl)
 have h7 := @run_callFunc_extern Tryz.prog 40 _ (ReflectliteValue.methodAny (ReflectliteValue.valueError "reflectlite.Value.Type" 0) (fun t _ _ _ => ReflectliteType.toType t)) Tryz.func40 (by kernel_rfl) (by kernel_rfl) (by kernel_rfl) (by kernel_rfl)
 have h8 := @run_callFunc_extern Tryz.prog 41 _ (ReflectliteValue.method (ReflectliteValue.valueError "reflectlite.Value.IsNil" 0) ReflectliteValue.isNil) Tryz.func41 (by kernel_rfl) (by kernel_rfl) (by kernel_rfl) (by kernel_rfl)
 have h27:=@run_callFunc_extern Tryz.prog 254 _ (ReflectliteType.abiMethod fun t=>do pure (.int .u8 (<- Rtype.kind t))) Tryz.func254 (by kernel_rfl) (by kernel_rfl) (by kernel_rfl) (by kernel_rfl)
 have h37:=@run_callFunc_extern Tryz.prog 265 _ (ReflectliteType.method ReflectliteType.elem) Tryz.func265 (by kernel_rfl) (by kernel_rfl) (by kernel_rfl) (by kernel_rfl)
 have h38 := @run_callFunc_extern Tryz.prog 266 _ (ReflectliteType.relation "Implements" ReflectliteType.implements_) Tryz.func266 (by kernel_rfl) (by kernel_rfl) (by kernel_rfl) (by kernel_rfl)
 have h10:=@run_callFunc_extern Tryz.prog 89 _ ReflectliteType.typeOf Tryz.func89 (by kernel_rfl) (by kernel_rfl) (by kernel_rfl) (by kernel_rfl)
 have h35 := @run_callFunc_extern Tryz.prog 263 _ (ReflectliteType.relation "AssignableTo" ReflectliteType.assignableTo) Tryz.func263 (by kernel_rfl) (by kernel_rfl) (by kernel_rfl) (by kernel_rfl)
 have h11 := @run_callFunc_extern Tryz.prog 90 _ (ReflectliteValue.method (ReflectliteValue.valueError "reflectlite.Value.Elem" 0) ReflectliteValue.elem) Tryz.func90 (by kernel_rfl) (by kernel_rfl) (by kernel_rfl) (by kernel_rfl)
 have h12:=@run_callFunc_extern Tryz.prog 91 _ ReflectliteValue.set Tryz.func91 (by kernel_rfl) (by kernel_rfl) (by kernel_rfl) (by kernel_rfl)
 have tO:=Af
 have mA:=mP
 have a25:=sb
 have v25:=xK
 have f6:=xL
 have f7:=EE
 have mK:=uX
 have mE:=uW
 have mI:=nK
 have k27:=ED
 have k25:=EC
 have e27:=EB
 have i25:=sc
 have n8:=BX ⟨w.heap.size,0,none⟩ t ((w.alloc (.cells #[.pointer (some t)] 53)).alloc (.cells #[.pointer (some ⟨9,53,none⟩),.pointer (some ⟨w.heap.size,0,none⟩),.int .u64 150] 87)) ZH
 have hlt:0<w.heap.size:=by
  rcases X4 w.heap.size with h0|h
  ·simp[World.cell?,h0]at hg
  ·exact h
 have hg2:((w.alloc (.cells #[.pointer (some t)] 53)).alloc (.cells #[.pointer (some ⟨9,53,none⟩),.pointer (some ⟨w.heap.size,0,none⟩),.int .u64 150] 87)).cell? ⟨0,0,none⟩=some (.iface 150 (.agg #[.pointer (some ⟨9,51,none⟩)])):=by
  rw[World.cell?_alloc_lt _ _ ⟨0,0,none⟩ ZH,World.cell?_alloc_lt _ _ ⟨0,0,none⟩ hlt];exact hg
 have htl:t.block<w.heap.size:=by
  rcases YE t.block w.heap.size with h|h
  ·exact h
  ·simp[World.cell?,Ys h]at ht0
 have el:=BW ⟨w.heap.size,0,none⟩ t (((w.alloc (.cells #[.pointer (some t)] 53)).alloc (.cells #[.pointer (some ⟨9,53,none⟩),.pointer (some ⟨w.heap.size,0,none⟩),.int .u64 150] 87)).alloc (.cells #[.pointer (some ⟨9,53,none⟩),.pointer (some ⟨w.heap.size,0,none⟩),.int .u64 150] 87)) (by rw[World.cell?_alloc_lt _ _ ⟨w.heap.size,0,none⟩ ZK];simp)
 have st:=HX t ⟨w.heap.size+1+1+1,0,none⟩ e old ((((w.alloc (.cells #[.pointer (some t)] 53)).alloc (.cells #[.pointer (some ⟨9,53,none⟩),.pointer (some ⟨w.heap.size,0,none⟩),.int .u64 150] 87)).alloc (.cells #[.pointer (some ⟨9,53,none⟩),.pointer (some ⟨w.heap.size,0,none⟩),.int .u64 150] 87)).alloc (.cells #[.int .i64 e] 23))
  (by rw[World.cell?_alloc_at _ _ _ _ ZH];rfl)
  (by rw[World.cell?_alloc_lt _ _ t ZK,World.cell?_alloc_lt _ _ t ZK,World.cell?_alloc_lt _ _ t ZK,World.cell?_alloc_lt _ _ t htl];exact ht0)
  (by rw[World.frozen?_alloc_old _ _ t ZK,World.frozen?_alloc_old _ _ t ZK,World.frozen?_alloc_old _ _ t ZK,World.frozen?_alloc_old _ _ t (Nat.ne_of_lt htl)];exact hf0)
 go_enter Tryz.func21,Tryz.ntmps21
 go_wp2
 refine wp_loop_rounds 1 ?_
 rw[rounds_succ]
 go_wp2
 go_ret
 exact⟨rfl,rfl⟩
set_option maxRecDepth 100000
set_option maxHeartbeats 32000000
open Go Go.RowKit Vm Go.Lib Tryz
def Ct (t:V)(M:ah)(nm:Nat):Ev cx 21 nm [.val .nilIface,t] M (.bool false) []:=by
 refine⟨trivial,fun X w ρ cargs B hr hfr hB hlen hargs=>?_⟩
 match cargs,hlen,hargs with
 |⟨[v0,v1]⟩,hlen2,hargs =>
 have h0:=hargs 0 _ v0 rfl rfl
 cases h0
 refine .inl ⟨call21 _ _,(Iw v1 w).mono ?_⟩
 rintro e w' ⟨rfl,rfl⟩
 exact⟨_,rfl,(db.still (nm:=nm) hr (.bool false)).n⟩
def Cs (e:Int)(y:Nat)(old:V)(M:ah)(nm:Nat)(hM:M y=some ⟨1,[[old]]⟩):Ev cx 21 nm [.iface 23 (.int .i64 e),.iface 53 (.ptr y 0 0)] M (.bool true) [(y,some ⟨1,[[.int .i64 e]]⟩)]:=by
  refine⟨trivial,fun X w ρ cargs B hr hfr hB hlen hargs=>?_⟩
  match cargs,hlen,hargs with
  |⟨[v0,v1]⟩,hlen2,hargs =>
  have h0:=hargs 0 _ v0 rfl rfl
  have h1:=hargs 1 _ v1 rfl rfl
  cases h0 with
  | iface h0 =>
  cases h0
  cases h1 with
  | iface h1 =>
  cases h1 with
  | ptr hl =>
  rename_i l
  obtain⟨cs,el,hok,hh,k1,k2,k3,k4,k5⟩:=rT hr hM rfl hl
  have k1:1=l.sz:=k1
  have k2:1<=l.tot:=k2
  obtain⟨c0,hc0,_⟩:=k5 0 0 [old] old rfl rfl
  have htot:l.o<l.o+l.tot*l.sz:=by rw[<- k1];omega
  have hoff:l.o+0*l.sz+0=l.o:=Y6
  rw[hoff]at hc0 ⊢
  have hsz:l.o<cs.size:=Y6
  have ht0:w.cell? ⟨l.b,l.o,none⟩=some c0:=by simp[World.cell?,hh,hc0]
  have hf0:w.frozen? ⟨l.b,l.o,none⟩=false:=by
    have:=l.free htot
    simp only[World.frozen?,hh,Wo,XA]
    omega
  have hg:w.cell? ⟨0,0,none⟩=some (.iface 150 (.agg #[.pointer (some ⟨9,51,none⟩)])):=by
    have hq:=hr.glob 0
    rw[show cx.G 0 = .rp [.iface 150 (.agg [.val (.pointer (some ⟨9,51,none⟩))])] from rfl]at hq
    cases hq with
    | rp cv _ _ hc hu =>
      have a1:=hc 0 _ rfl
      have a2:=hu 0 _ rfl
      rw[a1]
      generalize cv 0=x at a2
      cases a2 with
      | iface a2 =>
        cases a2 with
        | agg hn hu =>
          rename_i cvs
          match cvs,hn,hu with
          |⟨[c]⟩,_,hu =>
            have:=hu 0 _ c rfl rfl
            cases this
            rfl
  have hblt:l.b<w.heap.size:=(hr.block_lt (by rw[hM];rfl) hl).1
  refine .inl ⟨call21 _ _,(Iv e ⟨l.b,l.o,none⟩ c0 w hg ht0 hf0).mono ?_⟩
  rintro ev w' ⟨rfl,hw'⟩
  generalize hw1:(((w.alloc (.cells #[.pointer (some ⟨l.b,l.o,none⟩)] 53)).alloc (.cells #[.pointer (some ⟨9,53,none⟩),.pointer (some ⟨w.heap.size,0,none⟩),.int .u64 150] 87)).alloc (.cells #[.pointer (some ⟨9,53,none⟩),.pointer (some ⟨w.heap.size,0,none⟩),.int .u64 150] 87)).alloc (.cells #[.int .i64 e] 23)=w1 at hw'
  have hk:∀ b,b<w.heap.size->w1.heap[b]? = w.heap[b]?:=fun b hb=>by
    rw[<- hw1]
    rw[Below.heap_alloc _ _ _ ZK,Below.heap_alloc _ _ _ ZK,Below.heap_alloc _ _ _ ZK,Below.heap_alloc _ _ _ hb]
  obtain⟨r1,m1⟩:=hr.grow (w':=w1) (by rw[<- hw1];simp;omega) (by rw[<- hw1];rfl) (by rw[<- hw1];rfl) (by rw[<- hw1];rfl) hk
  have hh1:w1.heap[l.b]? = some (.cells cs el l.frz):=(hk l.b hblt).trans hh
  have hb':(w1.setCell ⟨l.b,l.o,none⟩ (.int .i64 e)).heap[l.b]? = some (.cells (cs.setIfInBounds l.o (.int .i64 e)) el l.frz):=by
    simp only[World.setCell,Array.getElem?_modify,WQ,hh1,Option.map_some]
    rfl
  obtain⟨r2,m2⟩:=r1.write (k':=⟨1,[[.int .i64 e]]⟩) hM hl (w':=w1.setCell ⟨l.b,l.o,none⟩ (.int .i64 e)) (by simp[World.setCell]) rfl rfl rfl (fun b hb=>Below.heap_setCell _ _ _ _ hb) hb' k1 k2 (by simpa using k3)
    (fun i row hi=>by
      cases i with
      | zero=>cases hi;exact k1
      | succ i=>simp at hi)
    (fun i j row u hi hj=>by
      cases i with
      | zero =>
        cases hi
        cases j with
        | zero=>cases hj;exact⟨.int .i64 e,by rw[hoff,Array.getElem?_setIfInBounds_self_of_lt hsz],.int _ _⟩
        | succ j=>simp at hj
      | succ i=>simp at hi)
  subst hw'
  exact⟨_,rfl,ρ,r2,m1.trans m2,.bool true,fun _ _=>rfl⟩
inductive Way12:ZB->Pp->Int->Pp->Prop
 | done (p:Pp):Way12 [] p 0 p
 | bad {f:Nat} {fs:ZB} {p p':Pp} {e:Int} (h:jX f p e p') (he:e≠0):Way12 (f::fs) p e p'
 | ok {f:Nat} {fs:ZB} {p p1 p':Pp} {e:Int} (h:jX f p 0 p1) (t:Way12 fs p1 e p'):Way12 (f::fs) p e p'
def GH (q f:Nat):List V:=[.fnb f [.ptr q 0 0]]
structure RunSt where
 k:Nat
 p:Pp
def UZ {q:Nat}{l:ZB}{k f:Nat}(h:l[k]? = some f):(l.map (GH q))[k]? = some [.fnb f [.ptr q 0 0]]:=by rw[WG,h];rfl
def Ov {σ:Y8}{q:Nat}(h:aO σ q=some q)(f:Nat):renL σ (GH q f)=GH q f/\renOkL σ (GH q f)=true:=by
 unfold GH
 simp only[renL,V.ren,renOkL,V.renOk,h,Option.getD_some,Option.isSome_some,No,XJ]
def Ow {σ:Y8}{q:Nat}(h:aO σ q=some q)(fs:ZB):(fs.map (GH q)).all (renOkL σ)=true:=by
 rw[WI]
 intro r hr
 obtain⟨f,_,rfl⟩:=Wn.1 hr
 exact(Ov h f).2
def TC {σ:Y8}{q:Nat}(h:aO σ q=some q)(fs:ZB):(if plainLL (fs.map (GH q))=true then fs.map (GH q) else (fs.map (GH q)).map (renL σ))=fs.map (GH q):=by
 split
 ·rfl
 ·rw[YD]
  exact W7 fun f _=>(Ov h f).1
def TA {fs:ZB}{p p':Pp}{e:Int}(hw:Way12 fs p e p')(hl:fs.length<=6)(q y:Nat)(M:ah)(nm:Nat)(hq:M q=some (zu p))(hy:M y=some ⟨1,fs.map (GH q)⟩)(ho:∀ z,(M z).isSome=true->z∈[q,y])(hqy:q≠y)(hn:q<nm)(hny:y<nm) :
  Ev cx 9 nm [.own y 0 fs.length] M (.int .i64 e) [(y,none),(q,some (zu p'))]:=by
 unfold zu at hq ⊢
 have n1:=IT hqy
 have n2:=IT (WU hqy)
 refine aG call9 func9 results9 ntmps9 ?_;intro b0 hb0 zN
 have lq:=aq hb0 hq
 have ly:=aq hb0 hy
 have z0:=aE lq;have z1:=ak lq;have z2:=ay lq;have z3:=ae lq
 have y0:=fR ly
 have hσ:aO [(b0,b0),(q,q),(y,y)] q=some q:=by simp only[gy,z2,WQ,WS]
 have r1:=Ow hσ fs
 have r2:=TC hσ fs
 have l16:(q<b0+16)=True:=X0 Y6
 have l17:(y<b0+16)=True:=X0 Y6
 repeat' first|simp only[cC,aK,results9,ntmps9,aF,hq,hy,n1,n2,z0,z1,z2,z3,y0,Lm,au,aH,seval]|exact rfl|refine ao (v:=.any) ?_|((first|apply b7|apply cM)<;>intro hb)|refine Ai Y6 ?_|(apply Ai<;>intro hb)
 (refine v8 (fun x:RunSt=>fs.length-x.k) (fun x=>x.k<=fs.length/\Way12 (fs.drop x.k) x.p e p') (b0+16) (fun x=>[(2,.ptr b0 0 0),(6,.own y 0 fs.length),(7,.int .i64 fs.length),(8,.int .i64 x.k)]) (fun x=>[(b0,⟨1,[[.int .i64 0]]⟩),(q,⟨4,[[.str x.p.o,.str x.p.t,.sl false 4 (x.p.l.map aY),.sl false 6 (x.p.v.map aC)]]⟩),(y,⟨1,fs.map (GH q)⟩)]) ((RunSt.mk 0 p)) [some b0,some q,some y] ?_ ?_ ?_;(focus (refine⟨?_,?_⟩<;>(try simp only[bL,r1,r2,l16,l17,aS,XG,hq,hy,n1,n2,z0,z1,z2,z3,y0,ax,aa,am,Lm,au,aH,aB,seval])<;>(try omega))))
 ·exact⟨WB _,by simpa using hw⟩
 ·rintro ⟨k,p1⟩ ⟨hk,hw1⟩
  simp only at hk hw1 ⊢
  by_cases hlt:k<fs.length
  ·obtain⟨f,hf⟩:=js hlt
   have hd:fs.drop k=f::fs.drop (k+1):=by
    rw[W1 hlt]
    have:=(AS.1 hf).2
    rw[this]
   rw[hd]at hw1
   have hat:=UZ (q:=q) hf
   have d1:=AW k fs.length
   have d2:=AI hlt
   have hwk:=eX k
   cases hw1 with
   | bad h he =>
    have hs:=h
    unfold jX Cv zu at hs
    rw[if_neg he]at hs
    have hh:=Cs e b0 (.int .i64 0)
    repeat' first|simp only[cC,aK,results9,ntmps9,aF,hat,hlt,d1,d2,hwk,n1,n2,z0,z1,z2,z3,y0,Lm,au,aH,seval]|exact rfl|refine ao (v:=.any) ?_|refine ab ?_ [b0] (hh _ _ ?_) ?_ ?_|((refine fe (fi:=?_) ?_ ?_ [q] (hs _ _ _ ?_ ac Y6) ?_ ?_);rotate_left 1)|refine lY rfl (by kernel_rfl) ?_|((first|apply b7|apply cM)<;>intro hb)|refine Ai Y6 ?_|(apply Ai<;>intro hb)
    all_goals ((refine Fin.give [(q,none)] [y] ?_ ?_ ?_ ?_ ?_ (bc ho (by simp[ba,tgt]))<;>(try simp only[results9,ntmps9,aF,ax,aa,hq,hy,n1,n2,z0,z1,z2,z3,y0,aD,hH,au,aH,seval])<;>(try simp only[aB])<;>(try omega)))
   | ok h t =>
    rename_i p2
    have hs:=h
    unfold jX Cv zu at hs
    rw[if_pos rfl]at hs
    have hh:=fun M=>Ct (.iface 53 (.ptr b0 0 0)) M
    repeat' first|simp only[cC,aK,results9,ntmps9,aF,hat,hlt,d1,d2,hwk,n1,n2,z0,z1,z2,z3,y0,Lm,au,aH,seval]|exact rfl|refine ao (v:=.any) ?_|(first|(refine ad ?_ (hh _ _) ?_)|(refine ai ?_ (fun _=>hh _ _) ?_))|((refine fe (fi:=?_) ?_ ?_ [q] (hs _ _ _ ?_ ac Y6) ?_ ?_);rotate_left 1)|refine lY rfl (by kernel_rfl) ?_|((first|apply b7|apply cM)<;>intro hb)|refine Ai Y6 ?_|(apply Ai<;>intro hb)
    all_goals ((refine pX (RunSt.mk (k+1) p2) [some b0,some q,some y] ?_ ?_ ?_;(focus (refine⟨?_,?_⟩<;>(try simp only[bL,r1,r2,l16,l17,aS,XG,hwk,n1,n2,z0,z1,z2,z3,y0,ax,aa,am,Lm,au,aH,aB,seval])<;>(try omega)))))
    all_goals (first|(show fs.length-(k+1)<fs.length-k;omega)|exact⟨hlt,t⟩|skip)
  ·have hke:k=fs.length:=Y6
   subst hke
   rw[XV]at hw1
   cases hw1
   have d1:=pK fs.length fs.length
   have d2:decide (fs.length<fs.length)=false:=aL
   repeat' first|simp only[cC,aK,results9,ntmps9,aF,d1,d2,n1,n2,z0,z1,z2,z3,y0,Lm,au,aH,seval]|exact rfl|refine ao (v:=.any) ?_|((first|apply b7|apply cM)<;>intro hb)|refine Ai Y6 ?_|(apply Ai<;>intro hb)
   all_goals ((refine Fin.give [(q,none)] [y] ?_ ?_ ?_ ?_ ?_ (bc ho (by simp[ba,tgt]))<;>(try simp only[results9,ntmps9,aF,ax,aa,hq,hy,n1,n2,z0,z1,z2,z3,y0,aD,hH,au,aH,seval])<;>(try simp only[aB])<;>(try omega)))
def Ev.mem_le {f:FuncId}{nm:Nat}{args:List V}{M M':ah}{v:V}{eff:List (Nat×Option Blk)}(h:Ev cx f nm args M' v eff)(hle:S8 M M')(heq:M'.app eff=M.app eff):Ev cx f nm args M v eff:=by
 have hs:∀ x,((M' x).isSome=true)=((M x).isSome=true):=fun x=>by rw[me hle]
 refine⟨h.1,fun X w ρ cargs B hr hf hB hn hargs=>?_⟩
 have hbl:bQ ρ M'=bQ ρ M:=by funext b;simp only[bQ,hs]
 have hD:bV X ρ M'=bV X ρ M:=by funext b;simp only[bV,hs]
 obtain⟨r1,m1⟩:=hr.weaken hle
 refine(h.2 X w ρ cargs B (by rw[hbl];exact r1) hf (fun x hx=>⟨?_,(hB x hx).2⟩) hn (fun i u cv hi hc=>by rw[hD];exact hargs i u cv hi hc)).mono ?_
 ·cases hx2:M' x with
  | none=>rfl
  | some k =>
   have:=me hle x
   rw[hx2,(hB x hx).1]at this
   cases this
 ·rintro e w' ⟨cv,rfl,ρ',r,m,hv,hnn⟩
  rw[hbl,heq]at r
  rw[heq]at m hv
  exact⟨cv,rfl,ρ',r,m1.trans m,hv,hnn⟩
def HF {fs:ZB}{p p':Pp}{e:Int}(hw:Way12 fs p e p')(hl:fs.length<=6){k0:Blk}(hk:rz k0 (zu p))(q y:Nat)(M:ah)(nm:Nat)(hq:M q=some k0)(hy:M y=some ⟨1,fs.map (GH q)⟩)(ho:∀ z,(M z).isSome=true->z∈[q,y])(hqy:q≠y)(hn:q<nm)(hny:y<nm) :
  Ev cx 9 nm [.own y 0 fs.length] M (.int .i64 e) [(y,none),(q,some (zu p'))]:=by
 refine Ev.mem_le (TA hw hl q y (M.put q (some (zu p))) nm (ah.put_same _ _ _) (by rw[ah.put_ne _ _ (WU hqy)];exact hy) (fun z hz=>?_) hqy hn hny) (fun x=>?_) ?_
 ·by_cases e:z=q
  ·subst e;simp
  ·rw[ah.put_ne _ _ e]at hz;exact ho z hz
 ·by_cases e:x=q
  ·subst e;rw[hq,ah.put_same];exact hk
  ·rw[ah.put_ne _ _ e]
   have:=Dc M x
   exact this
 ·funext x
  refine ah.app_congr fun hx=>?_
  have e:x≠q:=fun e=>hx (by subst e;simp[al])
  exact ah.put_ne _ _ e
def SX:Nat:=10
def Fc:Nat:=11
def SY:Nat:=12
def L7:Nat:=16
def Fe:Nat:=17
def L8:Nat:=18
def jY {f:Nat}{p p':Pp}{e:Int}(h:jX f p e p')(he:e=0):jX f p 0 p':=by subst he;exact h
def K8 {p:Pp}(hv:p.v.length<=aN)(hok:∀ n∈p.v,n.okTo 999900/\n.i64)(hs:p.o.length<=aN):∃ p',Way12 [L7,Fe,L8] p (ic p.v p.o).2 p'/\((ic p.v p.o).2=0->p'.t=(ic p.v p.o).1):=by
  have hok1:∀ n∈p.v,n.okTo 1000000/\n.i64:=fun n hn=>⟨fF (hok n hn).1 ZI,(hok n hn).2⟩
  have s1:=NB p hv hok1 hs
  have hbl:=tz p.v p.o
  have hbf:=bare_fit (v:=p.v) (sp:=p.o) (B:=999900) hok
  unfold ic
  by_cases h1:(bM p.v p.o).2=0
  · rw [if_neg (by simpa using h1)]
    have s2:=JA { p with v:=(bM p.v p.o).1 } (by simp only;omega) (fun n hn=>⟨fF (hbf n hn).1 ZI,(hbf n hn).2⟩)
    simp only at s2
    by_cases h2:(cW (bM p.v p.o).1).2=0
    · rw[if_neg (by simpa using h2)]
      have s3:=NC { p with v:=(bM p.v p.o).1,l:=(cW (bM p.v p.o).1).1 } (by have:=zU (bM p.v p.o).1;simp only;omega) (zT (K:=1000000) (fun x hx=>fF (hbf x hx).1 ZI))
      simp only at s3 ⊢
      by_cases h3:gJ (cW (bM p.v p.o).1).1=0
      · rw[h3]
        exact⟨_,.ok (jY s1 h1) (.ok (jY s2 h2) (.ok (jY s3 h3) (.done _))),fun _=>rfl⟩
      · exact⟨_,.ok (jY s1 h1) (.ok (jY s2 h2) (.bad s3 h3)),fun h=>absurd h h3⟩
    · rw[if_pos h2]
      exact⟨_,.ok (jY s1 h1) (.bad s2 h2),fun h=>absurd h h2⟩
  · rw[if_pos h1]
    exact⟨_,.bad s1 h1,fun h=>absurd h h1⟩
def Eg {p:Pp}(ht:p.t.length<=16384)(fs:ZB)(e:Int)(G:Pp->Prop)(hb:(cB p.t).2≠0->e=(cB p.t).2)(hg:∀ l,(cB p.t).2=0 -> ∃ p2,Way12 fs { p with l:=l,v:=(cB p.t).1 } e p2/\G p2):∃ p',Way12 (SX::Fc::SY::fs) p e p'/\((cB p.t).2=0->G p'):=by
 have s1:=Rc p (by unfold aN;omega)
 have hpf:=ws ht
 unfold cB at hb hg ⊢
 by_cases h1:(bW p.t).2.2=0
 ·have hA:gh p.t=(bJ (bW p.t).1,bU (bW p.t).1):=by unfold gh;rw[if_neg (by simpa using h1)]
  rw[hA]at hb hg hpf ⊢
  simp only at hb hg hpf ⊢
  obtain⟨f1,f2⟩:=toks_fit ht h1
  have s2:=Jz { p with l:=(bW p.t).1 } f1 f2
  simp only at s2
  by_cases h2:bU (bW p.t).1=0
  ·rw[if_neg (by simpa using h2)]at hb hg ⊢
   have s3:=Dv { p with l:=(bW p.t).1,v:=bJ (bW p.t).1 } (by have:=hpf.1;simp only;unfold aN;omega) hpf.2
   simp only at s3
   by_cases h3:(bX (bJ (bW p.t).1)).2=0
   ·obtain⟨p2,w,g⟩:=hg (bW p.t).1 h3
    exact⟨_,.ok (jY s1 h1) (.ok (jY s2 h2) (.ok (jY s3 h3) w)),fun _=>g⟩
   ·rw[hb h3]
    exact⟨_,.ok (jY s1 h1) (.ok (jY s2 h2) (.bad s3 h3)),fun h=>absurd h h3⟩
  ·rw[if_pos h2]at hb ⊢
   rw[hb h2]
   exact⟨_,.ok (jY s1 h1) (.bad s2 h2),fun h=>absurd h h2⟩
 ·have hA:gh p.t=([],(bW p.t).2.2):=by unfold gh;rw[if_pos h1]
  rw[hA]at hb ⊢
  simp only at hb ⊢
  rw[if_pos h1]at hb ⊢
  rw[hb h1]
  exact⟨_,.bad s1 h1,fun h=>absurd h h1⟩
def Rl (s:ZA)(hs:s.length<=16384)(nm:Nat):Ev cx 4 nm [.str s] ah.nil (eN (cB s).1 (cB s).2) []:=by
 obtain⟨p',hw,hp⟩:=Eg (p:=⟨[],s,[],[]⟩) hs [] (cB s).2 (fun p2=>p2.v=(cB s).1) (fun _=>rfl) (fun l h=>⟨_,by simp only at h;rw[h];exact .done _,rfl⟩)
 simp only at hp
 have hr:=fun q y=>HF hw ZI (k0:=⟨4,[[.str [],.str s,.nils,.nils]]⟩) (by unfold zu;rw[vU];simp only[cS,dQ,iP,bR,V.le_refl,Lo,XJ]) q y
 unfold zu at hr
 simp only[Lc,Lo,List.length_cons,List.length_nil,GH,SX,Fc,SY]at hr
 have hno:=Rm (s:=s)
 generalize (cB s).1=v at hp hno ⊢
 generalize (cB s).2=E at hp hr hno ⊢
 unfold eN
 refine mW rfl call4 func4 rfl mixed (by kernel_rfl) rfl ?_;intro b0 hb0;have zN:=Ai results4 ntmps4
 (refine xR trivial trivial ?_)
 (refine nb qc (b0+16) ([(0,.str s)]) ([]) [] ?_ ?_ ?_;(focus (show b0<=_;omega));(focus (refine⟨?_,?_⟩<;>(try simp only[bL,au,reduceCtorEq,aB])<;>(try omega))))
 (refine xR trivial trivial ?_)
 by_cases hE:E=0
 ·subst hE
  have hv:=hp rfl
  subst hv
  (have zF:=a2 @ax @aa;repeat' first|refine wS ?_|exact wE|refine ab wM [b0+48,b0+176] (hr (b0+48) (b0+176) _ _ wM wM ac Y6 Y6 Y6) wM ?_ | apply Fin.pure)
 ·have hq:(E != 0)=true:=by simpa using hE
  have:=hno hE
  subst this
  (have zF:=a3 hq @ax @aa;repeat' first|refine wS ?_|exact wE|refine ab wM [b0+48,b0+176] (hr (b0+48) (b0+176) _ _ wM wM ac Y6 Y6 Y6) wM ?_ | apply Fin.pure)
def LR (s:ZA)(hs:s.length<=16384)(nm:Nat):Ev cx 6 nm [.str s] ah.nil (.tup [.str (dW s).1,.int .i64 (dW s).2]) []:=by
 obtain⟨p',hw,hp⟩:=Eg (p:=⟨[],s,[],[]⟩) hs [L7,Fe,L8] (dW s).2 (fun p2=>(dW s).2=0->p2.t=(dW s).1) (fun h=>by simp only at h ⊢;unfold dW;rw[if_pos h]) (fun l h=>by
  simp only at h ⊢
  obtain⟨f1,f2⟩:=wK hs
  have hc:dW s=ic (cB s).1 []:=by unfold dW;rw[if_neg (by simpa using h)]
  rw[hc]
  exact K8 (p:=⟨[],s,l,(cB s).1⟩) (by simp only;unfold aN;omega) (fun n hn=>⟨fF (f2 n hn).1 ZI,(f2 n hn).2⟩) ZH)
 have hp:(dW s).2=0->p'.t=(dW s).1:=fun h=>hp (LU h).1 h
 have hr:=fun q y=>HF hw ZI (k0:=⟨4,[[.str [],.str s,.nils,.nils]]⟩) (by unfold zu;rw[vU];simp only[cS,dQ,iP,bR,V.le_refl,Lo,XJ]) q y
 unfold zu at hr
 simp only[Lc,Lo,List.length_cons,List.length_nil,GH,SX,Fc,SY,L7,Fe,L8]at hr
 have hno:=LS (s:=s)
 generalize (dW s).1=x at hp hno ⊢
 generalize (dW s).2=E at hp hr hno ⊢
 refine mW rfl call6 func6 rfl mixed (by kernel_rfl) rfl ?_;intro b0 hb0;have zN:=Ai results6 ntmps6
 (refine xR trivial trivial ?_)
 (refine nb qc (b0+16) ([(0,.str s)]) ([]) [] ?_ ?_ ?_;(focus (show b0<=_;omega));(focus (refine⟨?_,?_⟩<;>(try simp only[bL,au,reduceCtorEq,aB])<;>(try omega))))
 (refine xR @aa trivial ?_)
 by_cases hE:E=0
 ·subst hE
  have hv:=hp rfl
  subst hv
  (have zF:=a2 @ax @aa;repeat' first|refine wS ?_|exact wE|refine ab wM [b0+48,b0+272] (hr (b0+48) (b0+272) _ _ wM wM ac Y6 Y6 Y6) wM ?_ | apply Fin.pure)
 ·have hq:(E != 0)=true:=by simpa using hE
  have:=hno hE
  subst this
  (have zF:=a3 hq @ax @aa;repeat' first|refine wS ?_|exact wE|refine ab wM [b0+48,b0+272] (hr (b0+48) (b0+272) _ _ wM wM ac Y6 Y6 Y6) wM ?_ | apply Fin.pure)
end Go.Proofs.YtgboofebldgdjaaGreatDoor
