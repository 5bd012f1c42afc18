/-
 Texts joined: XNv,XNw,XNx,XUf,XUg,XUh.
-/
import Derived.Test.YtgboofebldgdjaaGreatDoorMi
import Derived.Test.YtgboofebldgdjaaGreatDoorMl
set_option linter.all false
namespace Go.Proofs.YtgboofebldgdjaaGreatDoor
set_option maxRecDepth 100000
set_option maxHeartbeats 32000000
open Go Go.RowKit Vm Go.Lib Tryz
def tY (r s:ZA):Prop:=∃ w,s=w++r
def tY.refl (s:ZA):tY s s:=⟨[],rfl⟩
def tY.trans {a b c:ZA}(h1:tY a b)(h2:tY b c):tY a c:=by
 obtain⟨x,rfl⟩:=h1
 obtain⟨y,rfl⟩:=h2
 exact⟨y++x,(WV _ _ _).symm⟩
def tY.cons {c:UInt8}{r s:ZA}(h:tY (c::r) s):tY r s:=by
 obtain⟨x,rfl⟩:=h
 exact⟨x++[c],by simp⟩
def Bv {r s:ZA}(h:tY r s):s.drop (s.length-r.length)=r/\r.length<=s.length:=by
 obtain⟨x,rfl⟩:=h
 have:(x++r).length-r.length=x.length:=by simp
 rw[this]
 exact⟨XT,by simp⟩
def DY (s:ZA)(p:Nat):tY (s.drop p) s:=⟨s.take p,(List.take_append_drop p s).symm⟩
def oJ (s:ZA):tY (aT s) s:=⟨s.takeWhile cG,(Wk).symm⟩
def wl {s n r:ZA}(h:ep s=some (n,r)):tY r s:=⟨n,(e9 h).1⟩
def K4 {s v r:ZA}(h:gn s=some (v,r)):tY r s:=by
 obtain⟨a,h1,_⟩:=lf h
 obtain⟨q,_,rfl,_⟩:=kW h1
 exact⟨q::(a++[q]),by simp⟩
def B4 {s r:ZA}{a:Pr}(h:fY s=some (a,r)):tY r s:=by
 obtain⟨r1,t,h1,h2,h3⟩:=ko h
 have e1:=oJ r1
 rw[h2]at e1
 exact((K4 h3).trans (oJ t)).trans (e1.cons.trans (wl h1))
def Qf {s t:ZA}{k:Nat}(h:jB s=some (k,t)):tY t s:=by
 unfold jB at h
 split at h
 ·cases h;exact⟨[62],rfl⟩
 ·cases h;exact⟨[47,62],rfl⟩
 ·cases h
def OH {n:ZA}{l:List Pr}{s v:ZA}{u:Tk}(h:jV n l s=some (u,v)):tY v s :=
 rY (n:=n) (P:=fun _ s _ v=>tY v s) (fun _ s _ _ he=>(Qf he).trans (oJ s)) (fun _ s _ _ _ _ _ _ ha _ _ ih=>ih.trans ((B4 ha).trans (oJ s))) _ l s u v (IS _) h
def Rx {s r:ZA}{t:Tk}(h:j0 s=some (t,r)):tY r s:=by
 unfold j0 at h
 split at h
 ·rename_i w hw
  obtain rfl:=bG hw
  obtain⟨⟨n,r1⟩,h1,h2⟩:=WC.1 h
  obtain⟨r2,h3,h4⟩:=BY.1 h2
  cases h4
  have e1:=oJ r1
  rw[bG h3]at e1
  exact(e1.cons.trans (wl h1)).trans ⟨[47],rfl⟩
 ·obtain⟨⟨n,r1⟩,h1,h2⟩:=WC.1 h
  exact(OH h2).trans (wl h1)
def Q6 {s r:ZA}{t:Tk}(h:iT s=some (t,r)):tY r s:=by
 unfold iT at h
 split at h
 ·rename_i w hw
  obtain rfl:=bG hw
  exact(Rx h).trans ⟨[60],rfl⟩
 ·obtain⟨x,_,h2⟩:=BY.1 h
  cases h2
  exact⟨ct s,(Wk).symm⟩
def LC {s r:ZA}{a:Pr}(h:fY s=some (a,r)):2<=s.length:=by
 obtain⟨r1,t,h1,h2,h3⟩:=ko h
 obtain⟨e,hn,_,_⟩:=e9 h1
 have l1:=congrArg List.length e
 have l2:=dm r1
 have:=Wl.2 hn
 rw[h2]at l2
 simp only[List.length_append,List.length_cons]at l1 l2
 omega
def u4 {s:ZA}(h:s.length<=1):fY s=none:=by
 cases ha:fY s with
 | none=>rfl
 | some p =>
  obtain⟨a,r⟩:=p
  have:=LC ha
  omega
def Mx {s:ZA} :((aT s).length<s.length)=(cH s≠0):=by
 have:=dm s
 unfold cH
 exact propext Y6
def NZ (s u:ZA)(at':Nat)(hs:s.length<=500000)(h:s.drop at'=60::u)(h47:bY 47 u=none)(hn:ep u=none)(nm:Nat):Ev cx 60 nm [.str s,.int .i64 at'] ah.nil (DZ s (j0 u)) []:=by
 obtain⟨_,a1,a2,_⟩:=fT h
 have ht:j0 u=none:=by unfold j0;rw[h47];simp only[hn,Option.bind_none]
 have hwd:=rQ s (at'+1) Y6 a1
 rw[a2,A4 hn]at hwd
 have w0:=oR (a:=at') Y6
 rw[ht,cO]
 cases u with
 | nil =>
  have hd:decide (at'+1<s.length)=false:=WA (by have:=sd a2;omega)
  refine aG call60 func60 results60 ntmps60 ?_;intro b0 hb0 zN
  repeat' first|simp only[cC,aK,results60,ntmps60,aF,w0,hd,List.length_nil,Int.ofNat_zero,Y0,au,aH,seval]|exact rfl|refine ao (v:=.any) ?_|(first|(refine ad ?_ (hwd _) ?_)|(refine ai ?_ (fun _=>hwd _) ?_))|((first|apply b7|apply cM)<;>intro hb)|refine Ai Y6 ?_|(apply Ai<;>intro hb)
  (have zF:=@am;refine fu (fun x:Nat=>x) (fun x=>True) (b0+16) (fun x=>[(4,.ptr b0 0 0),(6,.ptr (b0+1) 0 0)]) (fun x=>[(b0,⟨4,[[.int .u8 0,.str [],.nils,.str []]]⟩),(b0+1,⟨4,[[.int .u8 1,.str [],.nils,.str []]]⟩)]) (0) [some b0,some (b0+304)] ?_ ?_)
  ·trivial
  ·intro x _
   exact xP @aY.eq_1 trivial
 | cons c t =>
  obtain⟨c1,c2,c3,c4⟩:=fT a2
  have hd:decide (at'+1<s.length)=true:=AI c2
  have q47:((c.toNat:Int)==47)=false:=by
   refine(show((c.toNat:Int)==47)=decide (c=47) from aW c 47).trans ?_
   rw[dF]at h47
   split at h47
   ·cases h47
   ·rename_i hc;exact WA hc
  refine aG call60 func60 results60 ntmps60 ?_;intro b0 hb0 zN
  (refine xR (a5 w0 hd c1 c2 q47) hwd ?_)
  (have zF:=@am;refine fu (fun x:Nat=>x) (fun x=>True) (b0+16) (fun x=>[(4,.ptr b0 0 0),(6,.ptr (b0+1) 0 0)]) (fun x=>[(b0,⟨4,[[.int .u8 0,.str [],.nils,.str []]]⟩),(b0+1,⟨4,[[.int .u8 1,.str [],.nils,.str []]]⟩)]) (0) [some b0,some (b0+304)] ?_ ?_)
  ·trivial
  ·intro x _
   exact xP @aY.eq_1 trivial
def It {c d:UInt8}{t:ZA}(h1:c≠62)(h2:¬(c=47/\d=62)):jB (c::d::t)=none:=by
 unfold jB
 split
 ·rename_i e;cases e;exact absurd rfl h1
 ·rename_i e;cases e;exact absurd ⟨rfl,rfl⟩ h2
 ·rfl
def E4 {c:UInt8}(h1:c≠62):jB [c]=none:=by
 unfold jB
 split
 ·rename_i e;cases e;exact absurd rfl h1
 ·rename_i e;cases e
 ·rfl
def TG {s t:ZA}{p:Nat}{c d:UInt8}(h:s.drop p=c::d::t):(s.drop p).take 2=[c,d]/\(s.drop p).take (p+2-p)=[c,d]:=by
 rw[h,show p+2-p=2 by omega];exact⟨rfl,rfl⟩
def TH (c d:UInt8):([c,d]==[47,62])=decide (c=47/\d=62):=by
 by_cases h:c=47/\d=62
 ·obtain⟨rfl,rfl⟩:=h;rfl
 ·rw[WA h]
  rw[Wb]
  intro e
  cases e
  exact h ⟨rfl,rfl⟩
def RD (c d:UInt8):decide ([c,d]=[47,62])=decide (c=47/\d=62):=by
 congr 1
 simp
structure TSu where
 l:List Pr
 rest:ZA
def Vj (s n r0:ZA)(x:TSu):Prop:=jV n x.l x.rest=jV n [] r0/\tY x.rest s/\x.l.length+x.rest.length<=500000
def NY (s u n r0:ZA)(at':Nat)(hs:s.length<=500000)(h:s.drop at'=60::u)(h47:bY 47 u=none)(hn:ep u=some (n,r0))(nm:Nat):Ev cx 60 nm [.str s,.int .i64 at'] ah.nil (DZ s (j0 u)) []:=by
  obtain⟨_,a1,a2,_⟩:=fT h
  have ht:j0 u=jV n [] r0:=by unfold j0;rw[h47];simp only[hn,Option.bind_some]
  have hwd:=rQ s (at'+1) Y6 a1
  rw[a2]at hwd
  rw[<- a2]at hn
  obtain⟨n1,n2,n3,n4⟩:=wh hn
  rw[a2]at n1 hn
  rw[n1]at hwd
  have w0:=oR (a:=at') Y6
  have w1:=Ef (a:=at'+1) (b:=n.length) Y6
  have hr0:s.length-r0.length=at'+1+n.length:=by rw[<- n2,Wd];omega
  have hsuf:tY r0 s:=by rw[<- n2];exact DY _ _
  have a1':at'+1<=s.length:=a1
  generalize hpn:at'+1+n.length=pn at *
  have hl0:=(Bv hsuf).2
  have hn0:(n==[])=false:=by simpa using n4
  rw[ht]
  obtain⟨c,t,rfl⟩:∃ c t,u=c::t:=by
    cases u with
    | nil =>
      obtain⟨e,hne,_,_⟩:=e9 hn
      exact absurd (Yr.1 e.symm).1 hne
    | cons c t=>exact⟨c,t,rfl⟩
  obtain⟨c1,c2,c3,c4⟩:=fT a2
  have hd:decide (at'+1<s.length)=true:=AI c2
  have q47:((c.toNat:Int)==47)=false:=by
    refine(show((c.toNat:Int)==47)=decide (c=47) from aW c 47).trans ?_
    rw[dF]at h47
    split at h47
    · cases h47
    · rename_i hc;exact WA hc
  refine aG call60 func60 results60 ntmps60 ?_;intro b0 hb0 zN
  repeat' first|simp only[aF,w0,w1,c1,c2,q47,Int.toNat_natCast,au,aH,seval]|refine ad ?_ (hwd _) ?_
  (refine v8 (fun x:TSu=>x.rest.length) (fun x=>Vj s n r0 x) (b0+16) (fun x=>[(0,.str s),(1,.int .i64 ((s.length-x.rest.length:Nat):Int)),(4,.ptr b0 0 0),(6,.ptr (b0+1) 0 0)]) (fun x=>[(b0,⟨4,[[.int .u8 0,.str [],.nils,.str []]]⟩),(b0+1,⟨4,[[.int .u8 1,.str n,.own (b0+2) 0 x.l.length,.str []]]⟩),(b0+2,⟨2,x.l.map cZ⟩)]) (⟨[],r0⟩) [some b0,some (b0+304),none] ?_ ?_ ?_;(focus (refine⟨?_,?_⟩<;>(try simp only[bL,am,hr0,Lo,List.length_nil,au,aB,seval])<;>(try omega))))
  · exact⟨rfl,hsuf,by show 0+r0.length<=500000;omega⟩
  · rintro ⟨xl,xr⟩ ⟨g1,g2,g3⟩
    dsimp only at g1 g2 g3 ⊢
    rw[<- g1]
    obtain⟨d1,d2⟩:=Bv g2
    have hbl:=kX s (s.length-xr.length) Y6 Y6
    obtain⟨p1,p2⟩:=lT (s:=s) (p:=s.length-xr.length) Y6
    rw[d1]at hbl p1 p2
    have hgz:=Mx (s:=xr)
    have hsl:=dm xr
    have hat:=JN s (s.length-xr.length+cH xr) Y6 p2
    rw[p1]at hat
    have w2:=Ef (a:=s.length-xr.length) (b:=cH xr) Y6
    have w3:=oR (a:=s.length-xr.length+cH xr) Y6
    have w4:=R8 (a:=s.length-xr.length+cH xr) Y6
    have htp:(xl.map cZ).take xl.length=xl.map cZ:=IN ZH
    have hnl:(xl.map cZ).length=xl.length:=Lm _
    have hz1:(0:Int)<=((s.length-xr.length+cH xr:Nat):Int):=Y6
    have hz2:((s.length-xr.length+cH xr:Nat):Int)<=((s.length-xr.length+cH xr+2:Nat):Int):=Y6
    generalize hk:cH xr=k at hbl hgz
    generalize hp:s.length-xr.length+k=p at *
    rw[hk,hp]at p1 p2 hat w2 w3 w4 hz1 hz2
    have hkn:(((k:Nat):Int)==0)=(k==0):=by
      by_cases h:k=0
      · subst h;rfl
      · rw[Wb.2 h,Wb];omega
    cases hsk:aT xr with
    | nil =>
      rw[hsk]at p1 hat
      have hno:=u4 (s:=[]) ZH
      rw[hno,eD]at hat
      rw[pw (by rw[hsk];rfl) (by rw[hsk];exact hno),cO]
      have hpl:=sd p1
      have hd1:decide (p<s.length)=false:=aL
      have hd2:decide (p+1<s.length)=false:=aL
      cases hk0:(k==0) with
      | true =>
        rw[hk0]at hkn
        (repeat' first|simp only[results60,ntmps60,aF,w2,w3,w4,hz1,hn0,hkn,aY,Lo,Int.toNat_natCast,hd1,hd2,au,aH,seval] | refine ao (v:=.any) ?_|(first|refine ad ?_ (hbl _) ?_|refine ad ?_ (hat _) ?_) | apply Fin.pure)
      | false =>
        rw[hk0]at hkn
        (repeat' first|simp only[results60,ntmps60,aF,w2,w3,w4,hz1,hn0,hkn,aY,Lo,Int.toNat_natCast,hd1,hd2,au,aH,seval] | refine ao (v:=.any) ?_|(first|refine ad ?_ (hbl _) ?_|refine ad ?_ (hat _) ?_) | apply Fin.pure)
    | cons c t =>
      rw[hsk]at p1 hat
      obtain⟨e1,e2,e3,e4⟩:=fT p1
      have hd1:decide (p<s.length)=true:=AI e2
      have q62:((c.toNat:Int)==62)=decide (c=62):=aW c 62
      by_cases h62:c=62
      · rw[AI h62]at q62
        have hen:jB (aT xr)=some (1,t):=by rw[hsk,h62];rfl
        rw[lG hen,fj]
        have hlr:((s.length-t.length:Nat):Int)=((p+1:Nat):Int):=Y6
        rw[hlr]
        (repeat' first|simp only[results60,ntmps60,aF,w2,w3,hz1,hn0,htp,hnl,aA,aY,Lo,Int.toNat_natCast,e1,e2,q62,au,aH,seval]|(refine ad ?_ (hbl _) ?_) | apply Fin.pure)
      · rw [WA h62]at q62
        cases t with
        | nil =>
          have hno:=u4 (s:=[c]) ZH
          rw[hno,eD]at hat
          rw[pw (by rw[hsk];exact E4 h62) (by rw[hsk];exact hno),cO]
          have hd2:decide (p+1<s.length)=false:=WA (by simp at e4;omega)
          cases hk0:(k==0) with
          | true =>
            rw[hk0]at hkn
            (repeat' first|simp only[results60,ntmps60,aF,w2,w3,w4,hz1,hn0,hkn,aY,Lo,Int.toNat_natCast,hd2,e1,e2,q62,au,aH,seval] | refine ao (v:=.any) ?_|(first|refine ad ?_ (hbl _) ?_|refine ad ?_ (hat _) ?_) | apply Fin.pure)
          | false =>
            rw[hk0]at hkn
            (repeat' first|simp only[results60,ntmps60,aF,w2,w3,w4,hz1,hn0,hkn,aY,Lo,Int.toNat_natCast,hd2,e1,e2,q62,au,aH,seval] | refine ao (v:=.any) ?_|(first|refine ad ?_ (hbl _) ?_|refine ad ?_ (hat _) ?_) | apply Fin.pure)
        | cons d t =>
          obtain⟨f1,f2,f3,f4⟩:=fT e3
          have hd2:decide (p+1<s.length)=true:=AI f2
          have htwo:=TG p1
          have heq:=TH c d
          have heq1:=RD c d
          have hz3:((p+2:Nat):Int)<=(s.length:Int):=Y6
          by_cases hcd:c=47/\d=62
          · rw[AI hcd]at heq heq1
            have hen:jB (aT xr)=some (3,t):=by rw[hsk,hcd.1,hcd.2];rfl
            rw[lG hen,fj]
            have hlr:((s.length-t.length:Nat):Int)=((p+2:Nat):Int):=Y6
            rw[hlr]
            (repeat' first|simp only[results60,ntmps60,aF,w2,w3,w4,hz1,hn0,htp,hnl,aA,aY,Lo,Int.toNat_natCast,hd2,e1,e2,q62,htwo,heq,au,aH,seval]|(refine ad ?_ (hbl _) ?_) | refine Ai Y6 ?_ | apply Fin.pure)
          · rw [WA hcd]at heq heq1
            have hen:jB (aT xr)=none:=by rw[hsk];exact It h62 hcd
            cases hao:fY (c::d::t) with
            | none =>
              rw[hao,eD]at hat
              rw[pw hen (by rw[hsk];exact hao),cO]
              cases hk0:(k==0) with
              | true =>
                rw[hk0]at hkn
                (repeat' first|simp only[results60,ntmps60,aF,w2,w3,w4,hz1,hn0,hkn,aY,Lo,Int.toNat_natCast,hd2,e1,e2,q62,htwo,heq,au,aH,seval] | refine ao (v:=.any) ?_|(first|refine ad ?_ (hbl _) ?_|refine ad ?_ (hat _) ?_) | refine Ai Y6 ?_ | apply Fin.pure)
              | false =>
                rw[hk0]at hkn
                (repeat' first|simp only[results60,ntmps60,aF,w2,w3,w4,hz1,hn0,hkn,aY,Lo,Int.toNat_natCast,hd2,e1,e2,q62,htwo,heq,au,aH,seval] | refine ao (v:=.any) ?_|(first|refine ad ?_ (hbl _) ?_|refine ad ?_ (hat _) ?_) | refine Ai Y6 ?_ | apply Fin.pure)
            | some q =>
              obtain⟨a,r⟩:=q
              rw[hao,th]at hat
              have hsr:=(B4 hao).trans (show tY (c::d::t) s by rw[<- p1];exact DY _ _)
              have hlr:=(Bv hsr).2
              have hneg:decide (((s.length-r.length:Nat):Int)<0)=false:=aL
              have hao':fY (aT xr)=some (a,r):=by rw[hsk];exact hao
              cases hk0:(k==0) with
              | true =>
                rw[hk0]at hkn
                have hk0':k=0:=by simpa using hk0
                rw[px hen (by rw[hgz];simpa using hk0'),cO]
                (repeat' first|simp only[results60,ntmps60,aF,w2,w3,w4,hz1,hn0,hkn,aY,cZ,Lo,Int.toNat_natCast,hd2,e1,e2,q62,htwo,heq,hneg,au,aH,seval] | refine ao (v:=.any) ?_|(first|refine ad ?_ (hbl _) ?_|refine ad ?_ (hat _) ?_) | refine Ai Y6 ?_ | apply Fin.pure)
              | false =>
                rw[hk0]at hkn
                have hk0':k≠0:=by simpa using hk0
                have hg:(aT xr).length<xr.length:=by rw[hgz];exact hk0'
                have hha:=MG xl a.name (by unfold aN;omega)
                cases hany:(xl.any fun b=>a.name==b.name) with
                | true =>
                  rw[hany]at hha
                  rw[py hen hao' hany,cO]
                  (repeat' first|simp only[aK,results60,ntmps60,aF,w2,w3,w4,hz1,hn0,hkn,htp,hnl,aA,aY,cZ,Lo,Int.toNat_natCast,hd2,e1,e2,q62,htwo,heq,hneg,au,aH,seval]|exact rfl|(first|(refine ad ?_ (hbl _) ?_)|(refine ad ?_ (hat _) ?_))|((refine fq (xs:=?_) [b0+2] ?_ (fun _=>?_) (fun _=>?_) rfl ((fun _=>hha _)) ?_);rotate_left 1) | refine Ai Y6 ?_ | apply Fin.pure)
                | false =>
                  rw[hany]at hha
                  have hta:=oM (n:=n) hen hg hao' hany
                  have hlt:=mQ hao
                  have hnx:xl.map cZ++[[.str a.name,.str a.value]]=(xl++[a]).map cZ:=by simp[cZ]
                  have hnn:(xl++[a]).length=xl.length+1:=by simp
                  have hnv:(List.length (c::d::t))<=xr.length:=by rw[<- hsk];exact hsl
                  rw[hta]
                  repeat' first|simp only[aK,aF,w2,w3,w4,hz1,hn0,hkn,htp,hnl,aA,cZ,Lo,Int.toNat_natCast,hd2,e1,e2,q62,htwo,heq,hneg,au,aH,seval]|exact rfl|(first|(refine ad ?_ (hbl _) ?_)|(refine ad ?_ (hat _) ?_))|((refine fq (xs:=?_) [b0+2] ?_ (fun _=>?_) (fun _=>?_) rfl ((fun _=>hha _)) ?_);rotate_left 1) | refine Ai Y6 ?_
                  all_goals ((refine pX (⟨xl++[a],r⟩) [some b0,some (b0+1),some (b0+976)] ?_ ?_ ?_;(focus (refine⟨?_,?_⟩<;>(try simp only[bL,hnx,hnn,aA,au,aB,seval])<;>(try omega)))))
                  all_goals (first|exact⟨hta.symm.trans g1,hsr,by show(xl++[a]).length+r.length<=500000;rw[hnn];omega⟩|(show r.length<xr.length;omega))
def N0 (s t:ZA)(at':Nat)(hs:s.length<=500000)(h:s.drop at'=60::47::t)(nm:Nat):Ev cx 60 nm [.str s,.int .i64 at'] ah.nil (DZ s (j0 (47::t))) []:=by
 obtain⟨_,a1,a2,_⟩:=fT h
 obtain⟨c1,c2,c3,c4⟩:=fT a2
 have hsh:=NW s t at' Y6 h
 have w0:=oR (a:=at') Y6
 have hd:decide (at'+1<s.length)=true:=AI c2
 have q47:(((47:UInt8).toNat:Int)==47)=true:=by decide
 cases ho:j0 (47::t) with
 | none =>
  rw[ho,cO]at hsh
  rw[cO]
  refine aG call60 func60 results60 ntmps60 ?_;intro b0 hb0 zN
  exact xP (a6 w0 hd c1 c2 q47 @aY.eq_1) hsh
 | some p =>
  obtain⟨u,r⟩:=p
  rw[ho,fj]at hsh
  rw[fj]
  refine aG call60 func60 results60 ntmps60 ?_;intro b0 hb0 zN
  exact xP (a7 w0 hd c1 c2 q47 @aY.eq_1 @aA) hsh
def NX (s u:ZA)(at':Nat)(hs:s.length<=500000)(h:s.drop at'=60::u)(nm:Nat):Ev cx 60 nm [.str s,.int .i64 at'] ah.nil (DZ s (j0 u)) []:=by
 cases h47:bY 47 u with
 | some t =>
  obtain rfl:=bG h47
  exact N0 s t at' hs h nm
 | none =>
  cases hn:ep u with
  | none=>exact NZ s u at' hs h h47 hn nm
  | some p =>
   obtain⟨n,r0⟩:=p
   exact NY s u n r0 at' hs h h47 hn nm
def Nu {s:ZA}(h:bY 60 s=none):iT s=(bp (ct s)).map fun x=>(⟨4,[],[],x⟩,iF s):=by
 unfold iT;rw[h]
def NV (s:ZA)(at':Nat)(hs:s.length<=500000)(hlt:at'<s.length)(nm:Nat):Ev cx 27 nm [.str s,.int .i64 at'] ah.nil (DZ s (iT (s.drop at'))) []:=by
  obtain⟨c,u,hcu⟩:∃ c u,s.drop at'=c::u:=by
    cases h:s.drop at' with
    | nil=>exact absurd (sd h) Y6
    | cons c u=>exact⟨c,u,rfl⟩
  obtain⟨c1,c2,c3,c4⟩:=fT hcu
  have q60:((c.toNat:Int)==60)=decide (c=60):=aW c 60
  by_cases h60:c=60
  · subst h60
    rw[AI rfl]at q60
    have htg:=NX s u at' hs hcu
    have ho:iT (s.drop at')=j0 u:=by
      rw[hcu];unfold iT;rw[dF,if_pos rfl]
    rw[ho]
    cases hto:j0 u with
    | none =>
      rw[hto,cO]at htg
      rw[cO]
      refine aG call27 func27 results27 ntmps27 ?_;intro b0 hb0 zN
      exact xP (a4 c1 c2 q60 @aY.eq_1) htg
    | some p =>
      obtain⟨t,r⟩:=p
      rw[hto,fj]at htg
      rw[fj]
      refine aG call27 func27 results27 ntmps27 ?_;intro b0 hb0 zN
      exact xP (a5 c1 c2 q60 @aY.eq_1 @aA) htg
  · rw [WA h60]at q60
    have ha:bY 60 (s.drop at')=none:=by rw[hcu,dF,if_neg h60]
    rw[Nu ha]
    have hz0:(0:Int)<=(at':Int):=Y6
    refine aG call27 func27 results27 ntmps27 ?_;intro b0 hb0 zN
    (refine xR (a3 c1 c2 q60) trivial ?_)
    (have zF:=@am;refine fu (fun x:Nat=>s.length-x) (fun x=>k9 iE s at' x) (b0+16) (fun x=>[(0,.str s),(1,.int .i64 at'),(4,.ptr b0 0 0),(6,.int .i64 x)]) (fun x=>[(b0,⟨4,[[.int .u8 0,.str [],.nils,.str []]]⟩)]) (at') [some b0] ?_ ?_)
    · exact mJ _ Y6
    · intro e h
      have g1:=h.1
      have g2:=h.2.1
      have hwe:=oR (a:=e) Y6
      have hz1:(0:Int)<=(e:Int):=Y6
      have hz2:(at':Int)<=(e:Int):=Y6
      have hz3:(e:Int)<=(s.length:Int):=Y6
      have hfin:∀(he:∀ c,s[e]? = some c->iE c=false),(s.drop at').take (e-at')=ct (s.drop at')/\iF (s.drop at')=s.drop e:=fun he=>by
        obtain⟨k1,k2⟩:=wY h he
        exact⟨k1.symm,k2⟩
      have hle:(ct (s.drop at')).length<=s.length:=by
        have:=congrArg List.length ((Wk (p:=iE) (l:=s.drop at')).symm)
        rw[List.length_append,Wd]at this
        unfold ct;omega
      have hrd:=DI (ct (s.drop at')) Y6
      have hlr:((s.length-(s.drop e).length:Nat):Int)=(e:Int):=by rw[Wd];omega
      by_cases hx:e<s.length
      · obtain⟨c',hc'⟩:∃ c,s[e]? = some c:=⟨_,AT hx⟩
        have hdx:=AI hx
        have hq0:((c'.toNat:Int)==60)=decide (c'=60):=aW c' 60
        have hqq:((c'.toNat:Int) != 60)=iE c':=by
          unfold iE bne
          rw[hq0]
          by_cases h:c'=60<;>simp[h]
        cases hnq:iE c' with
        | true =>
          rw[hnq]at hqq
          have hn:=mH h hc' hnq
          (refine xN (a6 hc' hdx hx hqq hwe hz1) trivial ?_)
          all_goals ((have zF:=@am;refine c7 (e+1) [some b0] ?_ ?_))
          all_goals (first|(show s.length-(e+1)<s.length-e;omega)|exact hn|skip)
        | false =>
          rw[hnq]at hqq
          obtain⟨k1,k2⟩:=hfin (fun d hd=>by rw[hc']at hd;cases hd;exact hnq)
          rw[k2]
          cases hto:bp (ct (s.drop at')) with
          | none =>
            rw[hto,ck]at hrd
            rw[Option.map_none,cO]
            (have zF:=a2 @aY.eq_1 (a9 hc' hdx hx hqq hz0 hz1 hz2 hz3 @k1);have cF:=hrd;repeat' first|refine wS ?_|exact wE|refine Ai Y6 ?_|apply Fin.pure|simp only[aB])
          | some v =>
            rw[hto,cI]at hrd
            rw[Option.map_some,fj,hlr]
            (have zF:=a2 @aY.eq_1 (a9 hc' hdx hx hqq hz0 hz1 hz2 hz3 @k1);have cF:=hrd;repeat' first|refine wS ?_|exact wE|refine Ai Y6 ?_|apply Fin.pure|simp only[aB])
      · have hdx:decide (e<s.length)=false:=WA hx
        obtain⟨k1,k2⟩:=hfin (fun d hd=>by rw[W0 Y6]at hd;cases hd)
        rw[k2]
        cases hto:bp (ct (s.drop at')) with
        | none =>
          rw[hto,ck]at hrd
          rw[Option.map_none,cO]
          (have zF:=a8 @aY.eq_1 hdx hx hz0 hz1 hz2 hz3 @k1;have cF:=hrd;repeat' first|refine wS ?_|exact wE|refine Ai Y6 ?_|apply Fin.pure|simp only[aB])
        | some v =>
          rw[hto,cI]at hrd
          rw[Option.map_some,fj,hlr]
          (have zF:=a8 @aY.eq_1 hdx hx hz0 hz1 hz2 hz3 @k1;have cF:=hrd;repeat' first|refine wS ?_|exact wE|refine Ai Y6 ?_|apply Fin.pure|simp only[aB])
def Rj (s:ZA)(hs:s.length<=aN)(nm:Nat):Ev cx 13 nm [.str s] ah.nil (Df (bW s)) []:=by
  have hck:=iB s hs
  by_cases hp:az s=0
  · obtain ⟨hsl,hsd⟩:=dJ.1 hp
    have hA:bW s=iQ s.length [] s:=by unfold bW;rw[if_neg (by simp[hp])]
    rw[hA]
    generalize hB:iQ s.length [] s=A
    obtain⟨L,at0,e0⟩:=A
    unfold Df
    rw[hp]at hck
    have hself:s.length-s.length=0:=YZ _
    refine aG call13 func13 results13 ntmps13 ?_;intro b0 hb0 zN
    (refine xR trivial hck ?_)
    (have zF:=a2 @am hself;refine fu (fun x:LSt=>x.rest.length) (fun x=>iQ s.length x.l x.rest=(L,at0,e0)/\tY x.rest s/\x.l.length<=512) (b0+16) (fun x=>[(0,.str s),(6,.own b0 0 x.l.length),(7,.int .i64 ((s.length-x.rest.length:Nat):Int))]) (fun x=>[(b0,⟨4,x.l.map aY⟩)]) (⟨[],s⟩) [none] ?_ ?_)
    · exact⟨hB,tY.refl _,WB _⟩
    · rintro ⟨xl,xr⟩ ⟨g1,g2,g4⟩
      dsimp only at g1 g2 g4 ⊢
      obtain⟨d1,d2⟩:=Bv g2
      have hnl:(xl.map aY).length=xl.length:=Lm _
      by_cases hnil:xr=[]
      · subst hnil
        rw[rB]at g1
        cases g1
        have hne:decide (s.length-([]:ZA).length<s.length)=false:=WA ZH
        have hl0:s.length-0=s.length:=rfl
        have hne2:decide (s.length<s.length)=false:=aL
        exact xP (a6 hne hl0 hne2 @ax hnl @List.take_of_length_le.{0}) trivial
      · have hpos:=Wl.2 hnil
        have hlt:s.length-xr.length<s.length:=Y6
        have hone:=NV s (s.length-xr.length) Y6 hlt
        rw[d1]at hone
        have hd:decide (s.length-xr.length<s.length)=true:=AI hlt
        generalize hpp:s.length-xr.length=p at *
        have hm1:decide ((0:Int) <= -1)=false:=by decide
        have hm2:decide ((-1:Int)<0)=true:=by decide
        by_cases hm:512<=xl.length
        · have hge:((xl.length:Int)==512)=true:=by rw[W3];omega
          have hge2:(xl.length==512)=true:=by rw[W3];omega
          rw[sL hnil hm,hpp]at g1
          cases g1
          cases ho:iT xr with
          | none =>
            rw[ho,cO]at hone
            exact xP (a6 @aY.eq_1 hd hge hge2 hnl @ax) hone
          | some q =>
            obtain⟨t,r⟩:=q
            rw[ho,fj]at hone
            exact xP (a7 @aY.eq_1 @aA hd hge hge2 hnl @ax) hone
        · have hge:((xl.length:Int)==512)=false:=by rw[Wb];omega
          have hge2:(xl.length==512)=false:=by rw[Wb];omega
          cases ho:iT xr with
          | none =>
            rw[ho,cO]at hone
            rw[v3 hnil Y6 ho,hpp]at g1
            cases g1
            exact xP (a8 @aY.eq_1 hd hge hge2 hm1 hm2 hnl @ax) hone
          | some q =>
            obtain⟨t,r⟩:=q
            have hrl:=A9 hnil ho
            rw[ho,fj]at hone
            have hsr:=(Q6 ho).trans g2
            have hk1:decide ((0:Int)<=((s.length-r.length:Nat):Int))=true:=bz
            have hk2:decide (((s.length-r.length:Nat):Int)<0)=false:=aL
            have hnx:xl.map aY++[[.int .u8 t.kind,.str t.name,.sl false 2 (t.attrs.map cZ),.str t.text]]=(xl++[t]).map aY:=by rw[WM];rfl
            have hnl1:(xl++[t]).length=xl.length+1:=by simp
            by_cases h16:16<t.attrs.length
            · rw[qv hnil Y6 ho h16,hpp]at g1
              cases g1
              have h16d:decide ((16:Int)<(t.attrs.length:Int))=true:=bz
              exact xP (a2 @aY.eq_1 (a9 @aA hd hge hge2 hk1 hk2 h16d hnl @ax)) hone
            · rw[uB hnil Y6 ho Y6]at g1
              have h16d:decide ((16:Int)<(t.attrs.length:Int))=false:=aL
              (refine xR (a2 @aY.eq_1 (a9 @aA hd hge hge2 hk1 hk2 h16d hnl @ax)) hone ?_)
              all_goals ((have zF:=a5 @am @aA @ax hnx hnl1;refine c7 (⟨xl++[t],r⟩) [some (b0+512)] ?_ ?_))
              all_goals (first|exact⟨g1,hsr,by show(xl++[t]).length<=512;rw[hnl1];omega⟩|(show r.length<xr.length;omega)|skip)
  · have hA:bW s=([],0,az s):=by unfold bW;rw[if_pos (by simpa using hp)]
    have hb:(az s != 0)=true:=by simpa using hp
    rw[hA]
    unfold Df
    refine aG call13 func13 results13 ntmps13 ?_;intro b0 hb0 zN
    exact xP hb hck
def I0 (l:List Pr)(hl:l.length<=1000)(nm:Nat):Ev cx 66 nm [.sl false 2 (l.map cZ)] ah.nil (.own nm 0 l.length) [(nm,some ⟨3,(bq l).map bi⟩)]:=by
 refine aG call66 func66 results66 ntmps66 ?_;intro b0 hb0 zN
 (refine xR trivial trivial ?_)
 (have zF:=a3 @aA @am @vJ;refine fu (fun x:Nat=>l.length-x) (fun x=>x<=l.length) (b0+16) (fun x=>[(0,.sl false 2 (l.map cZ)),(3,.own b0 0 x),(4,.int .i64 x)]) (fun x=>[(b0,⟨3,(bq (l.take x)).map bi⟩)]) (0) [none] ?_ ?_)
 ·exact WB _
 ·intro k hk
  by_cases hlt:k<l.length
  ·obtain⟨a,ha⟩:=js hlt
   have hat:=wx ha
   have hd:=AI hlt
   have hwk:=eX k
   have hgl:(bq (l.take k)).length=k:=by rw[iL,WK];omega
   have htl:((bq (l.take k)).map bi).take k=(bq (l.take k)).map bi:=IN (by rw[Lm,hgl];omega)
   have hgs:=vI ha
   (refine xR (a8 @aA hat @cZ.eq_1 hd hlt hgl htl hgs) trivial ?_)
   all_goals ((have zF:=a4 @aA @aj @am hwk;refine c7 (k+1) [some (b0+288)] ?_ ?_))
   all_goals (first|(show l.length-(k+1)<l.length-k;omega)|(show k+1<=l.length;omega))
  ·have hke:k=l.length:=Y6
   subst hke
   have hd:decide (l.length<l.length)=false:=aL
   exact xO (a2 @aj hd) trivial
def Qo (l:List At):qk (l.map bi)=true:=vE _ (fun _=>rfl) l
def JQ (l:List Pr)(hl:l.length<=1000)(nm:Nat):Pj cx 66 nm [.sl false 2 (l.map cZ)] (.sl false 3 ((bq l).map bi)):=by
 refine⟨_,_,I0 l hl nm,?_,?_,?_,?_,?_⟩
 ·simp[V.flatO,al]
 ·intro p hp k hk
  simp at hp;subst hp;simp at hk;subst hk
  exact⟨rfl,Qo _⟩
 ·intro x hx;simp[al]at hx;subst hx;exact⟨IS _,by omega⟩
 ·have e:(ah.nil.app [(nm,some (⟨3,(bq l).map bi⟩:Blk))]) nm=some ⟨3,(bq l).map bi⟩:=by simp[ah.app,ah.put]
  have e2:bD (ah.nil.app [(nm,some (⟨3,(bq l).map bi⟩:Blk))]) nm=(bq l).map bi:=by unfold bD;rw[e]
  intro _
  refine⟨.inr ⟨by rw[e];rfl,by rw[e2];simp[bq]⟩,?_⟩
  rw[e2,WP,IN (by simp[bq])];exact aj _
 ·have e:(ah.nil.app [(nm,some (⟨3,(bq l).map bi⟩:Blk))]) nm=some ⟨3,(bq l).map bi⟩:=by simp[ah.app,ah.put]
  have e2:bD (ah.nil.app [(nm,some (⟨3,(bq l).map bi⟩:Blk))]) nm=(bq l).map bi:=by unfold bD;rw[e]
  have e3:eT (ah.nil.app [(nm,some (⟨3,(bq l).map bi⟩:Blk))]) nm=3:=by unfold eT;rw[e]
  simp only[V.fin,eJ,e2,e3,WP]
  rw[IN (by simp[bq])]
  exact V.le_refl _
def G0 (s:ZA)(k:Nat):Prop:=∀ i c,i<k->s[i]? = some c->cG c=true
def DC (s:ZA)(hs:s.length<=aN)(nm:Nat):Ev cx 64 nm [.str s] ah.nil (.bool (gb s)) []:=by
 unfold aN at hs
 refine aG call64 func64 results64 ntmps64 ?_;intro b0 hb0 zN
 (refine xR trivial trivial ?_)
 (have zF:=trivial;refine fu (fun x:Nat=>s.length-x) (fun x=>x<=s.length/\G0 s x) (b0+16) (fun x=>[(0,.str s),(3,.int .i64 x)]) (fun x=>[]) (0) [] ?_ ?_)
 ·exact⟨WB _,fun i c hi=>by omega⟩
 ·rintro k ⟨hk,hb⟩
  by_cases hlt:k<s.length
  ·obtain⟨c,hc⟩:=js hlt
   have hd:=AI hlt
   have hwk:=eX k
   have q:∀ d:UInt8,((c.toNat:Int) !=(d.toNat:Int)) = !(c==d):=fun d=>by
    have:=aW c d
    rw[bne,this]
    congr 1
   have q1:((c.toNat:Int) != 32) = !(c==32):=q 32
   have q2:((c.toNat:Int) != 9) = !(c==9):=q 9
   have q3:((c.toNat:Int) != 10) = !(c==10):=q 10
   have q4:((c.toNat:Int) != 13) = !(c==13):=q 13
   have hbd:cG c=(c==32||c==9||c==10||c==13):=rfl
   generalize (c==32)=p1 at q1 hbd
   generalize (c==9)=p2 at q2 hbd
   generalize (c==10)=p3 at q3 hbd
   generalize (c==13)=p4 at q4 hbd
   have hcs:(p1=true/\cG c=true)\/(p1=false/\p2=true/\cG c=true)\/(p1=false/\p2=false/\p3=true/\cG c=true)\/(p1=false/\p2=false/\p3=false/\p4=true/\cG c=true)\/(p1=false/\p2=false/\p3=false/\p4=false/\cG c=false):=by
    cases p1<;>cases p2<;>cases p3<;>cases p4<;>simp at hbd ⊢<;>exact hbd
   have hyes:cG c=true->G0 s (k+1):=fun h i d hi hdd=>by
    by_cases e:i=k
    ·subst e;rw[hc]at hdd;cases hdd;exact h
    ·exact hb i d Y6 hdd
   rcases hcs with ⟨rfl,h⟩|⟨rfl,rfl,h⟩|⟨rfl,rfl,rfl,h⟩|⟨rfl,rfl,rfl,rfl,h⟩|⟨rfl,rfl,rfl,rfl,h⟩
   ·(refine xR (a7 hc hd hlt q1 q2 q3 q4) trivial ?_)
    all_goals ((have zF:=hwk;refine c7 (k+1) [] ?_ ?_))
    all_goals (first|(show s.length-(k+1)<s.length-k;omega)|exact⟨hlt,hyes h⟩ )
   ·(refine xR (a7 hc hd hlt q1 q2 q3 q4) trivial ?_)
    all_goals ((have zF:=hwk;refine c7 (k+1) [] ?_ ?_))
    all_goals (first|(show s.length-(k+1)<s.length-k;omega)|exact⟨hlt,hyes h⟩ )
   ·(refine xR (a7 hc hd hlt q1 q2 q3 q4) trivial ?_)
    all_goals ((have zF:=hwk;refine c7 (k+1) [] ?_ ?_))
    all_goals (first|(show s.length-(k+1)<s.length-k;omega)|exact⟨hlt,hyes h⟩ )
   ·(refine xR (a7 hc hd hlt q1 q2 q3 q4) trivial ?_)
    all_goals ((have zF:=hwk;refine c7 (k+1) [] ?_ ?_))
    all_goals (first|(show s.length-(k+1)<s.length-k;omega)|exact⟨hlt,hyes h⟩ )
   ·have hr:gb s=false:=by
     cases hh:gb s with
     | false=>rfl
     | true=>have:=WI.1 hh c (By hc);rw[h]at this;cases this
    exact xP (a8 hc hd hlt hr q1 q2 q3 q4) trivial
  ·have hke:k=s.length:=Y6
   subst hke
   have hd:decide (s.length<s.length)=false:=aL
   have hr:gb s=true:=WI.2 (fun c hc=>by
    obtain⟨i,hi⟩:=XR.1 hc
    exact hb i c (AS.1 hi).1 hi)
   exact xP (a2 hd hr) trivial
def K9 (g:Gr)(n:Nat)(hg:g.Ok n)(hn:n<=1000)(junk:ZB)(y z:Nat)(name:ZA)(ats:List At)(M:ah)(nm:Nat)(hyz:y≠z)(hy:M y=some ⟨6,g.v.map aC⟩)(hz:M z=some ⟨1,(g.opn++junk).map bH⟩)(ho:∀ w,(M w).isSome=true->w∈[y,z])(hyn:y<nm)(hzn:z<nm) :
  Ev cx 65 nm [.agg [.own y 0 g.v.length,.own z 0 g.opn.length],.agg [.int .u8 1,.str [],.str name,.sl false 3 (ats.map bi),.str [],.int .i64 0]] M (.agg [.own nm 0 (g.v.length+1),.own (nm+1) 0 (g.opn.length+1)]) [(y,none),(z,none),(nm,some ⟨6,(kO g.v g.opn).map aC++[[.int .u8 1,.str [],.str name,.sl false 3 (ats.map bi),.str [],.int .i64 0]]⟩),(nm+1,some ⟨1,g.opn.map bH++[bH g.v.length]⟩)]:=by
 have hvl:=hg.len
 have hl12:=hg.deep
 have htn:=qG g.v
 have hlj:g.opn.length<=(g.opn++junk).length:=by simp
 have htk:((g.opn++junk).map bH).take g.opn.length=g.opn.map bH:=by rw[<- YJ,Yc]
 have hpn0:plainLL (g.opn.map bH++junk.map bH)=true:=by rw[<- WM];exact aw _
 by_cases h0:g.opn=[]
 ·have hl0:g.opn.length=0:=by rw[h0];rfl
  have hinc:kO g.v g.opn=g.v:=by rw[h0];rfl
  rw[hinc]
  have hd:decide ((0:Int)<(g.opn.length:Int))=false:=aL
  refine aG call65 func65 results65 ntmps65 ?_;intro b0 hb0 zN
  have ly:=aq hb0 hy
  have y0:=aE ly;have y1:=ak ly;have y2:=ay ly;have y3:=ae ly
  have lz:=aq hb0 hz
  have w0:=aE lz;have w1:=ak lz;have w2:=ay lz;have w3:=ae lz
  have n3:=IT hyz;have n6:=IT (WU hyz)
  repeat' first|simp only[results65,ntmps65,aF,hd,hy,hz,htn,htk,hlj,y0,y1,y2,y3,w0,w1,w2,w3,n3,Lm,au,aH,seval] | refine Ai Y6 ?_
  all_goals ((refine Fin.give [(b0+400,some 0),(b0+288,some 1)] [y,z] ?_ ?_ ?_ ?_ ?_ (bc ho (by simp[ba,tgt]))<;>(try simp only[bH,y3,w3,No,aM,aj,aa,aw,WM,hH,au,aH,seval])<;>(try simp only[aB])<;>(try omega)))
 ·obtain⟨k,hk⟩:=kr h0
  obtain⟨_,hk2,hk3⟩:=gK hk
  have hkv:=hg.in_ k (By hk2)
  obtain⟨x0,hx0⟩:∃ x0,g.v[k]? = some x0:=⟨_,AT hkv⟩
  have hm:=hg.many x0 (By hx0)
  have hinc:=pg (v:=g.v) hk
  have hd:decide ((0:Int)<(g.opn.length:Int))=true:=bz
  have hwl:IntKind.i64.wrap ((g.opn.length:Int)-1)=((g.opn.length-1:Nat):Int):=by rw[aX];omega
  have hlt:g.opn.length-1<g.opn.length:=Y6
  have hno:=tL (m:=junk) hk2
  have hnd:=dv hx0
  have hwm:IntKind.i64.wrap (x0.many+1)=x0.many+1:=aX
  have hset:=A6 hx0 (x0.many+1) rfl
  have hml:((g.v.modify k Nd.inc).map aC).take g.v.length=(g.v.modify k Nd.inc).map aC:=IN ZH
  have hmn:(g.v.modify k Nd.inc).length=g.v.length:=by simp
  rw[hinc]
  refine aG call65 func65 results65 ntmps65 ?_;intro b0 hb0 zN
  have ly:=aq hb0 hy
  have y0:=aE ly;have y1:=ak ly;have y2:=ay ly;have y3:=ae ly
  have lz:=aq hb0 hz
  have w0:=aE lz;have w1:=ak lz;have w2:=ay lz;have w3:=ae lz
  have n3:=IT hyz;have n6:=IT (WU hyz)
  repeat' first|simp only[results65,ntmps65,aF,hd,hy,hz,htk,hlj,hwl,hlt,hno,bH,hnd,aC,hkv,hwm,hset,hml,hmn,y0,y1,y2,y3,w0,w1,w2,w3,n3,n6,Lm,au,aH,seval] | refine bm  ZJ  ?_ | refine Ai Y6 ?_
  all_goals ((refine Fin.give [(b0+640,some 0),(b0+528,some 1)] [y,z] ?_ ?_ ?_ ?_ ?_ (bc ho (by simp[ba,tgt]))<;>(try simp only[y3,w3,No,aM,aj,aa,aw,WM,hH,au,aH,seval])<;>(try simp only[aB])<;>(try omega)))
def La (g:Gr)(n:Nat)(hg:g.Ok n)(hn:n<=1000)(junk:ZB)(y z:Nat)(txt:ZA)(M:ah)(nm:Nat)(hyz:y≠z)(hy:M y=some ⟨6,g.v.map aC⟩)(hz:M z=some ⟨1,(g.opn++junk).map bH⟩)(ho:∀ w,(M w).isSome=true->w∈[y,z])(hyn:y<nm)(hzn:z<nm) :
  Ev cx 65 nm [.agg [.own y 0 g.v.length,.own z 0 g.opn.length],.agg [.int .u8 2,.str [],.str [],.nils,.str txt,.int .i64 0]] M (.agg [.own nm 0 (g.v.length+1),.own z 0 g.opn.length]) [(y,none),(z,some ⟨1,(g.opn++junk).map bH⟩),(nm,some ⟨6,(kO g.v g.opn).map aC++[[.int .u8 2,.str [],.str [],.nils,.str txt,.int .i64 0]]⟩)]:=by
 have hvl:=hg.len
 have hl12:=hg.deep
 have htn:=qG g.v
 have hlj:g.opn.length<=(g.opn++junk).length:=by simp
 have htk:((g.opn++junk).map bH).take g.opn.length=g.opn.map bH:=by rw[<- YJ,Yc]
 have hpn0:plainLL (g.opn.map bH++junk.map bH)=true:=by rw[<- WM];exact aw _
 by_cases h0:g.opn=[]
 ·have hl0:g.opn.length=0:=by rw[h0];rfl
  have hinc:kO g.v g.opn=g.v:=by rw[h0];rfl
  rw[hinc]
  have hd:decide ((0:Int)<(g.opn.length:Int))=false:=aL
  refine aG call65 func65 results65 ntmps65 ?_;intro b0 hb0 zN
  have ly:=aq hb0 hy
  have y0:=aE ly;have y1:=ak ly;have y2:=ay ly;have y3:=ae ly
  have lz:=aq hb0 hz
  have w0:=aE lz;have w1:=ak lz;have w2:=ay lz;have w3:=ae lz
  have n3:=IT hyz;have n6:=IT (WU hyz)
  repeat' first|simp only[results65,ntmps65,aF,hd,hy,htn,y0,y1,y2,y3,Lm,au,aH,seval] | refine Ai Y6 ?_
  all_goals ((refine Fin.give [(z,none),(b0+256,some 0)] [y] ?_ ?_ ?_ ?_ ?_ (bc ho (by simp[ba,tgt]))<;>(try simp only[hz,y3,w0,w1,w3,n6,hpn0,No,aM,aa,WM,hH,au,aH,seval])<;>(try simp only[aB])<;>(try omega)))
 ·obtain⟨k,hk⟩:=kr h0
  obtain⟨_,hk2,hk3⟩:=gK hk
  have hkv:=hg.in_ k (By hk2)
  obtain⟨x0,hx0⟩:∃ x0,g.v[k]? = some x0:=⟨_,AT hkv⟩
  have hm:=hg.many x0 (By hx0)
  have hinc:=pg (v:=g.v) hk
  have hd:decide ((0:Int)<(g.opn.length:Int))=true:=bz
  have hwl:IntKind.i64.wrap ((g.opn.length:Int)-1)=((g.opn.length-1:Nat):Int):=by rw[aX];omega
  have hlt:g.opn.length-1<g.opn.length:=Y6
  have hno:=tL (m:=junk) hk2
  have hnd:=dv hx0
  have hwm:IntKind.i64.wrap (x0.many+1)=x0.many+1:=aX
  have hset:=A6 hx0 (x0.many+1) rfl
  have hml:((g.v.modify k Nd.inc).map aC).take g.v.length=(g.v.modify k Nd.inc).map aC:=IN ZH
  have hmn:(g.v.modify k Nd.inc).length=g.v.length:=by simp
  rw[hinc]
  refine aG call65 func65 results65 ntmps65 ?_;intro b0 hb0 zN
  have ly:=aq hb0 hy
  have y0:=aE ly;have y1:=ak ly;have y2:=ay ly;have y3:=ae ly
  have lz:=aq hb0 hz
  have w0:=aE lz;have w1:=ak lz;have w2:=ay lz;have w3:=ae lz
  have n3:=IT hyz;have n6:=IT (WU hyz)
  repeat' first|simp only[results65,ntmps65,aF,hd,hy,hz,hwl,hlt,hno,bH,hnd,aC,hkv,hwm,hset,hml,hmn,y0,y1,y2,y3,w0,w1,Lm,au,aH,seval] | refine bm  ZJ  ?_ | refine Ai Y6 ?_
  all_goals ((refine Fin.give [(z,none),(b0+496,some 0)] [y] ?_ ?_ ?_ ?_ ?_ (bc ho (by simp[ba,tgt]))<;>(try simp only[hz,y3,w0,w1,w3,n6,hpn0,No,aM,aa,WM,hH,au,aH,seval])<;>(try simp only[aB])<;>(try omega)))
def bo (b a c:Nat):b9 (b+a) (b+c)=(a<=c/\c<a+16):=propext ⟨fun h=>by unfold b9 at h;omega,fun h=>by unfold b9;omega⟩
def rP (g:Gr)(n:Nat)(hg:g.Ok n)(hn:n<=1000)(junk:ZB)(y z:Nat)(t:Tk)(txt:Bool)(ht:t.text.length<=aN)(hk:t.kind=4)(e:Int)(he:((txt||(g.opn.isEmpty && !gb t.text))=true/\e=80)\/((txt||(g.opn.isEmpty && !gb t.text))=false/\g.opn.isEmpty=true/\e=0))(M:ah)(nm:Nat)(hyz:y≠z)(hy:M y=some ⟨6,g.v.map aC⟩)(hz:M z=some ⟨1,(g.opn++junk).map bH⟩)(ho:∀ w,(M w).isSome=true->w∈[y,z]) :
  Ev cx 29 nm [.agg [.own y 0 g.v.length,.own z 0 g.opn.length],.agg (aY t),.bool txt] M (.tup [.agg [.own y 0 g.v.length,.own z 0 g.opn.length],.int .i64 e]) [(y,some ⟨6,g.v.map aC⟩),(z,some ⟨1,(g.opn++junk).map bH⟩)]:=by
 have q4:((t.kind:Int)==4)=true:=by rw[hk];rfl
 have ho0:=gS g.opn
 have hbl:=DC t.text ht
 generalize hA:g.opn.isEmpty=bA at he ho0
 generalize hB:gb t.text=bB at he hbl
 have hcs:(txt=true/\e=80)\/(txt=false/\bA=true/\bB=false/\e=80)\/(txt=false/\bA=true/\bB=true/\e=0):=by
  rcases he with ⟨h1,h2⟩|⟨h1,h2,h3⟩<;>cases txt<;>cases bA<;>cases bB<;>simp at h1 h2 ⊢<;>first|exact h2|exact h3
 clear he
 rcases hcs with ⟨rfl,rfl⟩|⟨rfl,rfl,rfl,rfl⟩|⟨rfl,rfl,rfl,rfl⟩<;>(try cases bA)<;>(try cases bB)<;>(
  refine aG call29 func29 results29 ntmps29 ?_;intro b0 hb0 zN
  have ly:=aq hb0 hy
  have y0:=aE ly;have y1:=ak ly;have y2:=ay ly;have y3:=ae ly
  have lz:=aq hb0 hz
  have w0:=aE lz;have w1:=ak lz;have w2:=ay lz;have w3:=ae lz
  have n3:=IT hyz;have n6:=IT (WU hyz)
  repeat' first|simp only[results29,ntmps29,aF,aY,q4,ho0,Bt,Bf,au,aH,seval] | refine ao (v:=.any) ?_|refine ai ?_ (fun _=>hbl _) ?_
  all_goals ((refine Fin.give [(y,none),(z,none)] [] ?_ ?_ ?_ ?_ ?_ (bc ho (by simp[ba,tgt]))<;>(try simp only[hy,hz,y0,y1,w0,w1,n3,n6,aa,aw,Lm,hH,au,aH,seval])<;>(try simp only[aB])<;>(try omega))))
def zB (g:Gr)(n:Nat)(hg:g.Ok n)(hn:n<=1000)(junk:ZB)(y z:Nat)(t:Tk)(txt:Bool)(hk:t.kind=4)(htx:txt=false)(hop:g.opn.isEmpty=false)(M:ah)(nm:Nat)(hyz:y≠z)(hy:M y=some ⟨6,g.v.map aC⟩)(hz:M z=some ⟨1,(g.opn++junk).map bH⟩)(ho:∀ w,(M w).isSome=true->w∈[y,z])(hyn:y<nm)(hzn:z<nm) :
  Ev cx 29 nm [.agg [.own y 0 g.v.length,.own z 0 g.opn.length],.agg (aY t),.bool txt] M (.tup [.agg [.own nm 0 (g.v.length+1),.own z 0 g.opn.length],.int .i64 0]) [(y,none),(z,some ⟨1,(g.opn++junk).map bH⟩),(nm,some ⟨6,(kO g.v g.opn).map aC++[[.int .u8 2,.str [],.str [],.nils,.str t.text,.int .i64 0]]⟩)]:=by
 have q4:((t.kind:Int)==4)=true:=by rw[hk];rfl
 have ho0:=gS g.opn
 rw[hop]at ho0
 subst htx
 refine aG call29 func29 results29 ntmps29 ?_;intro b0 hb0 zN
 have ly:=aq hb0 hy
 have y0:=aE ly;have y1:=ak ly;have y2:=ay ly;have y3:=ae ly
 have lz:=aq hb0 hz
 have w0:=aE lz;have w1:=ak lz;have w2:=ay lz;have w3:=ae lz
 have n3:=IT hyz;have n6:=IT (WU hyz)
 have hw:=fun (M':ah) (b:M' y=some ⟨6,g.v.map aC⟩) (c:M' z=some ⟨1,(g.opn++junk).map bH⟩) (d:∀ w,(M' w).isSome=true->w∈[y,z]) (m:Nat) (h1:y<m) (h2:z<m)=>La g n hg hn junk y z t.text M' m hyz b c d h1 h2
 repeat' first|simp only[aK,results29,ntmps29,aF,aY,q4,ho0,hy,hz,jH,y0,y1,y3,w0,w1,w3,n3,n6,Bf,au,aH,seval] | refine ao (v:=.any) ?_|refine ab ?_ [y,z] (hw _ ?_ ?_ ac _ Y6 Y6) ?_ ?_
 all_goals ((refine Fin.give [(z,none),(b0+512,some 0)] [y] ?_ ?_ ?_ ?_ ?_ (bc ho (by simp[ba,tgt]))<;>(try simp only[hz,y3,w0,w1,w3,n6,No,aM,aa,aw,Lm,hH,au,aH,seval])<;>(try simp only[aB])<;>(try omega)))
def DK (g:Gr)(n:Nat)(hg:g.Ok n)(hn:n<=1000)(junk:ZB)(y z:Nat)(t:Tk)(txt:Bool)(hk:t.kind=2)(hlast:iO g≠some t.name)(M:ah)(nm:Nat)(hyz:y≠z)(hy:M y=some ⟨6,g.v.map aC⟩)(hz:M z=some ⟨1,(g.opn++junk).map bH⟩)(ho:∀ w,(M w).isSome=true->w∈[y,z]) :
  Ev cx 29 nm [.agg [.own y 0 g.v.length,.own z 0 g.opn.length],.agg (aY t),.bool txt] M (.tup [.agg [.own y 0 g.v.length,.own z 0 g.opn.length],.int .i64 80]) [(y,some ⟨6,g.v.map aC⟩),(z,some ⟨1,(g.opn++junk).map bH⟩)]:=by
 have q4:((t.kind:Int)==4)=false:=If Y6
 have q2:((t.kind:Int)==2)=true:=by rw[hk];rfl
 have hvl:=hg.len
 have hl12:=hg.deep
 have ho0:=gS g.opn
 by_cases h0:g.opn=[]
 ·have hop:g.opn.isEmpty=true:=by rw[h0];rfl
  rw[hop]at ho0
  refine aG call29 func29 results29 ntmps29 ?_;intro b0 hb0 zN
  have ly:=aq hb0 hy
  have y0:=aE ly;have y1:=ak ly;have y2:=ay ly;have y3:=ae ly
  have lz:=aq hb0 hz
  have w0:=aE lz;have w1:=ak lz;have w2:=ay lz;have w3:=ae lz
  have n3:=IT hyz;have n6:=IT (WU hyz)
  repeat' first|simp only[results29,ntmps29,aF,aY,q4,q2,ho0,hy,hz,y0,y1,w0,w1,Bt,au,aH,seval] | refine bm  ZJ  ?_
  all_goals ((refine Fin.give [(y,none),(z,none)] [] ?_ ?_ ?_ ?_ ?_ (bc ho (by simp[ba,tgt]))<;>(try simp only[hy,hz,y0,y1,w0,w1,n3,n6,aa,aw,Lm,hH,au,aH,seval])<;>(try simp only[aB])<;>(try omega)))
 ·obtain⟨k,hk0⟩:=kr h0
  obtain⟨_,hk2,hk3⟩:=gK hk0
  have hop:g.opn.isEmpty=false:=by simpa using h0
  rw[hop]at ho0
  have hkv:=hg.in_ k (By hk2)
  obtain⟨x0,hx0⟩:∃ x0,g.v[k]? = some x0:=⟨_,AT hkv⟩
  have hwl:IntKind.i64.wrap ((g.opn.length:Int)-1)=((g.opn.length-1:Nat):Int):=by rw[aX];omega
  have hlt:g.opn.length-1<g.opn.length:=Y6
  have hno:=tL (m:=junk) hk2
  have hnd:=dv hx0
  have hne:(x0.name==t.name)=false:=If (fun e=>hlast (by unfold iO;rw[hk0];simp[hx0,e]))
  refine aG call29 func29 results29 ntmps29 ?_;intro b0 hb0 zN
  have ly:=aq hb0 hy
  have y0:=aE ly;have y1:=ak ly;have y2:=ay ly;have y3:=ae ly
  have lz:=aq hb0 hz
  have w0:=aE lz;have w1:=ak lz;have w2:=ay lz;have w3:=ae lz
  have n3:=IT hyz;have n6:=IT (WU hyz)
  repeat' first|simp only[results29,ntmps29,aF,aY,q4,q2,ho0,hwl,hlt,hno,bH,hnd,aC,hkv,hne,hy,hz,y0,y1,w0,w1,Bf,au,aH,seval] | refine bm  ZJ  ?_
  all_goals ((refine Fin.give [(y,none),(z,none)] [] ?_ ?_ ?_ ?_ ?_ (bc ho (by simp[ba,tgt]))<;>(try simp only[hy,hz,y0,y1,w0,w1,n3,n6,aa,aw,Lm,hH,au,aH,seval])<;>(try simp only[aB])<;>(try omega)))
def zA (g:Gr)(n:Nat)(hg:g.Ok n)(hn:n<=1000)(junk:ZB)(y z:Nat)(t:Tk)(txt:Bool)(hk:t.kind=2)(hlast:iO g=some t.name)(M:ah)(nm:Nat)(hyz:y≠z)(hy:M y=some ⟨6,g.v.map aC⟩)(hz:M z=some ⟨1,(g.opn++junk).map bH⟩)(ho:∀ w,(M w).isSome=true->w∈[y,z]) :
  Ev cx 29 nm [.agg [.own y 0 g.v.length,.own z 0 g.opn.length],.agg (aY t),.bool txt] M (.tup [.agg [.own y 0 g.v.length,.own z 0 (g.opn.length-1)],.int .i64 0]) [(y,some ⟨6,g.v.map aC⟩),(z,some ⟨1,(g.opn++junk).map bH⟩)]:=by
 have q4:((t.kind:Int)==4)=false:=If Y6
 have q2:((t.kind:Int)==2)=true:=by rw[hk];rfl
 have hvl:=hg.len
 have hl12:=hg.deep
 have ho0:=gS g.opn
 obtain⟨k,hk0,hkn⟩:=WC.1 hlast
 obtain⟨x0,hx0,hxn⟩:=BY.1 hkn
 obtain⟨h0,hk2,hk3⟩:=gK hk0
 have hop:g.opn.isEmpty=false:=by simpa using h0
 rw[hop]at ho0
 have hkv:=hg.in_ k (By hk2)
 have hwl:IntKind.i64.wrap ((g.opn.length:Int)-1)=((g.opn.length-1:Nat):Int):=by rw[aX];omega
 have hlt:g.opn.length-1<g.opn.length:=Y6
 have hle:g.opn.length-1<=g.opn.length:=Y6
 have hle2:((g.opn.length-1:Nat):Int)<=(g.opn.length:Int):=Y6
 have hno:=tL (m:=junk) hk2
 have hnd:=dv hx0
 have hne:(x0.name==t.name)=true:=by rw[hxn];simp
 refine aG call29 func29 results29 ntmps29 ?_;intro b0 hb0 zN
 have ly:=aq hb0 hy
 have y0:=aE ly;have y1:=ak ly;have y2:=ay ly;have y3:=ae ly
 have lz:=aq hb0 hz
 have w0:=aE lz;have w1:=ak lz;have w2:=ay lz;have w3:=ae lz
 have n3:=IT hyz;have n6:=IT (WU hyz)
 repeat' first|simp only[results29,ntmps29,aF,aY,q4,q2,ho0,hwl,hlt,hle,hno,bH,hnd,aC,hkv,hne,hy,hz,y0,y1,w0,w1,Bt,au,aH,seval] | refine bm  ZJ  ?_
 all_goals ((refine Fin.give [(y,none),(z,none)] [] ?_ ?_ ?_ ?_ ?_ (bc ho (by simp[ba,tgt]))<;>(try simp only[hy,hz,y0,y1,w0,w1,n3,n6,aa,aw,Lm,hH,au,aH,seval])<;>(try simp only[aB])<;>(try omega)))
def jT (g:Gr)(n:Nat)(hg:g.Ok n)(hn:n<=1000)(junk:ZB)(y z:Nat)(t:Tk)(txt:Bool)(hk4:t.kind≠4)(hk2:t.kind≠2)(e:Int)(he:((g.opn.isEmpty && !g.v.isEmpty)=true/\e=80)\/((g.opn.isEmpty && !g.v.isEmpty)=false/\12<=g.opn.length/\e=100))(M:ah)(nm:Nat)(hyz:y≠z)(hy:M y=some ⟨6,g.v.map aC⟩)(hz:M z=some ⟨1,(g.opn++junk).map bH⟩)(ho:∀ w,(M w).isSome=true->w∈[y,z]) :
  Ev cx 29 nm [.agg [.own y 0 g.v.length,.own z 0 g.opn.length],.agg (aY t),.bool txt] M (.tup [.agg [.own y 0 g.v.length,.own z 0 g.opn.length],.int .i64 e]) [(y,some ⟨6,g.v.map aC⟩),(z,some ⟨1,(g.opn++junk).map bH⟩)]:=by
 have q4:((t.kind:Int)==4)=false:=If Y6
 have q2:((t.kind:Int)==2)=false:=If Y6
 have hvl:=hg.len
 have hl12:=hg.deep
 have ho0:=gS g.opn
 have hv0:decide ((0:Int)<(g.v.length:Int)) = !g.v.isEmpty:=by
  cases h:g.v with
  | nil=>rfl
  | cons a b=>simp
 have hop:g.opn.isEmpty=true->g.opn.length=0:=fun h=>by rw[XC.1 h];rfl
 generalize hA:g.opn.isEmpty=bA at he ho0 hop
 generalize hB:g.v.isEmpty=bB at he hv0
 have hcs:(bA=true/\bB=false/\e=80)\/(bA=false/\12<=g.opn.length/\e=100):=by
  rcases he with ⟨h1,h2⟩|⟨h1,h2,h3⟩
  ·cases bA<;>cases bB<;>simp at h1 ⊢;exact h2
  ·cases bA with
   | true=>have:=hop rfl;omega
   | false=>right;exact⟨rfl,h2,h3⟩
 clear he
 rcases hcs with ⟨rfl,rfl,rfl⟩|⟨rfl,h12',rfl⟩
 ·refine aG call29 func29 results29 ntmps29 ?_;intro b0 hb0 zN
  have ly:=aq hb0 hy
  have y0:=aE ly;have y1:=ak ly;have y2:=ay ly;have y3:=ae ly
  have lz:=aq hb0 hz
  have w0:=aE lz;have w1:=ak lz;have w2:=ay lz;have w3:=ae lz
  have n3:=IT hyz;have n6:=IT (WU hyz)
  repeat' first|simp only[results29,ntmps29,aF,aY,q4,q2,ho0,hv0,Bf,au,aH,seval]
  all_goals ((refine Fin.give [(y,none),(z,none)] [] ?_ ?_ ?_ ?_ ?_ (bc ho (by simp[ba,tgt]))<;>(try simp only[hy,hz,y0,y1,w0,w1,n3,n6,aa,aw,Lm,hH,au,aH,seval])<;>(try simp only[aB])<;>(try omega)))
 ·have hd12:((g.opn.length:Int)==12)=true:=by rw[W3];omega
  refine aG call29 func29 results29 ntmps29 ?_;intro b0 hb0 zN
  have ly:=aq hb0 hy
  have y0:=aE ly;have y1:=ak ly;have y2:=ay ly;have y3:=ae ly
  have lz:=aq hb0 hz
  have w0:=aE lz;have w1:=ak lz;have w2:=ay lz;have w3:=ae lz
  have n3:=IT hyz;have n6:=IT (WU hyz)
  repeat' first|simp only[results29,ntmps29,aF,aY,q4,q2,ho0,hd12,au,aH,seval]
  all_goals ((refine Fin.give [(y,none),(z,none)] [] ?_ ?_ ?_ ?_ ?_ (bc ho (by simp[ba,tgt]))<;>(try simp only[hy,hz,y0,y1,w0,w1,n3,n6,aa,aw,Lm,hH,au,aH,seval])<;>(try simp only[aB])<;>(try omega)))
def pp (g:Gr)(n:Nat)(hg:g.Ok n)(hn:n<=1000)(junk:ZB)(y z:Nat)(t:Tk)(txt:Bool)(hta:t.attrs.length<=1000)(hk4:t.kind≠4)(hk2:t.kind≠2)(h1:(g.opn.isEmpty && !g.v.isEmpty)=false)(h2:g.opn.length<12)(b3:Bool)(hb3:((t.kind:Int)==3)=b3)(M:ah)(nm:Nat)(hyz:y≠z)(hy:M y=some ⟨6,g.v.map aC⟩)(hz:M z=some ⟨1,(g.opn++junk).map bH⟩)(ho:∀ w,(M w).isSome=true->w∈[y,z])(hyn:y<nm)(hzn:z<nm) :
  Ev cx 29 nm [.agg [.own y 0 g.v.length,.own z 0 g.opn.length],.agg (aY t),.bool txt] M (.tup [.agg [.own nm 0 (g.v.length+1),.own (nm+1) 0 (if b3 then g.opn.length else g.opn.length+1)],.int .i64 0]) [(y,none),(z,none),(nm,some ⟨6,(kO g.v g.opn).map aC++[[.int .u8 1,.str [],.str t.name,.sl false 3 ((bq t.attrs).map bi),.str [],.int .i64 0]]⟩),(nm+1,some ⟨1,g.opn.map bH++[bH g.v.length]⟩)]:=by
 have q4:((t.kind:Int)==4)=false:=If Y6
 have q2:((t.kind:Int)==2)=false:=If Y6
 have hvl:=hg.len
 have hl12:=hg.deep
 have ho0:=gS g.opn
 have hv0:decide ((0:Int)<(g.v.length:Int)) = !g.v.isEmpty:=by
  cases h:g.v with
  | nil=>rfl
  | cons a b=>simp
 have hd12:((g.opn.length:Int)==12)=false:=If Y6
 generalize hA:g.opn.isEmpty=bA at h1 ho0
 generalize hB:g.v.isEmpty=bB at h1 hv0
 have hcs:bA=false\/(bA=true/\bB=true):=by cases bA<;>cases bB<;>simp at h1 ⊢
 clear h1
 have hwl:IntKind.i64.wrap (((g.opn.length+1:Nat):Int)-1)=(g.opn.length:Int):=by rw[aX];omega
 have hwl2:IntKind.i64.wrap ((g.opn.length:Int)+1-1)=(g.opn.length:Int):=by rw[aX];omega
 have hle:g.opn.length<=g.opn.length+1:=Y6
 have hle2:(g.opn.length:Int)<=((g.opn.length+1:Nat):Int):=Y6
 have hgv:=JQ t.attrs hta
 rcases hcs with rfl|⟨rfl,rfl⟩<;>cases b3
 all_goals (
  refine aG call29 func29 results29 ntmps29 ?_;intro b0 hb0 zN
  have ly:=aq hb0 hy
  have y0:=aE ly;have y1:=ak ly;have y2:=ay ly;have y3:=ae ly
  have lz:=aq hb0 hz
  have w0:=aE lz;have w1:=ak lz;have w2:=ay lz;have w3:=ae lz
  have n3:=IT hyz;have n6:=IT (WU hyz)
  have hw:=fun (M':ah) (b:M' y=some ⟨6,g.v.map aC⟩) (c:M' z=some ⟨1,(g.opn++junk).map bH⟩) (d:∀ w,(M' w).isSome=true->w∈[y,z]) (m:Nat) (h1:y<m) (h2:z<m)=>K9 g n hg hn junk y z t.name (bq t.attrs) M' m hyz b c d h1 h2
  repeat' first|simp only[aK,results29,ntmps29,aF,aA,aY,q4,q2,hb3,ho0,hv0,hd12,hwl,hle,hy,hz,bo,jH,y0,y1,y2,y3,w0,w1,w2,w3,n3,n6,Bt,au,aH,seval]|exact rfl|refine ab ?_ [y,z] (hw _ ?_ ?_ ac _ Y6 Y6) ?_ ?_|((refine SB (xs:=?_) (xs':=?_) [] ?_ ?_ ?_ ?_ ((hgv _).args_le ?_) ?_);rotate_left 2) | refine qf [(0,5),(2,5)] ?_
  all_goals ((refine Fin.give [(b0+496,some 0),(b0+497,some 1)] [y,z] ?_ ?_ ?_ ?_ ?_ (bc ho (by simp[ba,tgt]))<;>(try simp only[bH,y3,w3,aj,No,aM,aa,aw,hH,au,aH,seval])<;>(try simp only[aB])<;>(try omega))))
def PSt.inv2 (l:List Tk)(x:PSt):Prop:=x.inv l/\((x.k=0/\x.last=0) \/ ∃ m p,x.k=m+1/\l[m]? = some p/\p.kind=x.last)
def wG (l:List Tk)(hl:l.length<=600)(hs:∀ t∈l,t.okTo 1000000/\t.attrs.length<=30)(nm:Nat)(v:V)(eff:List (Nat×Option Blk))(hve:(bU l≠0/\v = .tup [.nils,.int .i64 (bU l)]/\eff=[])\/(bU l=0/\v = .tup [.own nm 0 (bJ l).length,.int .i64 0]/\eff=[(nm,some ⟨6,(bJ l).map aC⟩)])) :
    Ev cx 14 nm [.sl false 4 (l.map aY)] ah.nil v eff:=by
  have hlim:∀ t∈l,t.okTo aN:=fun t ht=>by
    obtain⟨⟨h1,h2,h3,h4⟩,_⟩:=hs t ht
    unfold aN
    exact⟨by omega,by omega,by omega,fun a ha=>by have:=h4 a ha;omega⟩
  by_cases h512:512<l.length
  · have he:=wu h512
    have hd:decide ((512:Int)<(l.length:Int))=true:=bz
    rcases hve with ⟨_,rfl,rfl⟩|⟨h0,_⟩
    · rw[he]
      refine aG call14 func14 results14 ntmps14 ?_;intro b0 hb0 zN
      (repeat' first|simp only[results14,ntmps14,aF,hd,Lm,au,aH,seval] | apply Fin.pure)
    · omega
  · have hd : decide ((512:Int)<(l.length:Int))=false:=aL
    refine aG call14 func14 results14 ntmps14 ?_;intro b0 hb0 zN
    repeat' first|simp only[aF,hd,Lm,au,aH,seval]
    (refine v8 (fun x:Nat=>l.length-x) (fun x=>x<=l.length/\((l.take x).any fun t=>!dy t)=false) (b0+16) (fun x=>[(0,.sl false 4 (l.map aY)),(4,.int .i64 x)]) (fun x=>[]) (0) [] ?_ ?_ ?_;(focus (refine⟨?_,?_⟩<;>(try simp only[bL,ax,au,aB,seval])<;>(try omega))))
    · exact⟨WB _,by simp⟩
    · rintro k ⟨hk,hno⟩
      by_cases hlt:k<l.length
      · obtain⟨t,ht⟩:=js hlt
        have hat:=gO ht
        have hd1:=AI hlt
        have hwk:=eX k
        have hmy:=rMayT_ev t (hlim t (By ht))
        cases hp:dy t with
        | false =>
          rw[hp]at hmy
          have he:=zm h512 (Xa.2 ⟨t,By ht,by simp[hp]⟩)
          rcases hve with ⟨_,rfl,rfl⟩|⟨h0,_⟩
          · rw[he]
            (repeat' first|simp only[results14,ntmps14,aF,hat,aY,hlt,Bf,Lm,au,aH,seval]|(refine ad ?_ (hmy _) ?_) | apply Fin.pure)
          · omega
        | true =>
          rw[hp]at hmy
          have hno':=eK (p:=fun t=>!dy t) hno ht (by simp[hp])
          repeat' first|simp only[aF,hat,aY,hlt,Bt,Lm,au,aH,seval]|refine ad ?_ (hmy _) ?_
          all_goals ((refine pX (k+1) [] ?_ ?_ ?_;(focus (refine⟨?_,?_⟩<;>(try simp only[bL,ax,hwk,au,aB,seval])<;>(try omega)))))
          all_goals (first|(show l.length-(k+1)<l.length-k;omega)|exact⟨hlt,hno'⟩ )
      · have hke:k=l.length:=Y6
        subst hke
        rw[WJ]at hno
        have hany:=hno
        have hd1:decide (l.length<l.length)=false:=aL
        repeat' first|simp only[aF,Lm,au,aH,seval]
        (refine v8 (fun x:PSt=>l.length-x.k) (fun x=>x.inv2 l) (b0+16) (fun x=>[(0,.sl false 4 (l.map aY)),(5,.ptr b0 0 0),(6,.int .i64 x.k)]) (fun x=>[(b0,⟨2,[[.own (b0+1) 0 x.g.v.length,.own (b0+2) 0 x.g.opn.length]]⟩),(b0+1,⟨6,x.g.v.map aC⟩),(b0+2,⟨1,(x.g.opn++x.junk).map bH⟩)]) (PSt.mk 0 (Gr.mk [] []) [] 0) [some (b0+80),none,none] ?_ ?_ ?_;(focus (refine⟨?_,?_⟩<;>(try simp only[bL,ax,am,No,Lo,WR,List.length_nil,au,aB,seval])<;>(try omega))))
        · exact⟨⟨WB _,w7,rfl⟩,.inl ⟨rfl,rfl⟩⟩
        · rintro ⟨k,g,junk,last⟩ hinv2
          have hinv:=hinv2.1
          have hprev:=hinv2.2
          simp only at hprev
          obtain⟨hk,hg,hgo⟩:=hinv
          simp only at hk hg hgo
          have hvl:=hg.len
          by_cases hlt:k<l.length
          · obtain ⟨t,ht⟩:∃ t,l[k]? = some t:=⟨_,AT hlt⟩
            have hat:=gO ht
            have hd1:=AI hlt
            have hwk:=eX k
            obtain⟨hto,h30⟩:=hs t (By ht)
            have htok:dy t=true:=by
              cases hh:dy t with
              | true=>rfl
              | false=>rw[Xa.2 ⟨t,By ht,by simp[hh]⟩]at hany;cases hany
            have herr:∀ e:Int,(stepG g t (last==4)).2=e->e≠0->bU l=e:=fun e h1 h2=>zn h512 hany (Hk hinv2.1 ht h1 h2) h2
            have hnext:∀(g':Gr) (junk':ZB),stepG g t (last==4)=(g',0)->PSt.inv2 l ⟨k+1,g',junk',t.kind⟩:=fun g' junk' h=>⟨C6 hinv2.1 ht h junk',.inr ⟨k,t,rfl,ht,rfl⟩⟩
            -- was the last one a text
            obtain⟨dk,pk,m,p,hdk,hpk,hmp,hwm⟩:∃(dk pk:Bool) (m:Nat) (p:Tk),decide ((0:Int)<(k:Int))=dk/\(dk=false->(last==4)=false)/\(dk=true->k=m+1/\l[m]? = some p/\m<l.length/\((p.kind:Int)==4)=pk/\(last==4)=pk)/\(dk=true->IntKind.i64.wrap ((k:Int)-1)=(m:Int)):=by
              rcases hprev with ⟨rfl,rfl⟩|⟨m,p,rfl,hm,hpl⟩
              · exact⟨false,false,0,t,rfl,(fun _=>rfl),(fun h=>by cases h),(fun h=>by cases h)⟩
              · refine⟨true,(last==4),m,p,bz,(fun h=>by cases h),(fun _=>⟨rfl,hm,by omega,?_,rfl⟩),(fun _=>by rw[aX];omega)⟩
                rw[hpl,WL];simp;omega
            rcases vS htok with hk1|hk1|hk1|hk1
            · have hs0:stepG g t (last==4)=(if (g.opn.isEmpty && !g.v.isEmpty)=true then (g,80) else if 12<=g.opn.length then (g,100) else (⟨gX g (eo t),if t.kind=1 then g.opn++[g.v.length] else g.opn⟩,0)):=by unfold stepG;rw[if_neg Y6,if_neg Y6]
              by_cases c1:(g.opn.isEmpty && !g.v.isEmpty)=true
              · have hst:stepG g t (last==4)=(g,80):=by rw[hs0,if_pos c1]
                have he:=herr 80 (by rw[hst]) Y6
                rcases hve with ⟨_,rfl,rfl⟩|⟨h0,_⟩
                · rw [he]
                  · cases dk with
                    | false =>
                      have hlast:=hpk rfl
                      have hc:=fun (M':ah) (b:M' (b0+1)=some ⟨6,g.v.map aC⟩) (c:M' (b0+2)=some ⟨1,(g.opn++junk).map bH⟩) (d:∀ w,(M' w).isSome=true->w∈[b0+1,b0+2]) (m:Nat)=>jT g k hg Y6 junk (b0+1) (b0+2) t (last==4) Y6 Y6 80 (.inl ⟨c1,rfl⟩) M' m Y6 b c d
                      rw[hlast]at hc
                      (repeat' first|simp only[aK,results14,ntmps14,aF,aY,hat,hlt,bo,hdk,Lm,au,aH,seval]|refine ab ?_ [b0+1,b0+2] (hc _ ?_ ?_ ac _) ?_ ?_|refine qf [(0,20),(3,20),(4,20),(11,20),(13,20),(16,20)] ?_ | apply Fin.pure)
                    | true =>
                      obtain⟨hkm,hmp1,hmp2,hmp3,hlast⟩:=hmp rfl
                      have hwm1:=hwm rfl
                      have hpt:=gO hmp1
                      have hc:=fun (M':ah) (b:M' (b0+1)=some ⟨6,g.v.map aC⟩) (c:M' (b0+2)=some ⟨1,(g.opn++junk).map bH⟩) (d:∀ w,(M' w).isSome=true->w∈[b0+1,b0+2]) (m:Nat)=>jT g k hg Y6 junk (b0+1) (b0+2) t (last==4) Y6 Y6 80 (.inl ⟨c1,rfl⟩) M' m Y6 b c d
                      rw[hlast]at hc
                      (repeat' first|simp only[aK,results14,ntmps14,aF,aY,hat,hlt,bo,hdk,hwm1,hpt,hmp2,hmp3,Lm,au,aH,seval]|refine ab ?_ [b0+1,b0+2] (hc _ ?_ ?_ ac _) ?_ ?_|refine qf [(0,20),(3,20),(4,20),(11,20),(13,20),(16,20)] ?_ | apply Fin.pure)
                · omega
              · have c1':(g.opn.isEmpty && !g.v.isEmpty)=false:=by simpa using c1
                by_cases c2:12<=g.opn.length
                · have hst:stepG g t (last==4)=(g,100):=by rw[hs0,if_neg c1,if_pos c2]
                  have he:=herr 100 (by rw[hst]) Y6
                  rcases hve with ⟨_,rfl,rfl⟩|⟨h0,_⟩
                  · rw [he]
                    · cases dk with
                      | false =>
                        have hlast:=hpk rfl
                        have hc:=fun (M':ah) (b:M' (b0+1)=some ⟨6,g.v.map aC⟩) (c:M' (b0+2)=some ⟨1,(g.opn++junk).map bH⟩) (d:∀ w,(M' w).isSome=true->w∈[b0+1,b0+2]) (m:Nat)=>jT g k hg Y6 junk (b0+1) (b0+2) t (last==4) Y6 Y6 100 (.inr ⟨c1',c2,rfl⟩) M' m Y6 b c d
                        rw[hlast]at hc
                        (repeat' first|simp only[aK,results14,ntmps14,aF,aY,hat,hlt,bo,hdk,Lm,au,aH,seval]|refine ab ?_ [b0+1,b0+2] (hc _ ?_ ?_ ac _) ?_ ?_|refine qf [(0,20),(3,20),(4,20),(11,20),(13,20),(16,20)] ?_ | apply Fin.pure)
                      | true =>
                        obtain⟨hkm,hmp1,hmp2,hmp3,hlast⟩:=hmp rfl
                        have hwm1:=hwm rfl
                        have hpt:=gO hmp1
                        have hc:=fun (M':ah) (b:M' (b0+1)=some ⟨6,g.v.map aC⟩) (c:M' (b0+2)=some ⟨1,(g.opn++junk).map bH⟩) (d:∀ w,(M' w).isSome=true->w∈[b0+1,b0+2]) (m:Nat)=>jT g k hg Y6 junk (b0+1) (b0+2) t (last==4) Y6 Y6 100 (.inr ⟨c1',c2,rfl⟩) M' m Y6 b c d
                        rw[hlast]at hc
                        (repeat' first|simp only[aK,results14,ntmps14,aF,aY,hat,hlt,bo,hdk,hwm1,hpt,hmp2,hmp3,Lm,au,aH,seval]|refine ab ?_ [b0+1,b0+2] (hc _ ?_ ?_ ac _) ?_ ?_|refine qf [(0,20),(3,20),(4,20),(11,20),(13,20),(16,20)] ?_ | apply Fin.pure)
                  · omega
                · have hst:stepG g t (last==4)=(⟨gX g (eo t),g.opn++[g.v.length]⟩,0):=by rw[hs0,if_neg c1,if_neg c2,if_pos hk1]
                  have hal:=eF g (eo t)
                  have ham:=lR g (eo t)
                  have hb3:((t.kind:Int)==3)=false:=by rw[hk1];rfl
                  have hno2:g.opn.map bH++[bH g.v.length]=(g.opn++[g.v.length]).map bH:=by simp
                  · cases dk with
                    | false =>
                      have hlast:=hpk rfl
                      have hc:=fun (M':ah) (b:M' (b0+1)=some ⟨6,g.v.map aC⟩) (c:M' (b0+2)=some ⟨1,(g.opn++junk).map bH⟩) (d:∀ w,(M' w).isSome=true->w∈[b0+1,b0+2]) (m:Nat) (h1:b0+1<m) (h2:b0+2<m)=>pp g k hg Y6 junk (b0+1) (b0+2) t (last==4) Y6 Y6 Y6 c1' Y6 false hb3 M' m Y6 b c d h1 h2
                      rw[hlast]at hc
                      repeat' first|simp only[aK,aF,aY,hat,hlt,bo,hdk,Lm,au,aH,seval]|refine ab ?_ [b0+1,b0+2] (hc _ ?_ ?_ ac _ Y6 Y6) ?_ ?_|refine qf [(0,20),(3,20),(4,20),(11,20),(13,20),(16,20)] ?_
                      all_goals ((refine pX (PSt.mk (k+1) (Gr.mk (gX g (eo t)) (g.opn++[g.v.length])) [] t.kind) [some b0,some (b0+336),some (b0+337)] ?_ ?_ ?_;(focus (refine⟨?_,?_⟩<;>(try simp only[bL,hwk,hal,ham,hno2,mf,aj,WR,List.length_append,List.length_cons,List.length_nil,aM,ax,aa,aw,No,au,aB,seval])<;>(try omega)))))
                      all_goals (first|(show l.length-(k+1)<l.length-k;omega)|exact hnext _ _ hst)
                    | true =>
                      obtain⟨hkm,hmp1,hmp2,hmp3,hlast⟩:=hmp rfl
                      have hwm1:=hwm rfl
                      have hpt:=gO hmp1
                      have hc:=fun (M':ah) (b:M' (b0+1)=some ⟨6,g.v.map aC⟩) (c:M' (b0+2)=some ⟨1,(g.opn++junk).map bH⟩) (d:∀ w,(M' w).isSome=true->w∈[b0+1,b0+2]) (m:Nat) (h1:b0+1<m) (h2:b0+2<m)=>pp g k hg Y6 junk (b0+1) (b0+2) t (last==4) Y6 Y6 Y6 c1' Y6 false hb3 M' m Y6 b c d h1 h2
                      rw[hlast]at hc
                      repeat' first|simp only[aK,aF,aY,hat,hlt,bo,hdk,hwm1,hpt,hmp2,hmp3,Lm,au,aH,seval]|refine ab ?_ [b0+1,b0+2] (hc _ ?_ ?_ ac _ Y6 Y6) ?_ ?_|refine qf [(0,20),(3,20),(4,20),(11,20),(13,20),(16,20)] ?_
                      all_goals ((refine pX (PSt.mk (k+1) (Gr.mk (gX g (eo t)) (g.opn++[g.v.length])) [] t.kind) [some b0,some (b0+336),some (b0+337)] ?_ ?_ ?_;(focus (refine⟨?_,?_⟩<;>(try simp only[bL,hwk,hal,ham,hno2,mf,aj,WR,List.length_append,List.length_cons,List.length_nil,aM,ax,aa,aw,No,au,aB,seval])<;>(try omega)))))
                      all_goals (first|(show l.length-(k+1)<l.length-k;omega)|exact hnext _ _ hst)
            · have hs0:stepG g t (last==4)=(if (g.opn.isEmpty && !g.v.isEmpty)=true then (g,80) else if 12<=g.opn.length then (g,100) else (⟨gX g (eo t),if t.kind=1 then g.opn++[g.v.length] else g.opn⟩,0)):=by unfold stepG;rw[if_neg Y6,if_neg Y6]
              by_cases c1:(g.opn.isEmpty && !g.v.isEmpty)=true
              · have hst:stepG g t (last==4)=(g,80):=by rw[hs0,if_pos c1]
                have he:=herr 80 (by rw[hst]) Y6
                rcases hve with ⟨_,rfl,rfl⟩|⟨h0,_⟩
                · rw [he]
                  · cases dk with
                    | false =>
                      have hlast:=hpk rfl
                      have hc:=fun (M':ah) (b:M' (b0+1)=some ⟨6,g.v.map aC⟩) (c:M' (b0+2)=some ⟨1,(g.opn++junk).map bH⟩) (d:∀ w,(M' w).isSome=true->w∈[b0+1,b0+2]) (m:Nat)=>jT g k hg Y6 junk (b0+1) (b0+2) t (last==4) Y6 Y6 80 (.inl ⟨c1,rfl⟩) M' m Y6 b c d
                      rw[hlast]at hc
                      (repeat' first|simp only[aK,results14,ntmps14,aF,aY,hat,hlt,bo,hdk,Lm,au,aH,seval]|refine ab ?_ [b0+1,b0+2] (hc _ ?_ ?_ ac _) ?_ ?_|refine qf [(0,20),(3,20),(4,20),(11,20),(13,20),(16,20)] ?_ | apply Fin.pure)
                    | true =>
                      obtain⟨hkm,hmp1,hmp2,hmp3,hlast⟩:=hmp rfl
                      have hwm1:=hwm rfl
                      have hpt:=gO hmp1
                      have hc:=fun (M':ah) (b:M' (b0+1)=some ⟨6,g.v.map aC⟩) (c:M' (b0+2)=some ⟨1,(g.opn++junk).map bH⟩) (d:∀ w,(M' w).isSome=true->w∈[b0+1,b0+2]) (m:Nat)=>jT g k hg Y6 junk (b0+1) (b0+2) t (last==4) Y6 Y6 80 (.inl ⟨c1,rfl⟩) M' m Y6 b c d
                      rw[hlast]at hc
                      (repeat' first|simp only[aK,results14,ntmps14,aF,aY,hat,hlt,bo,hdk,hwm1,hpt,hmp2,hmp3,Lm,au,aH,seval]|refine ab ?_ [b0+1,b0+2] (hc _ ?_ ?_ ac _) ?_ ?_|refine qf [(0,20),(3,20),(4,20),(11,20),(13,20),(16,20)] ?_ | apply Fin.pure)
                · omega
              · have c1':(g.opn.isEmpty && !g.v.isEmpty)=false:=by simpa using c1
                by_cases c2:12<=g.opn.length
                · have hst:stepG g t (last==4)=(g,100):=by rw[hs0,if_neg c1,if_pos c2]
                  have he:=herr 100 (by rw[hst]) Y6
                  rcases hve with ⟨_,rfl,rfl⟩|⟨h0,_⟩
                  · rw [he]
                    · cases dk with
                      | false =>
                        have hlast:=hpk rfl
                        have hc:=fun (M':ah) (b:M' (b0+1)=some ⟨6,g.v.map aC⟩) (c:M' (b0+2)=some ⟨1,(g.opn++junk).map bH⟩) (d:∀ w,(M' w).isSome=true->w∈[b0+1,b0+2]) (m:Nat)=>jT g k hg Y6 junk (b0+1) (b0+2) t (last==4) Y6 Y6 100 (.inr ⟨c1',c2,rfl⟩) M' m Y6 b c d
                        rw[hlast]at hc
                        (repeat' first|simp only[aK,results14,ntmps14,aF,aY,hat,hlt,bo,hdk,Lm,au,aH,seval]|refine ab ?_ [b0+1,b0+2] (hc _ ?_ ?_ ac _) ?_ ?_|refine qf [(0,20),(3,20),(4,20),(11,20),(13,20),(16,20)] ?_ | apply Fin.pure)
                      | true =>
                        obtain⟨hkm,hmp1,hmp2,hmp3,hlast⟩:=hmp rfl
                        have hwm1:=hwm rfl
                        have hpt:=gO hmp1
                        have hc:=fun (M':ah) (b:M' (b0+1)=some ⟨6,g.v.map aC⟩) (c:M' (b0+2)=some ⟨1,(g.opn++junk).map bH⟩) (d:∀ w,(M' w).isSome=true->w∈[b0+1,b0+2]) (m:Nat)=>jT g k hg Y6 junk (b0+1) (b0+2) t (last==4) Y6 Y6 100 (.inr ⟨c1',c2,rfl⟩) M' m Y6 b c d
                        rw[hlast]at hc
                        (repeat' first|simp only[aK,results14,ntmps14,aF,aY,hat,hlt,bo,hdk,hwm1,hpt,hmp2,hmp3,Lm,au,aH,seval]|refine ab ?_ [b0+1,b0+2] (hc _ ?_ ?_ ac _) ?_ ?_|refine qf [(0,20),(3,20),(4,20),(11,20),(13,20),(16,20)] ?_ | apply Fin.pure)
                  · omega
                · have hst:stepG g t (last==4)=(⟨gX g (eo t),g.opn⟩,0):=by rw[hs0,if_neg c1,if_neg c2,if_neg Y6]
                  have hal:=eF g (eo t)
                  have ham:=lR g (eo t)
                  have hb3:((t.kind:Int)==3)=true:=by rw[hk1];rfl
                  have hno2:g.opn.map bH++[bH g.v.length]=(g.opn++[g.v.length]).map bH:=by simp
                  · cases dk with
                    | false =>
                      have hlast:=hpk rfl
                      have hc:=fun (M':ah) (b:M' (b0+1)=some ⟨6,g.v.map aC⟩) (c:M' (b0+2)=some ⟨1,(g.opn++junk).map bH⟩) (d:∀ w,(M' w).isSome=true->w∈[b0+1,b0+2]) (m:Nat) (h1:b0+1<m) (h2:b0+2<m)=>pp g k hg Y6 junk (b0+1) (b0+2) t (last==4) Y6 Y6 Y6 c1' Y6 true hb3 M' m Y6 b c d h1 h2
                      rw[hlast]at hc
                      repeat' first|simp only[aK,aF,aY,hat,hlt,bo,hdk,Lm,au,aH,seval]|refine ab ?_ [b0+1,b0+2] (hc _ ?_ ?_ ac _ Y6 Y6) ?_ ?_|refine qf [(0,20),(3,20),(4,20),(11,20),(13,20),(16,20)] ?_
                      all_goals ((refine pX (PSt.mk (k+1) (Gr.mk (gX g (eo t)) (g.opn)) [g.v.length] t.kind) [some b0,some (b0+336),some (b0+337)] ?_ ?_ ?_;(focus (refine⟨?_,?_⟩<;>(try simp only[bL,hwk,hal,ham,hno2,mf,aj,aM,ax,aa,aw,No,au,aB,seval])<;>(try omega)))))
                      all_goals (first|(show l.length-(k+1)<l.length-k;omega)|exact hnext _ _ hst)
                    | true =>
                      obtain⟨hkm,hmp1,hmp2,hmp3,hlast⟩:=hmp rfl
                      have hwm1:=hwm rfl
                      have hpt:=gO hmp1
                      have hc:=fun (M':ah) (b:M' (b0+1)=some ⟨6,g.v.map aC⟩) (c:M' (b0+2)=some ⟨1,(g.opn++junk).map bH⟩) (d:∀ w,(M' w).isSome=true->w∈[b0+1,b0+2]) (m:Nat) (h1:b0+1<m) (h2:b0+2<m)=>pp g k hg Y6 junk (b0+1) (b0+2) t (last==4) Y6 Y6 Y6 c1' Y6 true hb3 M' m Y6 b c d h1 h2
                      rw[hlast]at hc
                      repeat' first|simp only[aK,aF,aY,hat,hlt,bo,hdk,hwm1,hpt,hmp2,hmp3,Lm,au,aH,seval]|refine ab ?_ [b0+1,b0+2] (hc _ ?_ ?_ ac _ Y6 Y6) ?_ ?_|refine qf [(0,20),(3,20),(4,20),(11,20),(13,20),(16,20)] ?_
                      all_goals ((refine pX (PSt.mk (k+1) (Gr.mk (gX g (eo t)) (g.opn)) [g.v.length] t.kind) [some b0,some (b0+336),some (b0+337)] ?_ ?_ ?_;(focus (refine⟨?_,?_⟩<;>(try simp only[bL,hwk,hal,ham,hno2,mf,aj,aM,ax,aa,aw,No,au,aB,seval])<;>(try omega)))))
                      all_goals (first|(show l.length-(k+1)<l.length-k;omega)|exact hnext _ _ hst)
            · by_cases hln:iO g=some t.name
              · have hst:stepG g t (last==4)=(⟨g.v,g.opn.dropLast⟩,0):=by unfold stepG;rw[if_neg Y6,if_pos hk1,if_pos hln]
                obtain⟨kl,hkl,_⟩:=WC.1 hln
                have hne:=(gK hkl).1
                have hdl:g.opn.dropLast.length=g.opn.length-1:=by simp
                have hjk:g.opn.dropLast++(kl::junk)=g.opn++junk:=by
                  have:g.opn=g.opn.dropLast++[kl]:=by
                    rw[X3 hne]at hkl
                    cases hkl
                    exact(Xo hne).symm
                  conv=>rhs;rw[this]
                  simp
                · cases dk with
                  | false =>
                    have hlast:=hpk rfl
                    have hc:=fun (M':ah) (b:M' (b0+1)=some ⟨6,g.v.map aC⟩) (c:M' (b0+2)=some ⟨1,(g.opn++junk).map bH⟩) (d:∀ w,(M' w).isSome=true->w∈[b0+1,b0+2]) (m:Nat)=>zA g k hg Y6 junk (b0+1) (b0+2) t (last==4) hk1 hln M' m Y6 b c d
                    rw[hlast]at hc
                    repeat' first|simp only[aK,aF,aY,hat,hlt,bo,hdk,Lm,au,aH,seval]|refine ab ?_ [b0+1,b0+2] (hc _ ?_ ?_ ac _) ?_ ?_|refine qf [(0,20),(3,20),(4,20),(11,20),(13,20),(16,20)] ?_
                    all_goals ((refine pX (PSt.mk (k+1) (Gr.mk g.v g.opn.dropLast) (kl::junk) t.kind) [some b0,some (b0+1),some (b0+2)] ?_ ?_ ?_;(focus (refine⟨?_,?_⟩<;>(try simp only[bL,hwk,hdl,hjk,ax,aa,aw,No,au,aB,seval])<;>(try omega)))))
                    all_goals (first|(show l.length-(k+1)<l.length-k;omega)|exact hnext _ _ hst)
                  | true =>
                    obtain⟨hkm,hmp1,hmp2,hmp3,hlast⟩:=hmp rfl
                    have hwm1:=hwm rfl
                    have hpt:=gO hmp1
                    have hc:=fun (M':ah) (b:M' (b0+1)=some ⟨6,g.v.map aC⟩) (c:M' (b0+2)=some ⟨1,(g.opn++junk).map bH⟩) (d:∀ w,(M' w).isSome=true->w∈[b0+1,b0+2]) (m:Nat)=>zA g k hg Y6 junk (b0+1) (b0+2) t (last==4) hk1 hln M' m Y6 b c d
                    rw[hlast]at hc
                    repeat' first|simp only[aK,aF,aY,hat,hlt,bo,hdk,hwm1,hpt,hmp2,hmp3,Lm,au,aH,seval]|refine ab ?_ [b0+1,b0+2] (hc _ ?_ ?_ ac _) ?_ ?_|refine qf [(0,20),(3,20),(4,20),(11,20),(13,20),(16,20)] ?_
                    all_goals ((refine pX (PSt.mk (k+1) (Gr.mk g.v g.opn.dropLast) (kl::junk) t.kind) [some b0,some (b0+1),some (b0+2)] ?_ ?_ ?_;(focus (refine⟨?_,?_⟩<;>(try simp only[bL,hwk,hdl,hjk,ax,aa,aw,No,au,aB,seval])<;>(try omega)))))
                    all_goals (first|(show l.length-(k+1)<l.length-k;omega)|exact hnext _ _ hst)
              · have hst:stepG g t (last==4)=(g,80):=by unfold stepG;rw[if_neg Y6,if_pos hk1,if_neg hln]
                have he:=herr 80 (by rw[hst]) Y6
                rcases hve with ⟨_,rfl,rfl⟩|⟨h0,_⟩
                · rw [he]
                  · cases dk with
                    | false =>
                      have hlast:=hpk rfl
                      have hc:=fun (M':ah) (b:M' (b0+1)=some ⟨6,g.v.map aC⟩) (c:M' (b0+2)=some ⟨1,(g.opn++junk).map bH⟩) (d:∀ w,(M' w).isSome=true->w∈[b0+1,b0+2]) (m:Nat)=>DK g k hg Y6 junk (b0+1) (b0+2) t (last==4) hk1 hln M' m Y6 b c d
                      rw[hlast]at hc
                      (repeat' first|simp only[aK,results14,ntmps14,aF,aY,hat,hlt,bo,hdk,Lm,au,aH,seval]|refine ab ?_ [b0+1,b0+2] (hc _ ?_ ?_ ac _) ?_ ?_|refine qf [(0,20),(3,20),(4,20),(11,20),(13,20),(16,20)] ?_ | apply Fin.pure)
                    | true =>
                      obtain⟨hkm,hmp1,hmp2,hmp3,hlast⟩:=hmp rfl
                      have hwm1:=hwm rfl
                      have hpt:=gO hmp1
                      have hc:=fun (M':ah) (b:M' (b0+1)=some ⟨6,g.v.map aC⟩) (c:M' (b0+2)=some ⟨1,(g.opn++junk).map bH⟩) (d:∀ w,(M' w).isSome=true->w∈[b0+1,b0+2]) (m:Nat)=>DK g k hg Y6 junk (b0+1) (b0+2) t (last==4) hk1 hln M' m Y6 b c d
                      rw[hlast]at hc
                      (repeat' first|simp only[aK,results14,ntmps14,aF,aY,hat,hlt,bo,hdk,hwm1,hpt,hmp2,hmp3,Lm,au,aH,seval]|refine ab ?_ [b0+1,b0+2] (hc _ ?_ ?_ ac _) ?_ ?_|refine qf [(0,20),(3,20),(4,20),(11,20),(13,20),(16,20)] ?_ | apply Fin.pure)
                · omega
            · have htl:t.text.length<=aN:=by have:=hto.2.2.1;unfold aN;omega
              have hs0:stepG g t (last==4)=(if ((last==4)||(g.opn.isEmpty && !gb t.text))=true then (g,80) else if g.opn.isEmpty=true then (g,0) else (⟨gX g (gN t.text),g.opn⟩,0)):=by unfold stepG;rw[if_pos hk1]
              by_cases c1:((last==4)||(g.opn.isEmpty && !gb t.text))=true
              · have hst:stepG g t (last==4)=(g,80):=by rw[hs0,if_pos c1]
                have he:=herr 80 (by rw[hst]) Y6
                rcases hve with ⟨_,rfl,rfl⟩|⟨h0,_⟩
                · rw [he]
                  · cases dk with
                    | false =>
                      have hlast:=hpk rfl
                      have hc:=fun (M':ah) (b:M' (b0+1)=some ⟨6,g.v.map aC⟩) (c:M' (b0+2)=some ⟨1,(g.opn++junk).map bH⟩) (d:∀ w,(M' w).isSome=true->w∈[b0+1,b0+2]) (m:Nat)=>rP g k hg Y6 junk (b0+1) (b0+2) t (last==4) htl hk1 80 (.inl ⟨c1,rfl⟩) M' m Y6 b c d
                      rw[hlast]at hc
                      (repeat' first|simp only[aK,results14,ntmps14,aF,aY,hat,hlt,bo,hdk,Lm,au,aH,seval]|refine ab ?_ [b0+1,b0+2] (hc _ ?_ ?_ ac _) ?_ ?_|refine qf [(0,20),(3,20),(4,20),(11,20),(13,20),(16,20)] ?_ | apply Fin.pure)
                    | true =>
                      obtain⟨hkm,hmp1,hmp2,hmp3,hlast⟩:=hmp rfl
                      have hwm1:=hwm rfl
                      have hpt:=gO hmp1
                      have hc:=fun (M':ah) (b:M' (b0+1)=some ⟨6,g.v.map aC⟩) (c:M' (b0+2)=some ⟨1,(g.opn++junk).map bH⟩) (d:∀ w,(M' w).isSome=true->w∈[b0+1,b0+2]) (m:Nat)=>rP g k hg Y6 junk (b0+1) (b0+2) t (last==4) htl hk1 80 (.inl ⟨c1,rfl⟩) M' m Y6 b c d
                      rw[hlast]at hc
                      (repeat' first|simp only[aK,results14,ntmps14,aF,aY,hat,hlt,bo,hdk,hwm1,hpt,hmp2,hmp3,Lm,au,aH,seval]|refine ab ?_ [b0+1,b0+2] (hc _ ?_ ?_ ac _) ?_ ?_|refine qf [(0,20),(3,20),(4,20),(11,20),(13,20),(16,20)] ?_ | apply Fin.pure)
                · omega
              · have c1':((last==4)||(g.opn.isEmpty && !gb t.text))=false:=by simpa using c1
                by_cases c2:g.opn.isEmpty=true
                · have hst:stepG g t (last==4)=(g,0):=by rw[hs0,if_neg c1,if_pos c2]
                  · cases dk with
                    | false =>
                      have hlast:=hpk rfl
                      have hc:=fun (M':ah) (b:M' (b0+1)=some ⟨6,g.v.map aC⟩) (c:M' (b0+2)=some ⟨1,(g.opn++junk).map bH⟩) (d:∀ w,(M' w).isSome=true->w∈[b0+1,b0+2]) (m:Nat)=>rP g k hg Y6 junk (b0+1) (b0+2) t (last==4) htl hk1 0 (.inr ⟨c1',c2,rfl⟩) M' m Y6 b c d
                      rw[hlast]at hc
                      repeat' first|simp only[aK,aF,aY,hat,hlt,bo,hdk,Lm,au,aH,seval]|refine ab ?_ [b0+1,b0+2] (hc _ ?_ ?_ ac _) ?_ ?_|refine qf [(0,20),(3,20),(4,20),(11,20),(13,20),(16,20)] ?_
                      all_goals ((refine pX (PSt.mk (k+1) g junk t.kind) [some b0,some (b0+1),some (b0+2)] ?_ ?_ ?_;(focus (refine⟨?_,?_⟩<;>(try simp only[bL,hwk,ax,aa,aw,No,au,aB,seval])<;>(try omega)))))
                      all_goals (first|(show l.length-(k+1)<l.length-k;omega)|exact hnext _ _ hst)
                    | true =>
                      obtain⟨hkm,hmp1,hmp2,hmp3,hlast⟩:=hmp rfl
                      have hwm1:=hwm rfl
                      have hpt:=gO hmp1
                      have hc:=fun (M':ah) (b:M' (b0+1)=some ⟨6,g.v.map aC⟩) (c:M' (b0+2)=some ⟨1,(g.opn++junk).map bH⟩) (d:∀ w,(M' w).isSome=true->w∈[b0+1,b0+2]) (m:Nat)=>rP g k hg Y6 junk (b0+1) (b0+2) t (last==4) htl hk1 0 (.inr ⟨c1',c2,rfl⟩) M' m Y6 b c d
                      rw[hlast]at hc
                      repeat' first|simp only[aK,aF,aY,hat,hlt,bo,hdk,hwm1,hpt,hmp2,hmp3,Lm,au,aH,seval]|refine ab ?_ [b0+1,b0+2] (hc _ ?_ ?_ ac _) ?_ ?_|refine qf [(0,20),(3,20),(4,20),(11,20),(13,20),(16,20)] ?_
                      all_goals ((refine pX (PSt.mk (k+1) g junk t.kind) [some b0,some (b0+1),some (b0+2)] ?_ ?_ ?_;(focus (refine⟨?_,?_⟩<;>(try simp only[bL,hwk,ax,aa,aw,No,au,aB,seval])<;>(try omega)))))
                      all_goals (first|(show l.length-(k+1)<l.length-k;omega)|exact hnext _ _ hst)
                · have c3:g.opn.isEmpty=false:=by simpa using c2
                  have c4:(last==4)=false:=by simp only[XK]at c1';exact c1'.1
                  have hst:stepG g t (last==4)=(⟨gX g (gN t.text),g.opn⟩,0):=by rw[hs0,if_neg c1,if_neg c2]
                  have hal:=eF g (gN t.text)
                  have ham:=lR g (gN t.text)
                  · cases dk with
                    | false =>
                      have hlast:=hpk rfl
                      have hc:=fun (M':ah) (b:M' (b0+1)=some ⟨6,g.v.map aC⟩) (c:M' (b0+2)=some ⟨1,(g.opn++junk).map bH⟩) (d:∀ w,(M' w).isSome=true->w∈[b0+1,b0+2]) (m:Nat) (h1:b0+1<m) (h2:b0+2<m)=>zB g k hg Y6 junk (b0+1) (b0+2) t (last==4) hk1 c4 c3 M' m Y6 b c d h1 h2
                      rw[hlast]at hc
                      repeat' first|simp only[aK,aF,aY,hat,hlt,bo,hdk,Lm,au,aH,seval]|refine ab ?_ [b0+1,b0+2] (hc _ ?_ ?_ ac _ Y6 Y6) ?_ ?_|refine qf [(0,20),(3,20),(4,20),(11,20),(13,20),(16,20)] ?_
                      all_goals ((refine pX (PSt.mk (k+1) (Gr.mk (gX g (gN t.text)) g.opn) junk t.kind) [some b0,some (b0+336),some (b0+2)] ?_ ?_ ?_;(focus (refine⟨?_,?_⟩<;>(try simp only[bL,hwk,hal,ham,wm,sK,Lo,aM,ax,aa,aw,No,au,aB,seval])<;>(try omega)))))
                      all_goals (first|(show l.length-(k+1)<l.length-k;omega)|exact hnext _ _ hst)
                    | true =>
                      obtain⟨hkm,hmp1,hmp2,hmp3,hlast⟩:=hmp rfl
                      have hwm1:=hwm rfl
                      have hpt:=gO hmp1
                      have hc:=fun (M':ah) (b:M' (b0+1)=some ⟨6,g.v.map aC⟩) (c:M' (b0+2)=some ⟨1,(g.opn++junk).map bH⟩) (d:∀ w,(M' w).isSome=true->w∈[b0+1,b0+2]) (m:Nat) (h1:b0+1<m) (h2:b0+2<m)=>zB g k hg Y6 junk (b0+1) (b0+2) t (last==4) hk1 c4 c3 M' m Y6 b c d h1 h2
                      rw[hlast]at hc
                      repeat' first|simp only[aK,aF,aY,hat,hlt,bo,hdk,hwm1,hpt,hmp2,hmp3,Lm,au,aH,seval]|refine ab ?_ [b0+1,b0+2] (hc _ ?_ ?_ ac _ Y6 Y6) ?_ ?_|refine qf [(0,20),(3,20),(4,20),(11,20),(13,20),(16,20)] ?_
                      all_goals ((refine pX (PSt.mk (k+1) (Gr.mk (gX g (gN t.text)) g.opn) junk t.kind) [some b0,some (b0+336),some (b0+2)] ?_ ?_ ?_;(focus (refine⟨?_,?_⟩<;>(try simp only[bL,hwk,hal,ham,wm,sK,Lo,aM,ax,aa,aw,No,au,aB,seval])<;>(try omega)))))
                      all_goals (first|(show l.length-(k+1)<l.length-k;omega)|exact hnext _ _ hst)
          · have hke:k=l.length:=Y6
            subst hke
            have hd1:decide (l.length<l.length)=false:=aL
            rw[XV,Hf]at hgo
            have hv0:((g.v.length:Int)==0)=g.v.isEmpty:=jO _
            have ho0:decide ((0:Int)<(g.opn.length:Int)) = !g.opn.isEmpty:=by
              cases h:g.opn with
              | nil=>rfl
              | cons a b=>simp
            have htn:=qG g.v
            by_cases hx:g.v.isEmpty=true\/g.opn.isEmpty=false
            · have he:=zp h512 hany hgo hx
              rcases hve with ⟨_,rfl,rfl⟩|⟨h0,_⟩
              · rw[he]
                generalize hA:g.v.isEmpty=bA at hx hv0
                generalize hB:g.opn.isEmpty=bB at hx ho0
                cases bA<;>cases bB
                all_goals (try (exfalso;simp at hx;done))
                all_goals ((repeat' first|simp only[results14,ntmps14,aF,hv0,ho0,Bt,Bf,Lm,au,aH,seval] | apply Fin.pure))
              · omega
            · obtain⟨he,hpt⟩:=Dx h512 hany hgo hx
              rcases hve with ⟨h0,_⟩|⟨_,rfl,rfl⟩
              · omega
              · rw[hpt]
                generalize hA:g.v.isEmpty=bA at hx hv0
                generalize hB:g.opn.isEmpty=bB at hx ho0
                cases bA<;>cases bB
                all_goals (try (exfalso;simp at hx;done))
                all_goals (((repeat' first|simp only[results14,ntmps14,aF,hv0,ho0,Bt,Lm,au,aH,seval]);(all_goals (refine Fin.auto (r:=?_) (l:=?_) ?_ ?_ ?_ ?_ ?_ ?_ ?_;rotate_left 1;(simp only[dB,eG,au,seval]);(exact rfl);rotate_left 1;(simp only[V.owns,ownsL,List.cons_append,List.nil_append]);(exact rfl);all_goals (try simp only[cN,dq,htn,aa,cN,dq,Lm,Bd,au,seval]);all_goals (try simp only[aB])))))
end Go.Proofs.YtgboofebldgdjaaGreatDoor
