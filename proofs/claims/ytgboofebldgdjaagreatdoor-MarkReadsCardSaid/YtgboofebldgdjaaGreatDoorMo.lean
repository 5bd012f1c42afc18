/-
 Texts joined: XJj,XJk,XJl,XJm,XJn,XJo,XJp,XJq,XJr,XJs,XJt.
-/
import Derived.Test.YtgboofebldgdjaaGreatDoorMj
set_option maxHeartbeats 32000000
set_option maxRecDepth 100000
set_option linter.all false
namespace Go.Proofs.YtgboofebldgdjaaGreatDoor
open Go Go.RowKit Vm Go.Lib Tryz
def uM (path:List Nd)(K:kw):Prop:=∀ p,pI path.reverse p=((fD p K).getD [],(fD p K).isSome)
def oB (s:ZA):(s.contains 58=false/\df 58 s=none/\dK s=([],s)) \/ ∃ a b,s.contains 58=true/\df 58 s=some (a,b)/\dK s=(a,b):=by
 cases hc:df 58 s with
 | none=>exact .inl ⟨ES (eA.1 hc),rfl,GG (eA.1 hc)⟩
 | some p =>
  obtain⟨a,b⟩:=p
  obtain⟨e,hn⟩:=eB hc
  refine .inr ⟨a,b,?_,rfl,by rw[e];exact Ou hn⟩
  rw[Xh,e];simp
def NM (path:List Nd)(K:kw)(hK:uM path K)(hp:path.length<=1000)(hok:∀ n∈path,n.okTo aN)(a:At)(ha:a.name.length<=aN)(nm:Nat):Ev cx 125 nm [.sl false 6 (path.map aC),.agg (bi a)] ah.nil (.tup [.agg (bi (oI K a)),.bool (tH K a)]) []:=by
 have hpt:=pq a.name ha
 unfold dH at hpt
 unfold oI tH
 rcases oB a.name with ⟨h1,h2,h3⟩|⟨x,y,h1,h2,h3⟩
 ·rw[h2]at hpt
  rw[h1]
  simp only[WH,WS,Bf,W8]
  refine aG call125 func125 results125 ntmps125 ?_;intro b0 hb0 zN
  exact xP (a2 @bi.eq_1 @aa) hpt
 ·rw[h2]at hpt
  rw[h1,h3]
  have hd:=rO path x hp hok
  rw[hK x]at hd
  simp only[WQ,Bt,XN]at hd ⊢
  generalize (fD x K).getD []=S1 at hd ⊢
  generalize (fD x K).isSome=S2 at hd ⊢
  refine aG call125 func125 results125 ntmps125 ?_;intro b0 hb0 zN
  exact xP (a2 @bi.eq_1 @aa) (a2 hpt hd)
def M6 (a b c:Bool):((a&&c)&&b)=((a&&b)&&c):=by cases a<;>cases b<;>cases c<;>rfl
def Nn (pre:List Nd)(n:Nd)(K0:kw)(hK:uM (pre++[n]) (iy K0 true n.attrs).1)(hp:pre.length<=900)(hok:∀ x∈pre++[n],x.okTo aN)(ha:n.attrs.length<=900)(nm:Nat) :
    Ev cx 68 nm [.sl false 6 ((pre++[n]).map aC)] ah.nil (.tup [.agg [.int .u8 1,.str (fP (iy K0 true n.attrs).1 n).1.space,.str (fP (iy K0 true n.attrs).1 n).1.name,.own nm 0 (fP (iy K0 true n.attrs).1 n).1.attrs.length,.str [],.int .i64 n.many],.bool ((iy K0 true n.attrs).2&&(fP (iy K0 true n.attrs).1 n).2)]) [(nm,some ⟨3,(fP (iy K0 true n.attrs).1 n).1.attrs.map bi⟩)]:=by
  have hno:=hok n ZH
  have hpt:=pq n.name hno.2.2.1
  unfold dH at hpt
  have hlen:(pre++[n]).length=pre.length+1:=by simp
  have hat0:((pre++[n]).map aC)[pre.length]? = some (aC n):=by rw[WG];simp
  have w0:IntKind.i64.wrap (((pre++[n]).length:Int)-1)=(pre.length:Int):=by rw[aX];omega
  have hpl:pre.length<(pre++[n]).length:=Y6
  have hpi:(pre.length:Int)<((pre++[n]).length:Int):=Y6
  obtain⟨K,hKe⟩:∃ K,K=(iy K0 true n.attrs).1:=⟨_,rfl⟩
  rw[<- hKe]at hK ⊢
  have hde:=fun p=>rO (pre++[n]) p Y6 hok
  have hat:=fun a h nm=>NM (pre++[n]) K hK Y6 hok a h nm
  obtain⟨P,hP⟩:∃ P,P=dK n.name:=⟨_,rfl⟩
  have hd1:=hde P.1
  rw[hK P.1]at hd1
  unfold fP
  rw[<- hP]
  simp only
  generalize hpath:pre++[n]=path at *
  have hpt2:∀ nm,∃ b,Ev cx 119 nm [.str n.name] ah.nil (.tup [.str P.1,.str P.2,.bool b]) []:=by
    intro nm
    rcases oB n.name with ⟨h1,h2,h3⟩|⟨x,y,h1,h2,h3⟩
    · rw[h2]at hpt;rw[hP,h3];exact⟨false,hpt nm⟩
    · rw[h2]at hpt;rw[hP,h3];exact⟨true,hpt nm⟩
  obtain⟨pb,hpt3⟩:∃ b,∀ nm,Ev cx 119 nm [.str n.name] ah.nil (.tup [.str P.1,.str P.2,.bool b]) []:=by
    rcases oB n.name with ⟨h1,h2,h3⟩|⟨x,y,h1,h2,h3⟩
    · rw[h2]at hpt;rw[hP,h3];exact⟨false,hpt⟩
    · rw[h2]at hpt;rw[hP,h3];exact⟨true,hpt⟩
  clear hpt hpt2
  generalize hS1:(fD P.1 K).getD []=S1 at hd1 ⊢
  generalize hR0:(fD P.1 K).isSome=r0 at hd1 ⊢
  have hz0:(xG K r0 [])=([],r0):=rfl
  have hz1:(iy K0 true [])=(K0,true):=rfl
  refine aG call68 func68 results68 ntmps68 ?_;intro b0 hb0 zN
  (refine xR (a7 w0 hat0 hpl hpi @aC.eq_1 @aa @aj) (a2 hpt3 hd1) ?_)
  (refine v8 (fun x:Nat=>n.attrs.length-x) (fun x=>x<=n.attrs.length) (b0+16) (fun x=>[(0,.sl false 6 (path.map aC)),(2,.ptr b0 0 0),(4,.ptr (b0+1) 0 0),(9,.bool ((iy K0 true (n.attrs.take x)).2&&(xG K r0 (n.attrs.take x)).2)),(10,.ptr (b0+2) 0 0),(11,.int .i64 x)]) (fun x=>[(b0,⟨6,[[.int .u8 0,.str [],.str [],.nils,.str [],.int .i64 0]]⟩),(b0+1,⟨6,[aC n]⟩),(b0+2,⟨6,[[.int .u8 1,.str S1,.str P.2,.own (b0+3) 0 (xG K r0 (n.attrs.take x)).1.length,.str [],.int .i64 n.many]]⟩),(b0+3,⟨3,(xG K r0 (n.attrs.take x)).1.map bi⟩)]) (0) [some b0,some (b0+128),some (b0+528),none] ?_ ?_ ?_;(focus (refine⟨?_,?_⟩<;>(try simp only[bL,hz0,hz1,aC,bi,aa,aj,b8,bg,am,aS,md,cS,dQ,bR,iP,Wq,List.take_zero,Lo,List.length_nil,Lm,au,aH,aB,seval])<;>(try omega))))
  · exact WB _
  · intro k hk
    by_cases hlt:k<n.attrs.length
    · obtain ⟨a,haa⟩:∃ a,n.attrs[k]? = some a:=⟨_,AT hlt⟩
      have hata:=iG haa
      have hao:=hno.2.2.2.2 a (By haa)
      have d1:=AW k n.attrs.length
      have d2:=AI hlt
      have hki:=lV k n.attrs.length
      have hwk:=eX k
      have hlen2:(xG K r0 (n.attrs.take k)).1.length<=900:=by
        have:=uD K (n.attrs.take k) ([],r0)
        unfold xG;simp only[List.length_nil,WK]at this;omega
      have hst:=Dr (K:=K) (r:=r0) haa
      have hsk:=Da (K:=K0) (r:=true) haa
      have hdc:=DD a.name hao.2.1
      obtain⟨e1,e2⟩:=zG a.name
      have hra:=hat a hao.2.1
      generalize hA:xG K r0 (n.attrs.take k)=acc at hst hlen2
      obtain⟨acc,rk⟩:=acc
      generalize hB:iy K0 true (n.attrs.take k)=kn at hsk
      obtain⟨kk,bk⟩:=kn
      dsimp only at hlen2
      have htk:(acc.map bi).take acc.length=acc.map bi:=bF _ _
      unfold Pk at hst
      unfold C9 at hsk
      cases hd:dp a.name with
      | some p =>
        rw[hd]at hst hsk e1
        have q2:(nj a.name).1=p:=by have:=e2 e1;rw[hd]at this;exact(Ww this).symm
        have q1:(nj a.name).2=true:=e1
        rw[q1,q2]at hdc
        simp only at hst hsk
        have hri:=JU p a.value
        generalize Dk p a.value=m at hsk hri
        have hmb:=M6 bk rk m
        cases hbr:(bk&&rk) with
        | false =>
          rw[hbr,Wy]at hmb
          (have zF:=a6 hata @bi.eq_1 @aC.eq_1 hlt hki (a9 d1 d2 hA hB hbr htk @bu @aa @aj);have cF:=a2 hdc hri;repeat' first|refine wS ?_|exact wE|refine ao (v:=.any) ?_|((first|apply b7|apply cM)<;>intro hb)|refine Ai Y6 ?_|(apply Ai<;>intro hb))
          all_goals ((have zF:=a5 hst hsk hA hB (a9 hmb hwk @aC.eq_1 @aa @aj @b8 @bg @aS @am);refine c7 (k+1) [some b0,some (b0+1),some (b0+2),some (b0+3)] ?_ ?_))
          all_goals (first|(show n.attrs.length-(k+1)<n.attrs.length-k;omega)|exact hlt|skip)
        | true =>
          rw[hbr,Wq]at hmb
          (refine xR (a6 hata @bi.eq_1 @aC.eq_1 hlt hki (a9 d1 d2 hA hB hbr htk @bu @aa @aj)) (a2 hdc hri) ?_)
          all_goals ((have zF:=a5 hst hsk hA hB (a9 hmb hwk @aC.eq_1 @aa @aj @b8 @bg @aS @am);refine c7 (k+1) [some b0,some (b0+1),some (b0+2),some (b0+3)] ?_ ?_))
          all_goals (first|(show n.attrs.length-(k+1)<n.attrs.length-k;omega)|exact hlt|skip)
      | none =>
        rw[hd]at hst hsk e1
        have q1:(nj a.name).2=false:=e1
        rw[q1]at hdc
        simp only at hst hsk
        generalize (nj a.name).1=P9 at hdc
        have hsn:=jo acc (oI K a)
        generalize hX:oI K a=x at hst hra hsn
        generalize tH K a=tl at hst hra
        generalize hBT:(bk&&rk)=BT
        (refine xR (a6 hata @bi.eq_1 @aC.eq_1 hlt hki (a9 d1 d2 hA hB hBT htk @bu @aa @aj)) (a2 hdc hra) ?_)
        (refine v8 (fun y:Nat=>acc.length-y) (fun y=>y<=acc.length) (b0+16) (fun y=>[(0,.sl false 6 (path.map aC)),(2,.ptr b0 0 0),(4,.ptr (b0+1) 0 0),(9,.bool ((BT&&tl) && !((acc.take y).any fun b=>gD b x))),(10,.ptr (b0+2) 0 0),(11,.int .i64 k),(14,.ptr (b0+4) 0 0),(16,.int .i64 y)]) (fun y=>[(b0,⟨6,[[.int .u8 0,.str [],.str [],.nils,.str [],.int .i64 0]]⟩),(b0+1,⟨6,[aC n]⟩),(b0+2,⟨6,[[.int .u8 1,.str S1,.str P.2,.own (b0+3) 0 acc.length,.str [],.int .i64 n.many]]⟩),(b0+3,⟨3,acc.map bi⟩),(b0+4,⟨3,[[.str x.space,.str x.name,.str x.value]]⟩)]) (0) [some b0,some (b0+1),some (b0+2),some (b0+3),some (b0+464)] ?_ ?_ ?_;(focus (refine⟨?_,?_⟩<;>(try simp only[bL,hA,hB,hBT,aC,bi,aa,aj,b8,bg,am,aS,md,cS,dQ,iP,Bf,Wz,List.any_nil,List.take_zero,Lo,List.length_nil,Lm,au,aH,aB,seval])<;>(try omega))))
        · exact WB _
        · intro y hy
          by_cases hyl:y<acc.length
          · obtain⟨b,hb⟩:=js hyl
            have hbt:=iG hb
            have f1:=AW y acc.length
            have f2:=AI hyl
            have hyi:=lV y acc.length
            have wy:=eX y
            have hts:(acc.take (y+1)).any (fun b=>gD b x)=((acc.take y).any (fun b=>gD b x)||gD b x):=by
              obtain⟨hk2,he2⟩:=AS.1 hb
              rw[WF hk2,he2,Yw];simp
            generalize (acc.take y).any (fun b=>gD b x)=A0 at hts
            have htw:gD b x=((b.space==x.space)&&(b.name==x.name)):=rfl
            rw[htw]at hts
            cases c1:(b.space==x.space)<;>cases c2:(b.name==x.name)<;>cases c0:((BT&&tl) && !A0)
            all_goals (rw[c1,c2]at hts;simp only[No,Wm,Wy,XD,XG]at hts)
            all_goals ((refine xR (a6 hbt @bi.eq_1 @aC.eq_1 hyl hyi (a9 f1 f2 c0 c1 c2 htk @bu @aa @aj)) trivial ?_))
            all_goals ((have zF:=a2 hts (a9 c0 wy @aC.eq_1 @aa @aj @b8 @bg @aS @am);refine c7 (y+1) [some b0,some (b0+1),some (b0+2),some (b0+3),some (b0+4)] ?_ ?_))
            all_goals (first|(show acc.length-(y+1)<acc.length-y;omega)|exact hyl|skip)
          · have hye:y=acc.length:=Y6
            subst hye
            have f1:=pK acc.length acc.length
            have f2:decide (acc.length<acc.length)=false:=aL
            rw[WJ]
            have hfin:(bk&&((rk&&tl) && !(acc.any fun b=>gD b x)))=((BT&&tl) && !(acc.any fun b=>gD b x)):=by rw[<- hBT];cases bk<;>cases rk<;>rfl
            generalize (acc.any fun b=>gD b x)=TW at hst hfin ⊢
            (refine xR (a8 f1 f2 htk hsn @bi.eq_1 @aC.eq_1 @aa @aj) trivial ?_)
            all_goals ((have zF:=a7 hst hsk hA hB hfin hsn (a9 hwk @aC.eq_1 @aa @aj @b8 @bg @aS @am @List.length_append.{0});refine c7 (k+1) [some b0,some (b0+1),some (b0+2),some (b0+160)] ?_ ?_))
            all_goals (first|(show n.attrs.length-(k+1)<n.attrs.length-k;omega)|exact hlt|skip)
    · have hke:k=n.attrs.length:=Y6
      subst hke
      have d1:=pK n.attrs.length n.attrs.length
      have d2:decide (n.attrs.length<n.attrs.length)=false:=aL
      have htk:=iW (xG K r0 n.attrs).1
      (refine xR (a6 d1 d2 htk @aC.eq_1 @aa @aj) trivial ?_)
      all_goals ((have zF:=a4 @b8 @bg @aj @aa;refine jW [(b0+3,some 0)] [] lB))
def yF {s p:ZA}(hf:bI s=true)(h:dp s=some p):s=if p=[] then [120,109,108,110,115] else [120,109,108,110,115,58]++p:=by
 unfold dp at h
 split at h
 ·simp_all
 ·split at h
  ·rename_i h2
   cases h
   have hs:s=[120,109,108,110,115,58]++s.drop 6:=by
    unfold preB at h2
    simp only[In,WD,W3,List.length_cons,List.length_nil]at h2
    have:=List.take_append_drop 6 s
    simp_all
   by_cases hd:s.drop 6=[]
   ·rw[hd]at hs
    rw[hs]at hf
    exact absurd hf ZI
   grind
  ·cases h
def EW (a:At)(l:List At)(p:ZA):nA (a::l) p=if dp a.name=some p then some a.value else nA l p:=by
 unfold nA
 grind
def Hm:∀ {l:List At} {K:kw} {r:Bool} (p:ZA),l.Pairwise (fun b a=>b.name≠a.name)->(∀ a∈l,bI a.name=true)->fD p (iy K r l).1=match nA l p with|some v=>some v|none=>fD p K
  | [],K,r,p,_,_=>rfl
  | a::l,K,r,p,hu,hf=>by
    have hc:=List.pairwise_cons.1 hu
    have ih:=Hm (l:=l) (K:=(C9 (K,r) a).1) (r:=(C9 (K,r) a).2) p hc.2 (fun x hx=>hf x (Xj _ hx))
    have hs:iy K r (a::l)=iy (C9 (K,r) a).1 (C9 (K,r) a).2 l:=rfl
    rw[hs,ih,EW]
    by_cases hd:dp a.name=some p
    · have hno:nA l p=none:=by
        refine vi (Xz.2 fun x hx hxd=>?_)
        have hxd:dp x.name=some p:=by simp_all
        have e1:=yF (hf a Yf) hd
        have e2:=yF (hf x (Xj _ hx)) hxd
        grind
      rw[hno,if_pos hd]
      unfold C9
      rw[hd]
      simp only
      rw[get_put,if_pos rfl]
    · rw [if_neg hd]
      cases hda:nA l p with
      | some v=>rfl
      | none =>
        unfold C9
        cases hda2:dp a.name with
        | none=>rfl
        | some q =>
          simp only
          rw[get_put,if_neg]
          grind
def FM:uM [] xF:=by
 intro p
 show(if (p==[120,109,108])=true then (jm,true) else ([],p==[]))=_
 unfold xF
 simp only[fD]
 grind
def FL {path:List Nd}{K:kw}{n:Nd}(h:uM path K)(hu:n.attrs.Pairwise (fun b a=>b.name≠a.name))(hf:∀ a∈n.attrs,bI a.name=true):uM (path++[n]) (iy K true n.attrs).1:=by
 intro p
 rw[YH,List.reverse_singleton,List.singleton_append]
 simp only[pI,Hm (K:=K) (r:=true) p hu hf]
 cases hd:nA n.attrs p with
 | some v=>rfl
 | none=>exact h p
def Fo.res_app:∀(F G:Fo) (K:kw),((F.app G).res K).1=(F.res K).1++(G.res K).1/\((F.app G).res K).2=((F.res K).2&&(G.res K).2)
 | .nil,G,K=>by simp[Fo.app,Fo.res]
 | .cons n k r,G,K=>by
  obtain⟨h1,h2⟩:=Fo.res_app r G K
  simp only[Fo.app,Fo.res]
  grind
def EI {n:Nd}(h:kf n=true)(hk:n.kind=1)(hs:n.attrs.any (fun a=>!a.space.isEmpty)=false):n.attrs.Pairwise (fun b a=>b.name≠a.name) /\ ∀ a∈n.attrs,bI a.name=true:=by
 obtain⟨_,h2,h3⟩:=Sh.1 (zd h hk).2.2.2
 refine⟨?_,fun a ha=>(h3 a ha).1⟩
 have hsp:∀ a∈n.attrs,a.space=[]:=fun a ha=>by
  simp_all
 exact(List.Pairwise.and_mem.1 h2).imp fun ⟨m1,m2,h⟩ e=>h ⟨by simp_all,e.symm⟩
def QY (pre:List Nd)(n:Nd)(K0:kw)(hK:uM (pre++[n]) (iy K0 true n.attrs).1)(hp:pre.length<=900)(hok:∀ x∈pre++[n],x.okTo aN)(ha:n.attrs.length<=900)(hk:n.kind=1)(nm:Nat) :
  Ev cx 68 nm [.sl false 6 ((pre++[n]).map aC)] ah.nil (.tup [.agg (aC (fP (iy K0 true n.attrs).1 n).1),.bool ((iy K0 true n.attrs).2&&(fP (iy K0 true n.attrs).1 n).2)]) []:=by
 have h:=Nn pre n K0 hK hp hok ha nm
 have hn:aC (fP (iy K0 true n.attrs).1 n).1=[.int .u8 1,.str (fP (iy K0 true n.attrs).1 n).1.space,.str (fP (iy K0 true n.attrs).1 n).1.name,.sl false 3 ((fP (iy K0 true n.attrs).1 n).1.attrs.map bi),.str [],.int .i64 n.many]:=by
  have:(fP (iy K0 true n.attrs).1 n).1.kind=1:=hk
  unfold aC;rw[this];rfl
 rw[hn]
 generalize (fP (iy K0 true n.attrs).1 n).1=X at h ⊢
 have hpl:=aj X.attrs
 have htk:=iW X.attrs
 refine Ev.freeze h ?_ ?_
 ·simp only[cC,aK,aF,hpl,htk,Lm,au,aH,seval]<;>omega
 ·simp only[cC,aK,aF,hpl,htk,Lm,au,aH,seval]
def Po (v:List Nd)(n:Nd)(k:Fo):Prop:=∀(p:Nat) (rest path:List Nd) (K0:kw),v.drop p=n::(k.flat++rest)->uM path K0->path.length+k.size<=800->(∀ x∈path,x.okTo aN) ->
 ∀ nm,Ev cx 32 nm [.sl false 6 (v.map aC),.int .i64 p,.sl false 6 (path.map aC)] ah.nil (.tup [.sl false 6 (((Fo.cons n k .nil).res K0).1.map aC),.bool ((Fo.cons n k .nil).res K0).2]) []
def Ev.rowsB_fz {f:FuncId}{nm:Nat}{args:List V}{z:Nat}{T:List (List V)}{b:Bool}(h:Ev cx f nm args ah.nil (.tup [.own nm 0 T.length,.bool b]) [(nm,some ⟨z,T⟩)])(hpl:plainLL T=true):Ev cx f nm args ah.nil (.tup [.sl false z T,.bool b]) []:=by
 have htk:T.take T.length=T:=WJ
 refine Ev.freeze h ?_ ?_
 ·simp only[cC,aK,aF,hpl,htk,au,aH,seval]<;>omega
 ·simp only[cC,aK,aF,hpl,htk,au,aH,seval]
def K7 (v:List Nd)(n:Nd)(hk:n.kind=2):Po v n .nil:=by
 intro p rest path K0 hd hK hl hok nm
 obtain⟨hx,hpl,hd1⟩:=jn hd
 have hat:=dv hx
 have hpi:=lV p v.length
 have k1:((n.kind:Int)==2)=true:=by rw[hk];rfl
 have hr:(Fo.cons n .nil .nil).res K0=([n],true):=by simp[Fo.res,hk]
 rw[hr]
 refine Ev.rowsB_fz ?_ (aa _)
 show Ev cx _ nm _ ah.nil (.tup [.own nm 0 1,.bool true]) [(nm,some ⟨6,[aC n]⟩)]
 simp only[aC]
 refine aG call32 func32 results32 ntmps32 ?_;intro b0 hb0 zN
 ((repeat' first|simp only[cC,aK,results32,ntmps32,aF,hat,aC,hpl,hpi,k1,aa,aj,plainL,V.plain,No,Lm,au,aH,seval]|exact rfl|refine ao (v:=.any) ?_|refine jd (ps:=[(0,5),(2,5),(0,6),(2,6),(0,7),(2,7)])  ZJ  (by simp only[XX,W5,W9,results32,ntmps32,aF,hat,aC,hpl,hpi,k1,aa,aj,plainL,V.plain,No,Lm,au,aH,seval]<;>(try simp)<;>(try omega)) ?_|refine bm  ZJ  ?_|((first|apply b7|apply cM)<;>intro hb)|refine Ai Y6 ?_|(apply Ai<;>intro hb));(all_goals (first|(refine Fin.auto (r:=?_) (l:=?_) ?_ ?_ ?_ ?_ ?_ ?_ ?_;rotate_left 1;(simp only[results32,ntmps32,dB,eG,cN,dq,hat,aC,hpl,hpi,k1,aa,aj,plainL,V.plain,No,Lm,au,aH,seval]);(exact rfl);rotate_left 1;(simp only[V.owns,ownsL,List.cons_append,List.nil_append]);(exact rfl);all_goals (try simp only[results32,ntmps32,dB,eG,cN,dq,hat,aC,hpl,hpi,k1,aa,aj,plainL,V.plain,No,Lm,Bd,au,aH,seval]);all_goals (try simp only[aB]))|skip)))
def K6 (v:List Nd)(hv:v.length<=1000)(hokv:∀ n∈v,n.okTo aN)(hsv:bj v=false)(n:Nd)(k:Fo)(hk:n.kind=1)(d:Nat)(hd12:d<=12)(hg:(Fo.cons n k .nil).good d 0=true)(ih:uK (Po v) k):Po v n k:=by
 intro p rest path K0 hd hK hl hok nm
 obtain⟨hx,hpl,hd1⟩:=jn hd
 have hat:=dv hx
 have hpi:=lV p v.length
 obtain⟨g1,g2,g3,g4,g5,g6⟩:=Fo.good_cons.1 hg
 have hkl:=om hd1
 have hkc:=fN k
 have k1:((n.kind:Int)==2)=false:=by rw[hk];rfl
 have k2:¬ n.kind=2:=Y6
 have hnv:=By hx
 have ha16:=(ia g1).1
 have hsn:n.attrs.any (fun a=>!a.space.isEmpty)=false:=by
  unfold bj at hsv
  have:=Xz.1 hsv n hnv
  unfold fH at this
  simp only[Yn,XK]at this
  exact this.2
 obtain⟨u1,u2⟩:=EI g1 hk hsn
 have hK2:=FL hK u1 u2
 have hok2:∀ x∈path++[n],x.okTo aN:=fun x hx2=>by
  rcases Wf.1 hx2 with h|h
  ·exact hok x h
  ·rw[WW.1 h];exact hokv n hnv
 have hno:=QY path n K0 hK2 Y6 hok2 Y6 hk
 have hun:=sU v hv hokv hd hg hd12
 have hTl:=Fo.tops_length k (p+1)
 generalize hTd:k.tops (p+1)=T at hun hTl
 have hres:(Fo.cons n k .nil).res K0=((fP (iy K0 true n.attrs).1 n).1::(k.res (iy K0 true n.attrs).1).1,((iy K0 true n.attrs).2&&(fP (iy K0 true n.attrs).1 n).2)&&(k.res (iy K0 true n.attrs).1).2):=by
  simp[Fo.res,k2]
 rw[hres]
 clear hres
 generalize (iy K0 true n.attrs).1=K at hK2 hno ⊢
 generalize (fP K n).1=X at hno ⊢
 generalize ((iy K0 true n.attrs).2&&(fP K n).2)=B at hno ⊢
 have hdn:path.map aC++[aC n]=(path++[n]).map aC:=by simp
 have hlen:(path++[n]).length=path.length+1:=by simp
 simp only[aC]at hdn
 have hr1:(k.res K).1.length<=1000:=by
  have:=Fo.rsv_flat k K
  rw[<- this,Fo.flat_length]
  have:=Fo.rsv_size k K
  omega
 refine Ev.rowsB_fz ?_ (aa _)
 rw[Lm]
 obtain⟨Z,hZ⟩:∃ Z,Z=(X::(k.res K).1).map aC:=⟨_,rfl⟩
 obtain⟨N,hN⟩:∃ N,N=(X::(k.res K).1).length:=⟨_,rfl⟩
 obtain⟨RB,hRB⟩:∃ RB,RB=(B&&(k.res K).2):=⟨_,rfl⟩
 rw[<- hZ,<- hN,<- hRB]
 have htk0:((path++[n]).map aC).take (path.length+1)=(path++[n]).map aC:=IN (by rw[Lm];omega)
 have hX1:[(.int .u8 X.kind),(.str X.space),(.str X.name),(.sl false 3 (X.attrs.map bi)),(.str X.text),(.int .i64 X.many)]=aC X:=rfl
 have hpX:plainL (aC X)=true:=by simp[aC,plainL,V.plain,aj]
 refine mW rfl call32 func32 rfl mixed (by kernel_rfl) rfl ?_;intro b0 hb0;have zN:=Ai results32 ntmps32
 (have zF:=trivial;repeat' first|refine wS ?_|exact wE|refine gR [(0,5),(2,5),(0,6),(2,6),(0,7),(2,7)] ?_|((first|apply b7|apply cM)<;>intro hb)|refine Ai Y6 ?_|(apply Ai<;>intro hb))
 refine eI ?_
 (have zF:=a7 hat @aC.eq_1 hpl hpi @k1 @aa @aj;repeat' first|refine wS ?_|exact wE|refine gR [(0,5),(2,5),(0,6),(2,6),(0,7),(2,7)] ?_|((first|apply b7|apply cM)<;>intro hb)|refine Ai Y6 ?_|(apply Ai<;>intro hb))
 refine eI ?_
 (have zF:=a2 hat (a9 @aC.eq_1 hpl hpi @k1 hdn hlen @Bb @aa @aj);repeat' first|refine wS ?_|exact wE|refine gR [(0,5),(2,5),(0,6),(2,6),(0,7),(2,7)] ?_|((first|apply b7|apply cM)<;>intro hb)|refine Ai Y6 ?_|(apply Ai<;>intro hb))
 (refine Dp qc (b0+16) ([(0,.sl false 6 (v.map aC)),(1,.int .i64 p),(8,.sl false 6 ((path++[n]).map aC))]) ([]) [] ?_ ?_ ?_;(focus (show b0<=_;omega));(focus (refine⟨?_,?_⟩<;>(try simp only[bL,kD,htk0,hlen,aa,aj,am,aS,IS,Yp,Lm,au,aH,aB,seval])<;>(try omega))))
 repeat' first|simp only[cC,aK,results32,ntmps32,aF,aC,aa,aj,plainL,V.plain,No,Lm,au,aH,seval]|exact rfl|refine ao (v:=.any) ?_|(first|(refine ad ?_ (hno _) ?_)|(refine ai ?_ (fun _=>hno _) ?_)|(refine ad ?_ (hun _) ?_)|(refine ai ?_ (fun _=>hun _) ?_))|refine jd (ps:=[(0,5),(2,5),(0,6),(2,6),(0,7),(2,7)])  ZJ  (by simp only[XX,W5,W9,results32,ntmps32,aF,aC,aa,aj,plainL,V.plain,No,Lm,au,aH,seval]<;>(try simp)<;>(try omega)) ?_|refine bm  ZJ  ?_|((first|apply b7|apply cM)<;>intro hb)|refine Ai Y6 ?_|(apply Ai<;>intro hb)
 (refine v8 (fun x:UnSt=>k.count-x.D.count) (fun x=>x.inv k p) (b0+16) (fun x=>[(0,.sl false 6 (v.map aC)),(8,.sl false 6 ((path++[n]).map aC)),(10,.bool (B&&(x.D.res K).2)),(11,.own b0 0 (X::(x.D.res K).1).length),(12,.sl false 1 (T.map bH)),(13,.int .i64 x.D.count)]) (fun x=>[(b0,⟨6,(X::(x.D.res K).1).map aC⟩)]) ((UnSt.mk .nil k (p+1))) [some (b0+160)] ?_ ?_ ?_;(focus (refine⟨?_,?_⟩<;>(try simp only[bL,hX1,hpX,W8,WQ,aa,aw,aj,am,aS,Fo.res,Fo.count,Wz,Lc,Lo,List.length_cons,List.length_nil,Lm,au,aH,aB,seval])<;>(try omega))))
 ·exact⟨rfl,rfl⟩
 ·rintro ⟨D,R,q⟩ ⟨hi1,hi2⟩
  simp only at hi1 hi2 ⊢
  obtain⟨L,hL⟩:∃ L,L=X::(D.res K).1:=⟨_,rfl⟩
  rw[<- hL]
  have htk:(L.map aC).take L.length=L.map aC:=bF _ _
  cases R with
  | nil =>
   rw[Fo.app_nil]at hi1
   subst hi1
   rw[<- hL]at hZ hN
   have hLl:L.length<=1001:=by rw[hL];simp;omega
   have d1:=pK D.count T.length
   have d2:decide (D.count<T.length)=false:=aL
   subst hZ;subst hN;subst hRB
   ((repeat' first|simp only[cC,aK,results32,ntmps32,aF,d1,d2,htk,aw,aa,plainL,V.plain,No,Lm,au,aH,seval]|exact rfl|refine ao (v:=.any) ?_|refine jd (ps:=[(0,5),(2,5),(0,6),(2,6),(0,7),(2,7)])  ZJ  (by simp only[XX,W5,W9,results32,ntmps32,aF,d1,d2,htk,aw,aa,plainL,V.plain,No,Lm,au,aH,seval]<;>(try simp)<;>(try omega)) ?_|refine bm  ZJ  ?_|((first|apply b7|apply cM)<;>intro hb)|refine Ai Y6 ?_|(apply Ai<;>intro hb));(all_goals (first|(refine Fin.auto (r:=?_) (l:=?_) ?_ ?_ ?_ ?_ ?_ ?_ ?_;rotate_left 1;(simp only[results32,ntmps32,dB,eG,cN,dq,d1,d2,htk,aw,aa,plainL,V.plain,No,Lm,au,aH,seval]);(exact rfl);rotate_left 1;(simp only[V.owns,ownsL,List.cons_append,List.nil_append]);(exact rfl);all_goals (try simp only[results32,ntmps32,dB,eG,cN,dq,d1,d2,htk,aw,aa,plainL,V.plain,No,Lm,Bd,au,aH,seval]);all_goals (try simp only[aB]))|skip)))
  | cons m c r =>
   have hi1':(D.app (.cons m c .nil)).app r=k:=by rw[Fo.app_assoc];exact hi1
   have hkc2:k.count=D.count+(r.count+1):=by rw[<- hi1,Fo.app_count];rfl
   have hks2:k.size=D.size+(c.size+r.size+1):=by rw[<- hi1,Fo.app_size];rfl
   have hdq:=sR hd1 hi1
   rw[<- hi2]at hdq
   have hTq:=wv hi1 p
   rw[hTd,<- hi2]at hTq
   obtain⟨hat1,hil⟩:=FW hTq
   have hili:=lV D.count T.length
   have d1:decide ((D.count:Int)<(T.length:Int))=true:=AI hili
   have d2:decide (D.count<T.length)=true:=AI hil
   have w2:IntKind.i64.wrap ((D.count:Int)+1)=((D.count+1:Nat):Int):=aX
   rw[<- hi1]at ih
   have hrc:=(qK ih) q _ (path++[n]) K hdq hK2 (by rw[hlen];omega) hok2
   have hct:=Fo.app_count D (.cons m c .nil)
   simp only[Fo.count,We]at hct
   obtain⟨ra1,ra2⟩:=Fo.res_app D (.cons m c .nil) K
   have hra:=(Fo.res_app (D.app (.cons m c .nil)) r K).1
   rw[hi1',ra1]at hra
   have hkl2:=congrArg List.length hra
   simp only[List.length_append]at hkl2
   have hL2:X::((D.app (.cons m c .nil)).res K).1=L++((Fo.cons m c .nil).res K).1:=by rw[ra1,hL];rfl
   have hLl:L.length<=1001:=by rw[hL];simp;omega
   generalize ((Fo.cons m c .nil).res K).1=Y at hrc hkl2 hL2
   generalize ((Fo.cons m c .nil).res K).2=YB at hrc ra2
   have hLX:L.map aC++Y.map aC=(L++Y).map aC:=WM.symm
   have hL2m:aC X::(((D.app (.cons m c .nil)).res K).1).map aC=(L++Y).map aC:=by rw[<- hL2];rfl
   have hL2l:(((D.app (.cons m c .nil)).res K).1).length+1=L.length+Y.length:=by have:=congrArg List.length hL2;simpa using this
   have hbb:(B&&((D.res K).2&&YB))=((B&&(D.res K).2)&&YB):=(YT _ _ _).symm
   generalize (B&&(D.res K).2)=BB at hbb ⊢
   (have zF:=a2 d1 (a9 d2 htk hat1 hil hili @Bb @bH.eq_1 @aa @aw);have cF:=hrc;repeat' first|refine wS ?_|exact wE|refine gR [(0,5),(2,5),(0,6),(2,6),(0,7),(2,7)] ?_|((first|apply b7|apply cM)<;>intro hb)|refine Ai Y6 ?_|(apply Ai<;>intro hb))
   all_goals ((have zF:=a3 w2 hct (a9 hLX hL2m hL2l ra2 hbb @aa @aw @am @aS);refine c7 (UnSt.mk (D.app (.cons m c .nil)) r (q+1+c.size)) [some (b0+384)] ?_ ?_))
   all_goals (first|(show k.count-(D.app (.cons m c .nil)).count<k.count-D.count;omega)|(refine⟨hi1',?_⟩;simp only[Fo.app_size,Fo.size];omega)|skip)
def xq (v:List Nd)(hv:v.length<=1000)(hok:∀ n∈v,n.okTo aN)(hsv:bj v=false):∀(F:Fo) (d last:Nat),d<=12->F.good d last=true->uK (Po v) F
 | .nil,_,_,_,_=>trivial
 | .cons n k r,d,last,hd,hg=>by
  obtain⟨h1,h2,h3,h4,h5,h6⟩:=Fo.good_cons.1 hg
  refine⟨?_,xq v hv hok hsv r d n.kind hd h6⟩
  by_cases hk:n.kind=2
  ·have:=Fo.text_leaf hg hk
   subst this
   exact K7 v n hk
  ·have hk1:n.kind=1:=by rcases iA h1 with e|e;exact e;exact absurd e hk
   exact K6 v hv hok hsv n k hk1 d hd (Fo.good_cons.2 ⟨h1,h2,by omega,h4,h5,rfl⟩) (xq v hv hok hsv k (d-1) 1 Y6 h5)
def GF (v:List Nd):v.any nE=bj v:=by
 unfold bj
 congr 1
 funext n
 unfold nE fH
 have e:∀ s:ZA,(!(s==[])) = !s.isEmpty:=fun s=>by cases s<;>rfl
 have e2:(zM:At->Bool)=fun a=>!a.space.isEmpty:=by funext a;unfold zM;exact e _
 rw[e2]
 simp only[bne,e]
def DJ (v:List Nd)(hv:v.length<=1000)(hok:∀ n∈v,n.okTo aN)(nm:Nat):Ev cx 15 nm [.sl false 6 (v.map aC)] ah.nil (eN (bX v).1 (bX v).2) []:=by
 have hm:=wC v Y6 hok
 have hs:=JW v Y6 hok
 unfold eN bX
 rw[GF]
 by_cases hc:dN v=0
 ·obtain⟨n,k,hk,hvv,hg,hl⟩:=lc hc
  have hmt:A3 v=true:=AI hc
  rw[hmt]at hm
  rw[if_neg (by simp[hc])]
  cases hsp:bj v with
  | true =>
   rw[hsp]at hs
   simp only[WQ,Lo]
   refine aG call15 func15 results15 ntmps15 ?_;intro b0 hb0 zN
   exact xP @aa (a2 hm hs)
  | false =>
   rw[hsp]at hs
   have hf:oo v = .cons n k .nil:=by rw[hvv];exact pc hg
   have hw:=(xq v hv hok hsp (.cons n k .nil) 12 0 (IS _) hg).1 0 [] [] xF (by rw[WP,WR];exact hvv) FM (by simp only[List.length_nil];omega) (fun x hx=>by cases hx)
   simp only[Int.ofNat_zero,Lo]at hw
   rw[hf]
   simp only[WH,WS]
   have hpl:=aa ((Fo.cons n k .nil).res xF).1
   generalize ((Fo.cons n k .nil).res xF).1=X at hw hpl ⊢
   generalize ((Fo.cons n k .nil).res xF).2=B at hw ⊢
   cases B with
   | true =>
    simp only[WQ]
    refine aG call15 func15 results15 ntmps15 ?_;intro b0 hb0 zN
    (have zF:=a2 hpl @aa;have cF:=a2 hm hs;repeat' first|refine wS ?_|exact wE|refine yx (xs:=?_) wH (Ev.args_le (hw _) wH) ?_|((first|apply b7|apply cM)<;>intro hb)|refine Ai Y6 ?_|(apply Ai<;>intro hb)|apply Fin.pure|simp only[aB])
   | false =>
    simp only[WH,WS,Lo]
    refine aG call15 func15 results15 ntmps15 ?_;intro b0 hb0 zN
    (have zF:=a2 hpl @aa;have cF:=a2 hm hs;repeat' first|refine wS ?_|exact wE|refine yx (xs:=?_) wH (Ev.args_le (hw _) wH) ?_|((first|apply b7|apply cM)<;>intro hb)|refine Ai Y6 ?_|(apply Ai<;>intro hb)|apply Fin.pure|simp only[aB])
 ·have hmt:A3 v=false:=WA hc
  rw[hmt]at hm
  rw[if_pos hc]
  simp only[Lo]
  refine aG call15 func15 results15 ntmps15 ?_;intro b0 hb0 zN
  (have zF:=@aa;have cF:=hm;repeat' first|refine wS ?_|exact wE|refine ao (v:=.any) ?_|((first|apply b7|apply cM)<;>intro hb)|refine Ai Y6 ?_|(apply Ai<;>intro hb)|apply Fin.pure|simp only[aB])
def lN (S:List ZA)(s:ZA):Nat:=match S.findIdx? (· == s) with
 | some i=>i+1
 | none=>0
def OT {S:List ZA}{i:Nat}{x:ZA}(h:S[i]? = some x):(S.map sa)[i]? = some [.str x]:=by rw[WG,h];rfl
def GQ {S:List ZA}{i:Nat}{x s:ZA}(h:S[i]? = some x)(hno:(S.take i).any (· == s)=false)(hx:(x==s)=true):lN S s=i+1:=by
 unfold lN
 have:S.findIdx? (· == s)=some i:=by
  rw[Xt]
  obtain⟨hi,rfl⟩:=AS.1 h
  refine⟨hi,hx,fun j hj=>?_⟩
  have hm:=Xz.1 hno S[j] (By (by rw[XI,if_pos hj];exact AT Y6))
  simpa using hm
 rw[this]
def GR {S:List ZA}{s:ZA}(hno:S.any (· == s)=false):lN S s=0:=by
 unfold lN
 rw[XQ.2 fun x hx=>by simpa using Xz.1 hno x hx]
def GS (S:List ZA)(s:ZA):((lN S s:Int)==0) = !S.contains s:=by
 unfold lN
 cases h:S.findIdx? (· == s) with
 | none=>rw[yB h];rfl
 | some i=>rw[yC h];simp;omega
def sV (S:List ZA)(s:ZA)(hS:S.length<=1000)(nm:Nat):Ev cx 198 nm [.sl false 1 (S.map sa),.str s] ah.nil (.int .i64 (lN S s)) []:=by
 refine aG call198 func198 results198 ntmps198 ?_;intro b0 hb0 zN
 (refine xR trivial trivial ?_)
 (have zF:=@aR;refine fu (fun x:Nat=>S.length-x) (fun x=>x<=S.length/\(S.take x).any (· == s)=false) (b0+16) (fun x=>[(0,.sl false 1 (S.map sa)),(1,.str s),(5,.int .i64 x)]) (fun x=>[]) (0) [] ?_ ?_)
 ·exact⟨WB _,rfl⟩
 ·rintro i ⟨hi,hno⟩
  by_cases hlt:i<S.length
  ·obtain⟨x,hx⟩:=js hlt
   have hat:=OT hx
   have hii:=lV i S.length
   have d1:decide ((i:Int)<(S.length:Int))=true:=AI hii
   have d2:=AI hlt
   have wi:=eX i
   cases hb:(x==s) with
   | true =>
    rw[GQ hx hno hb]
    exact xP (a7 d1 d2 hat hlt hii hb wi) trivial
   | false =>
    have hno':=fy hx hno hb
    (refine xR (a7 d1 d2 hat hlt hii hb wi) trivial ?_)
    all_goals ((have zF:=a2 @aR wi;refine c7 (i+1) [] ?_ ?_))
    all_goals (first|(show S.length-(i+1)<S.length-i;omega)|exact⟨hlt,hno'⟩|skip)
  ·have hie:i=S.length:=Y6
   subst hie
   have d1:=pK S.length S.length
   have d2:decide (S.length<S.length)=false:=aL
   rw[WJ]at hno
   rw[GR hno]
   exact xP (a2 d1 d2) trivial
def DL (l:List At)(hl:l.length<=900)(nm:Nat):Ev cx 196 nm [.sl false 3 (l.map bi)] ah.nil (.own nm 0 (bh l).length) [(nm,some ⟨1,(bh l).map sa⟩)]:=by
 have hz:bh []=[]:=rfl
 refine aG call196 func196 results196 ntmps196 ?_;intro b0 hb0 zN
 (refine xR trivial trivial ?_)
 (have zF:=a3 hz @aj @am;refine fu (fun x:Nat=>l.length-x) (fun x=>x<=l.length) (b0+16) (fun x=>[(0,.sl false 3 (l.map bi)),(3,.own b0 0 (bh (l.take x)).length),(4,.int .i64 x)]) (fun x=>[(b0,⟨1,(bh (l.take x)).map sa⟩)]) (0) [none] ?_ ?_)
 ·exact WB _
 ·intro k hk
  by_cases hlt:k<l.length
  ·obtain⟨a,ha⟩:=js hlt
   have hat:=iG ha
   have hki:=lV k l.length
   have d1:decide ((k:Int)<(l.length:Int))=true:=AI hki
   have d2:=AI hlt
   have wk:=eX k
   have hst:=wW ha
   have hsl:=pu (l.take k)
   rw[WK]at hsl
   generalize bh (l.take k)=S at hst hsl
   have htk:=GN S
   have hw:=sV S a.space Y6
   have hwz:=GS S a.space
   generalize (lN S a.space:Int)=W at hw hwz
   have hsn:=HP S a.space
   unfold iV at hst
   unfold jm at hst
   cases c1:(a.space==[]) with
   | true =>
    rw[c1,if_pos rfl]at hst
    (have zF:=a2 d1 (a9 d2 hat @bi.eq_1 hlt hki c1 htk @bu @aR);repeat' first|refine wS ?_|exact wE|refine ao (v:=.any) ?_|((first|apply b7|apply cM)<;>intro hb)|refine Ai Y6 ?_|(apply Ai<;>intro hb))
    all_goals ((have zF:=a6 hst wk @aj @aR @aS @am;refine c7 (k+1) [some b0] ?_ ?_))
    all_goals (first|(show l.length-(k+1)<l.length-k;omega)|exact hlt|skip)
   | false =>
    rw[c1,if_neg ZH]at hst
    cases c2:(a.space==[104,116,116,112,58,47,47,119,119,119,46,119,51,46,111,114,103,47,88,77,76,47,49,57,57,56,47,110,97,109,101,115,112,97,99,101]) with
    | true =>
     rw[c2,if_pos rfl]at hst
     (have zF:=a3 d1 d2 (a9 hat @bi.eq_1 hlt hki c1 c2 htk @bu @aR);repeat' first|refine wS ?_|exact wE|refine ao (v:=.any) ?_|((first|apply b7|apply cM)<;>intro hb)|refine Ai Y6 ?_|(apply Ai<;>intro hb))
     all_goals ((have zF:=a6 hst wk @aj @aR @aS @am;refine c7 (k+1) [some b0] ?_ ?_))
     all_goals (first|(show l.length-(k+1)<l.length-k;omega)|exact hlt|skip)
    | false =>
     rw[c2,if_neg ZH]at hst
     cases c3:S.contains a.space with
     | true =>
      rw[c3,Bt]at hwz
      rw[c3,if_pos rfl]at hst
      (have zF:=a3 d1 d2 (a9 hat @bi.eq_1 hlt hki c1 c2 hwz htk @aR);repeat' first|refine wS ?_|exact wE|refine fq [b0] wM (fun _=>wF) (fun _=>wF) rfl (fun _=>hw _) ?_|((first|apply b7|apply cM)<;>intro hb)|refine Ai Y6 ?_|(apply Ai<;>intro hb))
      all_goals ((have zF:=a6 hst wk @aj @aR @aS @am;refine c7 (k+1) [some b0] ?_ ?_))
      all_goals (first|(show l.length-(k+1)<l.length-k;omega)|exact hlt|skip)
     | false =>
      rw[c3,Bf]at hwz
      rw[c3,if_neg ZH]at hst
      have hstl:(S++[a.space]).length=S.length+1:=by simp
      (have zF:=a4 d1 d2 hat (a9 @bi.eq_1 hlt hki c1 c2 hwz htk hsn @aR);repeat' first|refine wS ?_|exact wE|refine fq [b0] wM (fun _=>wF) (fun _=>wF) rfl (fun _=>hw _) ?_|((first|apply b7|apply cM)<;>intro hb)|refine Ai Y6 ?_|(apply Ai<;>intro hb))
      all_goals ((have zF:=a7 hst hstl wk @aj @aR @aS @am;refine c7 (k+1) [some (b0+576)] ?_ ?_))
      all_goals (first|(show l.length-(k+1)<l.length-k;omega)|exact hlt|skip)
  ·have hke:k=l.length:=Y6
   subst hke
   have d1:=pK l.length l.length
   have d2:decide (l.length<l.length)=false:=aL
   have htk:=GN (bh l)
   exact xO (a4 d1 d2 htk @aR) trivial
def Gh (l:List At)(hl:l.length<=900)(nm:Nat):Ev cx 196 nm [.sl false 3 (l.map bi)] ah.nil (.sl false 1 ((bh l).map sa)) []:=by
 have hpl:=aR (bh l)
 have htk:=GN (bh l)
 refine Ev.freeze (DL l hl nm) ?_ ?_
 ·simp only[cC,aK,aF,hpl,htk,Lm,au,aH,seval]<;>omega
 ·simp only[cC,aK,aF,hpl,htk,Lm,au,aH,seval]
def lm {n:Nat}(h:n<100):eh n=gI n:=by
 unfold gI
 by_cases h1:n<10
 ·rw[if_pos h1,fB Y6]
  try rfl
 ·rw[if_neg h1,ig Y6,fB Y6]
  try rfl
def Eh {S:List ZA}{s:ZA}(h:s∈S):lN S s=En S s+1/\En S s<S.length:=by
 obtain⟨_,h2⟩:=S7 h
 refine⟨?_,h2⟩
 unfold lN En at *
 cases hf:S.findIdx? (· == s) with
 | none=>rw[hf]at h2;simp at h2
 | some i=>rfl
def yH {S:List ZA}{i:Nat}{s:ZA}(h:S[i]? = some s):(cE S).take (i+1)=(cE S).take i++[qd i s]:=by
 have hq:(cE S)[i]? = some (qd i s):=by unfold cE;rw[List.getElem?_mapIdx,h];rfl
 obtain⟨h2,h3⟩:=AS.1 hq
 rw[WF h2,h3]
def wa {f:At->At}{l:List At}{k:Nat}{a:At}(h:l[k]? = some a):(l.take (k+1)).map f=(l.take k).map f++[f a]:=pM h
def JX (n:Nd)(sp:ZA)(hk:n.kind=1)(hn:n.okTo 1000000)(ha:n.attrs.length<=30)(nm:Nat) :
  Ev cx 170 nm [.agg (aC n),.str sp] ah.nil (.agg [.int .u8 1,.str [],.str n.name,.own nm 0 (eu n sp).attrs.length,.str [],.int .i64 n.many]) [(nm,some ⟨3,(eu n sp).attrs.map bi⟩)]:=by
 have hspc:=Gh n.attrs Y6
 have hSl:=pu n.attrs
 have hseen:∀ a∈n.attrs,a.space≠[]->a.space≠jm->a.space∈bh n.attrs:=fun a h1 h2 h3=>Oe h1 h2 h3
 have hat0:(eu n sp).attrs=(CY n sp++cE (bh n.attrs))++n.attrs.map (fG (bh n.attrs)):=rfl
 rw[hat0]
 generalize bh n.attrs=S at hspc hSl hseen ⊢
 have hdl:(cE S).length=S.length:=Co S
 have hhl:(CY n sp).length<=1:=by unfold CY;split<;>simp
 obtain⟨Z,hZ⟩:∃ Z,Z=(CY n sp++cE S)++n.attrs.map (fG S):=⟨_,rfl⟩
 rw[<- hZ]
 have hcase:((n.space==sp)=true/\CY n sp=[])\/((n.space==sp)=false/\CY n sp=[⟨[],[120,109,108,110,115],n.space⟩]):=by
  unfold CY
  cases h:(n.space==sp) with
  | true=>exact .inl ⟨rfl,rfl⟩
  | false=>exact .inr ⟨rfl,rfl⟩
 have hx1:[[V.str [],.str [120,109,108,110,115],.str n.space]]=([⟨[],[120,109,108,110,115],n.space⟩]:List At).map bi:=rfl
 rcases hcase with ⟨hs1,hs2⟩|⟨hs1,hs2⟩
 ·generalize CY n sp=H at hs2 hZ hhl
  refine aG call170 func170 results170 ntmps170 ?_;intro b0 hb0 zN
  (have zF:=a3 hs1 @aC.eq_1 @aj;have cF:=hspc;repeat' first|refine wS ?_|exact wE|refine gR [(1,4),(4,8),(4,9),(1,11)] ?_|refine gR [(1,13),(3,13),(5,13),(7,13),(9,13),(11,13)] ?_|refine gR [(7,12),(8,12)] ?_|((first|apply b7|apply cM)<;>intro hb)|refine Ai Y6 ?_|(apply Ai<;>intro hb))
  (refine v8 (fun x:Nat=>S.length-x) (fun x=>x<=S.length) (b0+16) (fun x=>[(2,.ptr b0 0 0),(4,.ptr (b0+1) 0 0),(5,.ptr (b0+2) 0 0),(6,.sl false 1 (S.map sa)),(7,.int .i64 x)]) (fun x=>[(b0,⟨6,[aC n]⟩),(b0+1,⟨6,[[.int .u8 0,.str [],.str [],.nils,.str [],.int .i64 0]]⟩),(b0+2,⟨6,[[.int .u8 1,.str [],.str n.name,.own (b0+3) 0 (H++(cE S).take x).length,.str [],.int .i64 n.many]]⟩),(b0+3,⟨3,(H++(cE S).take x).map bi⟩)]) (0) [some b0,some (b0+16),some (b0+112),none] ?_ ?_ ?_;(focus (refine⟨?_,?_⟩<;>(try simp only[bL,hs2,bi,aC,Lc,WR,aj,aR,am,aS,md,cS,dQ,bR,iP,List.take_zero,WR,Lo,List.length_nil,List.length_cons,Lm,au,aH,aB,seval])<;>(try omega))))
  ·exact WB _
  ·intro i hi
   by_cases hlt:i<S.length
   ·obtain⟨s,hs⟩:=js hlt
    have hts:=OT hs
    have hii:=lV i S.length
    have d1:decide ((i:Int)<(S.length:Int))=true:=AI hii
    have d2:=AI hlt
    have wi:=eX i
    have hdg:=kY (i+1) (by rw[show(10:Nat) ^ 17=100000000000000000 by decide];omega)
    rw[lm Y6]at hdg
    have hil:=mc (i+1)
    have hdt:=yH hs
    have hsn:=jo (H++(cE S).take i) (qd i s)
    rw[WV,<- hdt]at hsn
    have hsnl:=congrArg List.length hsn
    unfold qd at hsn
    simp only[List.length_append,Lm,List.length_cons,List.length_nil]at hsnl
    have hAl:(H++(cE S).take i).length<=100:=by rw[List.length_append,WK];omega
    have htk:=iW (H++(cE S).take i)
    have hAl2:(H++(cE S).take (i+1)).length=(H++(cE S).take i).length+1:=by rw[hdt,<- WV,List.length_append (bs:=[qd i s])];rfl
    generalize H++(cE S).take i=A at hsn hAl htk hAl2
    simp only[List.cons_append,List.nil_append]at hsn
    generalize gI (i+1)=dg at hdg hil hsn
    (have zF:=a3 d1 d2 (a9 hts hlt hii wi htk hsn @aC.eq_1 @aj @aR);have cF:=hdg;repeat' first|refine wS ?_|exact wE|refine gR [(1,4),(4,8),(4,9),(1,11)] ?_|refine gR [(1,13),(3,13),(5,13),(7,13),(9,13),(11,13)] ?_|refine gR [(7,12),(8,12)] ?_|((first|apply b7|apply cM)<;>intro hb)|refine Ai Y6 ?_|(apply Ai<;>intro hb))
    all_goals ((have zF:=a8 wi hAl2 hsn @aC.eq_1 @aj @aR @aS @am;refine c7 (i+1) [some b0,some (b0+1),some (b0+2),some (b0+272)] ?_ ?_))
    all_goals (first|(show S.length-(i+1)<S.length-i;omega)|exact hlt|skip)
   ·have hie:i=S.length:=Y6
    subst hie
    have d1:=pK S.length S.length
    have d2:decide (S.length<S.length)=false:=aL
    rw[IN (show(cE S).length<=S.length by omega)]
    have htk0:=iW (H++cE S)
    have hBl:(H++cE S).length<=100:=by rw[List.length_append];omega
    generalize H++cE S=B at hZ htk0 hBl
    have hz0:([]:List At).map (fG S)=[]:=rfl
    (have zF:=a6 d1 d2 htk0 @aC.eq_1 @aj @aR;repeat' first|refine wS ?_|exact wE|refine gR [(1,4),(4,8),(4,9),(1,11)] ?_|refine gR [(1,13),(3,13),(5,13),(7,13),(9,13),(11,13)] ?_|refine gR [(7,12),(8,12)] ?_|((first|apply b7|apply cM)<;>intro hb)|refine Ai Y6 ?_|(apply Ai<;>intro hb))
    (have zF:=a6 hz0 @aC.eq_1 @aj @aR @am @aS;refine fu (fun x:Nat=>n.attrs.length-x) (fun x=>x<=n.attrs.length) (b0+16) (fun x=>[(2,.ptr b0 0 0),(4,.ptr (b0+1) 0 0),(5,.ptr (b0+2) 0 0),(6,.sl false 1 (S.map sa)),(8,.int .i64 x)]) (fun x=>[(b0,⟨6,[aC n]⟩),(b0+1,⟨6,[[.int .u8 0,.str [],.str [],.nils,.str [],.int .i64 0]]⟩),(b0+2,⟨6,[[.int .u8 1,.str [],.str n.name,.own (b0+3) 0 (B++(n.attrs.take x).map (fG S)).length,.str [],.int .i64 n.many]]⟩),(b0+3,⟨3,(B++(n.attrs.take x).map (fG S)).map bi⟩)]) (0) [some b0,some (b0+1),some (b0+2),some (b0+3)] ?_ ?_)
    ·exact WB _
    ·intro k hk2
     by_cases hkl:k<n.attrs.length
     ·obtain⟨a,haa⟩:=js hkl
      have hata:=iG haa
      have ham:=By haa
      obtain⟨o1,o2,o3⟩:=hn.2.2.2.2 a ham
      have hki:=lV k n.attrs.length
      have f1:decide ((k:Int)<(n.attrs.length:Int))=true:=AI hki
      have f2:=AI hkl
      have wk:=eX k
      have hmt:=wa (f:=fG S) haa
      have hsn:=jo (B++(n.attrs.take k).map (fG S)) (fG S a)
      rw[WV,<- hmt]at hsn
      have hAl:(B++(n.attrs.take k).map (fG S)).length<=200:=by rw[List.length_append,Lm,WK];omega
      have htk:=iW (B++(n.attrs.take k).map (fG S))
      have hAl2:(B++(n.attrs.take (k+1)).map (fG S)).length=(B++(n.attrs.take k).map (fG S)).length+1:=by rw[hmt,<- WV,List.length_append (bs:=[fG S a])];rfl
      generalize B++(n.attrs.take k).map (fG S)=A at hsn hAl htk hAl2
      have hsee:=hseen a ham
      generalize hA':(B++(n.attrs.take (k+1)).map (fG S)).map bi=R' at hsn
      unfold fG yg at hsn
      unfold jm at hsn hsee
      simp only at hsn
      cases c1:(a.space==[104,116,116,112,58,47,47,119,119,119,46,119,51,46,111,114,103,47,88,77,76,47,49,57,57,56,47,110,97,109,101,115,112,97,99,101]) with
      | true =>
       have c0:(a.space==[])=false:=by rw[eq_of_beq c1];rfl
       rw[c0,c1]at hsn
       simp only[WH,WS,WQ,List.cons_append,List.nil_append]at hsn
       subst hA'
       (have zF:=a5 f1 f2 hata @bi.eq_1 (a9 hkl hki c1 wk htk hsn @aC.eq_1 @aj @aR);repeat' first|refine wS ?_|exact wE|refine gR [(1,4),(4,8),(4,9),(1,11)] ?_|refine gR [(1,13),(3,13),(5,13),(7,13),(9,13),(11,13)] ?_|refine gR [(7,12),(8,12)] ?_|((first|apply b7|apply cM)<;>intro hb)|refine Ai Y6 ?_|(apply Ai<;>intro hb))
       all_goals ((have zF:=a8 wk hAl2 hsn @aC.eq_1 @aj @aR @aS @am;refine c7 (k+1) [some b0,some (b0+1),some (b0+2),some (b0+592)] ?_ ?_))
       all_goals (first|(show n.attrs.length-(k+1)<n.attrs.length-k;omega)|exact hkl|skip)
      | false =>
       cases c0:(a.space==[]) with
       | true =>
        rw[c0]at hsn
        simp only[WQ]at hsn
        subst hA'
        (have zF:=a6 f1 f2 hata @bi.eq_1 hkl (a9 hki c0 c1 wk htk hsn @aC.eq_1 @aj @aR);repeat' first|refine wS ?_|exact wE|refine gR [(1,4),(4,8),(4,9),(1,11)] ?_|refine gR [(1,13),(3,13),(5,13),(7,13),(9,13),(11,13)] ?_|refine gR [(7,12),(8,12)] ?_|((first|apply b7|apply cM)<;>intro hb)|refine Ai Y6 ?_|(apply Ai<;>intro hb))
        all_goals ((have zF:=a8 wk hAl2 hsn @aC.eq_1 @aj @aR @aS @am;refine c7 (k+1) [some b0,some (b0+1),some (b0+2),some (b0+624)] ?_ ?_))
        all_goals (first|(show n.attrs.length-(k+1)<n.attrs.length-k;omega)|exact hkl|skip)
       | false =>
        rw[c0,c1]at hsn
        simp only[WH,WS]at hsn
        obtain⟨w1,w2⟩:=Eh (hsee (by simpa using c0) (by simpa using c1))
        have hw:=sV S a.space Y6
        rw[w1]at hw
        have hdg:=kY (En S a.space+1) (by rw[show(10:Nat) ^ 17=100000000000000000 by decide];omega)
        rw[lm Y6]at hdg
        have hil:=mc (En S a.space+1)
        generalize gI (En S a.space+1)=dg at hdg hil hsn
        have hcat:(([110]++dg)++[58])++a.name=(110::dg)++58::a.name:=by simp
        rw[<- hcat]at hsn
        have hl1:([110]++dg).length=dg.length+1:=by simp
        have hl2:(dg++[58]).length=dg.length+1:=by simp
        simp only[List.cons_append,List.nil_append]at hsn
        subst hA'
        (have zF:=a6 f1 f2 hata @bi.eq_1 hkl (a9 hki c0 c1 wk htk hsn @aC.eq_1 @aj @aR);have cF:=a2 hw hdg;repeat' first|refine wS ?_|exact wE|refine gR [(1,4),(4,8),(4,9),(1,11)] ?_|refine gR [(1,13),(3,13),(5,13),(7,13),(9,13),(11,13)] ?_|refine gR [(7,12),(8,12)] ?_|((first|apply b7|apply cM)<;>intro hb)|refine Ai Y6 ?_|(apply Ai<;>intro hb))
        all_goals ((have zF:=a8 wk hAl2 hsn @aC.eq_1 @aj @aR @aS @am;refine c7 (k+1) [some b0,some (b0+1),some (b0+2),some (b0+880)] ?_ ?_))
        all_goals (first|(show n.attrs.length-(k+1)<n.attrs.length-k;omega)|exact hkl|skip)
     ·have hke:k=n.attrs.length:=Y6
      subst hke
      have f1:=pK n.attrs.length n.attrs.length
      have f2:decide (n.attrs.length<n.attrs.length)=false:=aL
      rw[WJ,<- hZ]
      have htk:=iW Z
      (have zF:=a6 f1 f2 htk @aC.eq_1 @aj @aR;repeat' first|refine wS ?_|exact wE|refine gR [(1,4),(4,8),(4,9),(1,11)] ?_|refine gR [(1,13),(3,13),(5,13),(7,13),(9,13),(11,13)] ?_|refine gR [(7,12),(8,12)] ?_|((first|apply b7|apply cM)<;>intro hb)|refine Ai Y6 ?_|(apply Ai<;>intro hb))
      all_goals ((have zF:=a4 @b8 @bg @aj @aR;refine jW [(b0+3,some 0)] [] lB))
 ·generalize CY n sp=H at hs2 hZ hhl
  refine aG call170 func170 results170 ntmps170 ?_;intro b0 hb0 zN
  (have zF:=a3 hs1 @aC.eq_1 @aj;have cF:=hspc;repeat' first|refine wS ?_|exact wE|refine gR [(1,4),(4,8),(4,9),(1,11)] ?_|refine gR [(1,13),(3,13),(5,13),(7,13),(9,13),(11,13)] ?_|refine gR [(7,12),(8,12)] ?_|((first|apply b7|apply cM)<;>intro hb)|refine Ai Y6 ?_|(apply Ai<;>intro hb))
  (refine v8 (fun x:Nat=>S.length-x) (fun x=>x<=S.length) (b0+16) (fun x=>[(2,.ptr b0 0 0),(4,.ptr (b0+1) 0 0),(5,.ptr (b0+2) 0 0),(6,.sl false 1 (S.map sa)),(7,.int .i64 x)]) (fun x=>[(b0,⟨6,[aC n]⟩),(b0+1,⟨6,[[.int .u8 0,.str [],.str [],.nils,.str [],.int .i64 0]]⟩),(b0+2,⟨6,[[.int .u8 1,.str [],.str n.name,.own (b0+3) 0 (H++(cE S).take x).length,.str [],.int .i64 n.many]]⟩),(b0+3,⟨3,(H++(cE S).take x).map bi⟩)]) (0) [some b0,some (b0+16),some (b0+112),some (b0+304)] ?_ ?_ ?_;(focus (refine⟨?_,?_⟩<;>(try simp only[bL,hs2,bi,aC,Lc,WR,aj,aR,am,aS,md,cS,dQ,bR,iP,List.take_zero,WR,Lo,List.length_nil,List.length_cons,Lm,au,aH,aB,seval])<;>(try omega))))
  ·exact WB _
  ·intro i hi
   by_cases hlt:i<S.length
   ·obtain⟨s,hs⟩:=js hlt
    have hts:=OT hs
    have hii:=lV i S.length
    have d1:decide ((i:Int)<(S.length:Int))=true:=AI hii
    have d2:=AI hlt
    have wi:=eX i
    have hdg:=kY (i+1) (by rw[show(10:Nat) ^ 17=100000000000000000 by decide];omega)
    rw[lm Y6]at hdg
    have hil:=mc (i+1)
    have hdt:=yH hs
    have hsn:=jo (H++(cE S).take i) (qd i s)
    rw[WV,<- hdt]at hsn
    have hsnl:=congrArg List.length hsn
    unfold qd at hsn
    simp only[List.length_append,Lm,List.length_cons,List.length_nil]at hsnl
    have hAl:(H++(cE S).take i).length<=100:=by rw[List.length_append,WK];omega
    have htk:=iW (H++(cE S).take i)
    have hAl2:(H++(cE S).take (i+1)).length=(H++(cE S).take i).length+1:=by rw[hdt,<- WV,List.length_append (bs:=[qd i s])];rfl
    generalize H++(cE S).take i=A at hsn hAl htk hAl2
    simp only[List.cons_append,List.nil_append]at hsn
    generalize gI (i+1)=dg at hdg hil hsn
    (have zF:=a3 d1 d2 (a9 hts hlt hii wi htk hsn @aC.eq_1 @aj @aR);have cF:=hdg;repeat' first|refine wS ?_|exact wE|refine gR [(1,4),(4,8),(4,9),(1,11)] ?_|refine gR [(1,13),(3,13),(5,13),(7,13),(9,13),(11,13)] ?_|refine gR [(7,12),(8,12)] ?_|((first|apply b7|apply cM)<;>intro hb)|refine Ai Y6 ?_|(apply Ai<;>intro hb))
    all_goals ((have zF:=a8 wi hAl2 hsn @aC.eq_1 @aj @aR @aS @am;refine c7 (i+1) [some b0,some (b0+1),some (b0+2),some (b0+272)] ?_ ?_))
    all_goals (first|(show S.length-(i+1)<S.length-i;omega)|exact hlt|skip)
   ·have hie:i=S.length:=Y6
    subst hie
    have d1:=pK S.length S.length
    have d2:decide (S.length<S.length)=false:=aL
    rw[IN (show(cE S).length<=S.length by omega)]
    have htk0:=iW (H++cE S)
    have hBl:(H++cE S).length<=100:=by rw[List.length_append];omega
    generalize H++cE S=B at hZ htk0 hBl
    have hz0:([]:List At).map (fG S)=[]:=rfl
    (have zF:=a6 d1 d2 htk0 @aC.eq_1 @aj @aR;repeat' first|refine wS ?_|exact wE|refine gR [(1,4),(4,8),(4,9),(1,11)] ?_|refine gR [(1,13),(3,13),(5,13),(7,13),(9,13),(11,13)] ?_|refine gR [(7,12),(8,12)] ?_|((first|apply b7|apply cM)<;>intro hb)|refine Ai Y6 ?_|(apply Ai<;>intro hb))
    (have zF:=a6 hz0 @aC.eq_1 @aj @aR @am @aS;refine fu (fun x:Nat=>n.attrs.length-x) (fun x=>x<=n.attrs.length) (b0+16) (fun x=>[(2,.ptr b0 0 0),(4,.ptr (b0+1) 0 0),(5,.ptr (b0+2) 0 0),(6,.sl false 1 (S.map sa)),(8,.int .i64 x)]) (fun x=>[(b0,⟨6,[aC n]⟩),(b0+1,⟨6,[[.int .u8 0,.str [],.str [],.nils,.str [],.int .i64 0]]⟩),(b0+2,⟨6,[[.int .u8 1,.str [],.str n.name,.own (b0+3) 0 (B++(n.attrs.take x).map (fG S)).length,.str [],.int .i64 n.many]]⟩),(b0+3,⟨3,(B++(n.attrs.take x).map (fG S)).map bi⟩)]) (0) [some b0,some (b0+1),some (b0+2),some (b0+3)] ?_ ?_)
    ·exact WB _
    ·intro k hk2
     by_cases hkl:k<n.attrs.length
     ·obtain⟨a,haa⟩:=js hkl
      have hata:=iG haa
      have ham:=By haa
      obtain⟨o1,o2,o3⟩:=hn.2.2.2.2 a ham
      have hki:=lV k n.attrs.length
      have f1:decide ((k:Int)<(n.attrs.length:Int))=true:=AI hki
      have f2:=AI hkl
      have wk:=eX k
      have hmt:=wa (f:=fG S) haa
      have hsn:=jo (B++(n.attrs.take k).map (fG S)) (fG S a)
      rw[WV,<- hmt]at hsn
      have hAl:(B++(n.attrs.take k).map (fG S)).length<=200:=by rw[List.length_append,Lm,WK];omega
      have htk:=iW (B++(n.attrs.take k).map (fG S))
      have hAl2:(B++(n.attrs.take (k+1)).map (fG S)).length=(B++(n.attrs.take k).map (fG S)).length+1:=by rw[hmt,<- WV,List.length_append (bs:=[fG S a])];rfl
      generalize B++(n.attrs.take k).map (fG S)=A at hsn hAl htk hAl2
      have hsee:=hseen a ham
      generalize hA':(B++(n.attrs.take (k+1)).map (fG S)).map bi=R' at hsn
      unfold fG yg at hsn
      unfold jm at hsn hsee
      simp only at hsn
      cases c1:(a.space==[104,116,116,112,58,47,47,119,119,119,46,119,51,46,111,114,103,47,88,77,76,47,49,57,57,56,47,110,97,109,101,115,112,97,99,101]) with
      | true =>
       have c0:(a.space==[])=false:=by rw[eq_of_beq c1];rfl
       rw[c0,c1]at hsn
       simp only[WH,WS,WQ,List.cons_append,List.nil_append]at hsn
       subst hA'
       (have zF:=a5 f1 f2 hata @bi.eq_1 (a9 hkl hki c1 wk htk hsn @aC.eq_1 @aj @aR);repeat' first|refine wS ?_|exact wE|refine gR [(1,4),(4,8),(4,9),(1,11)] ?_|refine gR [(1,13),(3,13),(5,13),(7,13),(9,13),(11,13)] ?_|refine gR [(7,12),(8,12)] ?_|((first|apply b7|apply cM)<;>intro hb)|refine Ai Y6 ?_|(apply Ai<;>intro hb))
       all_goals ((have zF:=a8 wk hAl2 hsn @aC.eq_1 @aj @aR @aS @am;refine c7 (k+1) [some b0,some (b0+1),some (b0+2),some (b0+592)] ?_ ?_))
       all_goals (first|(show n.attrs.length-(k+1)<n.attrs.length-k;omega)|exact hkl|skip)
      | false =>
       cases c0:(a.space==[]) with
       | true =>
        rw[c0]at hsn
        simp only[WQ]at hsn
        subst hA'
        (have zF:=a6 f1 f2 hata @bi.eq_1 hkl (a9 hki c0 c1 wk htk hsn @aC.eq_1 @aj @aR);repeat' first|refine wS ?_|exact wE|refine gR [(1,4),(4,8),(4,9),(1,11)] ?_|refine gR [(1,13),(3,13),(5,13),(7,13),(9,13),(11,13)] ?_|refine gR [(7,12),(8,12)] ?_|((first|apply b7|apply cM)<;>intro hb)|refine Ai Y6 ?_|(apply Ai<;>intro hb))
        all_goals ((have zF:=a8 wk hAl2 hsn @aC.eq_1 @aj @aR @aS @am;refine c7 (k+1) [some b0,some (b0+1),some (b0+2),some (b0+624)] ?_ ?_))
        all_goals (first|(show n.attrs.length-(k+1)<n.attrs.length-k;omega)|exact hkl|skip)
       | false =>
        rw[c0,c1]at hsn
        simp only[WH,WS]at hsn
        obtain⟨w1,w2⟩:=Eh (hsee (by simpa using c0) (by simpa using c1))
        have hw:=sV S a.space Y6
        rw[w1]at hw
        have hdg:=kY (En S a.space+1) (by rw[show(10:Nat) ^ 17=100000000000000000 by decide];omega)
        rw[lm Y6]at hdg
        have hil:=mc (En S a.space+1)
        generalize gI (En S a.space+1)=dg at hdg hil hsn
        have hcat:(([110]++dg)++[58])++a.name=(110::dg)++58::a.name:=by simp
        rw[<- hcat]at hsn
        have hl1:([110]++dg).length=dg.length+1:=by simp
        have hl2:(dg++[58]).length=dg.length+1:=by simp
        simp only[List.cons_append,List.nil_append]at hsn
        subst hA'
        (have zF:=a6 f1 f2 hata @bi.eq_1 hkl (a9 hki c0 c1 wk htk hsn @aC.eq_1 @aj @aR);have cF:=a2 hw hdg;repeat' first|refine wS ?_|exact wE|refine gR [(1,4),(4,8),(4,9),(1,11)] ?_|refine gR [(1,13),(3,13),(5,13),(7,13),(9,13),(11,13)] ?_|refine gR [(7,12),(8,12)] ?_|((first|apply b7|apply cM)<;>intro hb)|refine Ai Y6 ?_|(apply Ai<;>intro hb))
        all_goals ((have zF:=a8 wk hAl2 hsn @aC.eq_1 @aj @aR @aS @am;refine c7 (k+1) [some b0,some (b0+1),some (b0+2),some (b0+880)] ?_ ?_))
        all_goals (first|(show n.attrs.length-(k+1)<n.attrs.length-k;omega)|exact hkl|skip)
     ·have hke:k=n.attrs.length:=Y6
      subst hke
      have f1:=pK n.attrs.length n.attrs.length
      have f2:decide (n.attrs.length<n.attrs.length)=false:=aL
      rw[WJ,<- hZ]
      have htk:=iW Z
      (have zF:=a6 f1 f2 htk @aC.eq_1 @aj @aR;repeat' first|refine wS ?_|exact wE|refine gR [(1,4),(4,8),(4,9),(1,11)] ?_|refine gR [(1,13),(3,13),(5,13),(7,13),(9,13),(11,13)] ?_|refine gR [(7,12),(8,12)] ?_|((first|apply b7|apply cM)<;>intro hb)|refine Ai Y6 ?_|(apply Ai<;>intro hb))
      all_goals ((have zF:=a4 @b8 @bg @aj @aR;refine jW [(b0+3,some 0)] [] lB))
def EN (v:List Nd):decide (dO v=0)=(!(v.any ny)&&A3 v):=by
 unfold dO A3
 cases v.any ny<;>simp
def NU (v:List Nd)(hv:v.length<=1000)(hok:∀ n∈v,n.okTo aN)(nm:Nat):Ev cx 84 nm [.sl false 6 (v.map aC)] ah.nil (.bool (decide (dO v=0))) []:=by
  rw[EN]
  have hmt:=wC v Y6 hok
  refine aG call84 func84 results84 ntmps84 ?_;intro b0 hb0 zN
  (refine xR trivial trivial ?_)
  (have zF:=@aa;refine fu (fun x:Nat=>v.length-x) (fun x=>x<=v.length/\(v.take x).any ny=false) (b0+16) (fun x=>[(0,.sl false 6 (v.map aC)),(3,.int .i64 x)]) (fun x=>[]) (0) [] ?_ ?_)
  · exact⟨WB _,rfl⟩
  · rintro i ⟨hi,hno⟩
    by_cases hlt:i<v.length
    · obtain⟨x,hx⟩:=js hlt
      have hat:=dv hx
      have hxo:=hok x (By hx)
      have hxl:=hxo.1
      unfold aN at hxl
      have hii:=lV i v.length
      have d1:decide ((i:Int)<(v.length:Int))=true:=AI hii
      have d2:=AI hlt
      have wi:=eX i
      have hnm:=oG x.name hxo.2.2.1
      have hkk:((x.kind:Int)==1)=decide (x.kind=1):=by rw[WL];simp;omega
      obtain⟨bk,hbk⟩:∃ b,b=decide (x.kind=1):=⟨_,rfl⟩
      obtain⟨bn,hbn⟩:∃ b,b=eV x.name:=⟨_,rfl⟩
      rw[<- hbk]at hkk
      rw[<- hbn]at hnm
      have hbad:ny x=(((bk && !bn)||dY x.space)||x.attrs.any u7):=by rw[hbk,hbn];rfl
      unfold dY jm lO at hbad
      cases c1:(x.space==[104,116,116,112,58,47,47,119,119,119,46,119,51,46,111,114,103,47,88,77,76,47,49,57,57,56,47,110,97,109,101,115,112,97,99,101])<;>cases c2:(x.space==[104,116,116,112,58,47,47,119,119,119,46,119,51,46,111,114,103,47,50,48,48,48,47,120,109,108,110,115,47])<;>cases bk<;>cases bn
      all_goals (rw[c1,c2]at hbad;simp only[No,Wm,Wy,XD,XN,XG,W8,Bt,Bf]at hbad)
      all_goals first
        | (have hr:v.any ny=true:=eO hx hbad
           rw[hr]
           simp only[Bt,Wy]
           (have zF:=a2 d1 (a9 d2 hat @aC.eq_1 hlt hii hkk c1 c2 @bu);have cF:=hnm;repeat' first|refine wS ?_|exact wE|refine ao (v:=.any) ?_|((first|apply b7|apply cM)<;>intro hb)|refine Ai Y6 ?_|(apply Ai<;>intro hb)|apply Fin.pure|simp only[aB]))
        | skip
      all_goals (
        (have zF:=a2 d1 (a9 d2 hat @aC.eq_1 hlt hii hkk c1 c2 @bu);have cF:=hnm;repeat' first|refine wS ?_|exact wE|refine ao (v:=.any) ?_|((first|apply b7|apply cM)<;>intro hb)|refine Ai Y6 ?_|(apply Ai<;>intro hb))
        (have zF:=a2 @aa @aj;refine fu (fun j:Nat=>x.attrs.length-j) (fun j=>j<=x.attrs.length/\(x.attrs.take j).any u7=false) (b0+16) (fun j=>[(0,.sl false 6 (v.map aC)),(3,.int .i64 i),(4,.int .i64 j)]) (fun j=>[]) (0) [] ?_ ?_))
      all_goals first
        | exact⟨WB _,rfl⟩
        | skip
      all_goals (
        rintro j ⟨hj,hna⟩
        by_cases hja:j<x.attrs.length
        · obtain⟨a,ha⟩:=js hja
          have haa:=iG ha
          have hao:=hxo.2.2.2.2 a (By ha)
          have hji:=lV j x.attrs.length
          have f1:decide ((j:Int)<(x.attrs.length:Int))=true:=AI hji
          have f2:=AI hja
          have wj:=eX j
          have hna2:=oG a.name hao.2.1
          obtain⟨an,han⟩:∃ b,b=eV a.name:=⟨_,rfl⟩
          rw[<- han]at hna2
          have hba:u7 a=((!an||((a.space==[])&&(a.name==[120,109,108,110,115])))||(a.space==[104,116,116,112,58,47,47,119,119,119,46,119,51,46,111,114,103,47,50,48,48,48,47,120,109,108,110,115,47])):=by rw[han];rfl
          cases e1:(a.space==[])<;>cases e2:(a.name==[120,109,108,110,115])<;>cases e3:(a.space==[104,116,116,112,58,47,47,119,119,119,46,119,51,46,111,114,103,47,50,48,48,48,47,120,109,108,110,115,47])<;>cases an
          all_goals (rw[e1,e2,e3]at hba;simp only[No,Wm,Wy,XD,XN,XG,W8,Bt,Bf]at hba)
          all_goals first
            | (have hr:v.any ny=true:=eO hx (by rw[hbad,eO ha hba])
               rw[hr]
               simp only[Bt,Wy]
               (have zF:=a6 f1 f2 hat haa @aC.eq_1 (a9 @bi.eq_1 hlt hii hja hji e1 e2 e3 @bu);have cF:=hna2;repeat' first|refine wS ?_|exact wE|refine ao (v:=.any) ?_|((first|apply b7|apply cM)<;>intro hb)|refine Ai Y6 ?_|(apply Ai<;>intro hb)|apply Fin.pure|simp only[aB]))
            | (have hna':=fy ha hna hba
               (have zF:=a7 f1 f2 hat haa @aC.eq_1 @bi.eq_1 (a9 hlt hii hja hji e1 e2 e3 wj @bu);have cF:=hna2;repeat' first|refine wS ?_|exact wE|refine ao (v:=.any) ?_|((first|apply b7|apply cM)<;>intro hb)|refine Ai Y6 ?_|(apply Ai<;>intro hb))
               all_goals ((have zF:=a2 @aa wj;refine c7 (j+1) [] ?_ ?_))
               all_goals (first|(show x.attrs.length-(j+1)<x.attrs.length-j;omega)|exact⟨hja,hna'⟩|skip))
        · have hje:j=x.attrs.length:=Y6
          subst hje
          have f1:=pK x.attrs.length x.attrs.length
          have f2:decide (x.attrs.length<x.attrs.length)=false:=aL
          rw[WJ]at hna
          have hno':=fy hx hno (hbad.trans hna)
          (refine xR (a7 f1 f2 hat @aC.eq_1 hlt hii wi) trivial ?_)
          all_goals ((have zF:=a2 @aa wi;refine c7 (i+1) [] ?_ ?_))
          all_goals (first|(show v.length-(i+1)<v.length-i;omega)|exact⟨hlt,hno'⟩|skip))
    · have hie:i=v.length:=Y6
      subst hie
      have d1:=pK v.length v.length
      have d2:decide (v.length<v.length)=false:=aL
      rw[WJ]at hno
      rw[hno]
      simp only[Bf,Wq]
      exact xP (a3 d1 d2 @aa) hmt
def N2 (n:Nd)(sp:ZA)(hk:n.kind=1)(hn:n.okTo 1000000)(ha:n.attrs.length<=30)(nm:Nat) :
  Ev cx 170 nm [.agg (aC n),.str sp] ah.nil (.agg (aC (eu n sp))) []:=by
 have h:=JX n sp hk hn ha nm
 have hc:aC (eu n sp)=[.int .u8 1,.str [],.str n.name,.sl false 3 ((eu n sp).attrs.map bi),.str [],.int .i64 n.many]:=by
  have:(eu n sp).kind=1:=hk
  unfold aC;rw[this];rfl
 rw[hc]
 generalize (eu n sp).attrs=A at h ⊢
 have hpl:=aj A
 have htk:=iW A
 refine Ev.freeze h ?_ ?_
 ·simp only[cC,aK,aF,hpl,htk,Lm,au,aH,seval]<;>omega
 ·simp only[cC,aK,aF,hpl,htk,Lm,au,aH,seval]
def Fo.bare_app:∀(F G:Fo) (sp:ZA),(F.app G).bare sp=F.bare sp++G.bare sp
 | .nil,_,_=>rfl
 | .cons n k r,G,sp=>by simp only[Fo.app,Fo.bare,r.bare_app G sp,WV]
def Pn (v:List Nd)(n:Nd)(k:Fo):Prop:=∀(p:Nat) (rest:List Nd) (sp:ZA),v.drop p=n::(k.flat++rest) ->
 ∀ nm,Ev cx 137 nm [.sl false 6 (v.map aC),.int .i64 p,.str sp] ah.nil (.sl false 6 (((Fo.cons n k .nil).bare sp).map aC)) []
def Ip (v:List Nd)(n:Nd)(hk:n.kind=2):Pn v n .nil:=by
 intro p rest sp hd nm
 obtain⟨hx,hpl,hd1⟩:=jn hd
 have hat:=dv hx
 have hpi:=lV p v.length
 have k1:((n.kind:Int)==2)=true:=by rw[hk];rfl
 have hr:(Fo.cons n .nil .nil).bare sp=[n]:=by simp[Fo.bare,hk]
 rw[hr]
 refine Ev.rows_fz (R:=[aC n]) ?_ (iz _) (aa _)
 show Ev cx _ nm _ ah.nil (.own nm 0 1) _
 simp only[aC]
 refine aG call137 func137 results137 ntmps137 ?_;intro b0 hb0 zN
 ((repeat' first|simp only[cC,aK,results137,ntmps137,aF,hat,aC,hpl,hpi,k1,aa,aj,plainL,V.plain,No,Lm,au,aH,seval]|exact rfl|refine ao (v:=.any) ?_|refine bm  ZJ  ?_|((first|apply b7|apply cM)<;>intro hb)|refine Ai Y6 ?_|(apply Ai<;>intro hb));(all_goals (first|(refine Fin.auto (r:=?_) (l:=?_) ?_ ?_ ?_ ?_ ?_ ?_ ?_;rotate_left 1;(simp only[results137,ntmps137,dB,eG,cN,dq,hat,aC,hpl,hpi,k1,aa,aj,plainL,V.plain,No,Lm,au,aH,seval]);(exact rfl);rotate_left 1;(simp only[V.owns,ownsL,List.cons_append,List.nil_append]);(exact rfl);all_goals (try simp only[results137,ntmps137,dB,eG,cN,dq,hat,aC,hpl,hpi,k1,aa,aj,plainL,V.plain,No,Lm,Bd,au,aH,seval]);all_goals (try simp only[aB]))|skip)))
def Io (v:List Nd)(hv:v.length<=1000)(hokv:∀ n∈v,n.okTo 1000000)(n:Nd)(k:Fo)(hk:n.kind=1)(d:Nat)(hd12:d<=12)(hg:(Fo.cons n k .nil).good d 0=true)(ih:uK (Pn v) k):Pn v n k:=by
 intro p rest sp hd nm
 have hokl:∀ x∈v,x.okTo aN:=fun x hx=>fF (hokv x hx) ZI
 obtain⟨hx,hpl,hd1⟩:=jn hd
 have hat:=dv hx
 have hpi:=lV p v.length
 obtain⟨g1,g2,g3,g4,g5,g6⟩:=Fo.good_cons.1 hg
 have hkl:=om hd1
 have hkc:=fN k
 have k1:((n.kind:Int)==2)=false:=by rw[hk];rfl
 have k2:¬ n.kind=2:=Y6
 have ha16:=(ia g1).1
 have hto:=N2 n sp hk (hokv n (By hx)) Y6
 have hun:=sU v hv hokl hd hg hd12
 have hTl:=Fo.tops_length k (p+1)
 generalize hTd:k.tops (p+1)=T at hun hTl
 have hres:(Fo.cons n k .nil).bare sp=eu n sp::k.bare n.space:=by simp[Fo.bare,k2]
 rw[hres]
 clear hres
 generalize eu n sp=X at hto ⊢
 have hr1:(k.bare n.space).length<=1000:=by
  have:=Fo.tell_flat n.space g5
  rw[<- this,Fo.flat_length,Fo.tell_size]
  omega
 have hX1:[(.int .u8 X.kind),(.str X.space),(.str X.name),(.sl false 3 (X.attrs.map bi)),(.str X.text),(.int .i64 X.many)]=aC X:=rfl
 have hpX:plainL (aC X)=true:=by simp[aC,plainL,V.plain,aj]
 obtain⟨Z,hZ⟩:∃ Z,Z=(X::k.bare n.space).map aC:=⟨_,rfl⟩
 obtain⟨N,hN⟩:∃ N,N=(X::k.bare n.space).length:=⟨_,rfl⟩
 refine Ev.rows_fz (R:=Z) ?_ (by rw[hZ];exact iz _) (aa _)
 rw[Lm,<- hN]
 refine aG call137 func137 results137 ntmps137 ?_;intro b0 hb0 zN
 repeat' first|simp only[cC,aK,results137,ntmps137,aF,hat,aC,hpl,hpi,k1,aa,aj,plainL,V.plain,No,Lm,au,aH,seval]|exact rfl|refine ao (v:=.any) ?_|(first|(refine ad ?_ (hto _) ?_)|(refine ai ?_ (fun _=>hto _) ?_)|(refine ad ?_ (hun _) ?_)|(refine ai ?_ (fun _=>hun _) ?_))|refine bm  ZJ  ?_|((first|apply b7|apply cM)<;>intro hb)|refine Ai Y6 ?_|(apply Ai<;>intro hb)
 (refine v8 (fun x:UnSt=>k.count-x.D.count) (fun x=>x.inv k p) (b0+16) (fun x=>[(0,.sl false 6 (v.map aC)),(1,.int .i64 p),(7,.own b0 0 (X::x.D.bare n.space).length),(8,.sl false 1 (T.map bH)),(9,.int .i64 x.D.count)]) (fun x=>[(b0,⟨6,(X::x.D.bare n.space).map aC⟩)]) ((UnSt.mk .nil k (p+1))) [some (b0+208)] ?_ ?_ ?_;(focus (refine⟨?_,?_⟩<;>(try simp only[bL,hX1,hpX,W8,WQ,aa,aw,aj,am,aS,Fo.bare,Fo.count,Lc,Lo,List.length_cons,List.length_nil,Lm,au,aH,aB,seval])<;>(try omega))))
 ·exact⟨rfl,rfl⟩
 ·rintro ⟨D,R,q⟩ ⟨hi1,hi2⟩
  simp only at hi1 hi2 ⊢
  obtain⟨L,hL⟩:∃ L,L=X::D.bare n.space:=⟨_,rfl⟩
  rw[<- hL]
  have htk:(L.map aC).take L.length=L.map aC:=bF _ _
  cases R with
  | nil =>
   rw[Fo.app_nil]at hi1
   subst hi1
   rw[<- hL]at hZ hN
   have hLl:L.length<=1001:=by rw[hL];simp;omega
   have d1:=pK D.count T.length
   have d2:decide (D.count<T.length)=false:=aL
   subst hZ;subst hN
   exact xO (a5 d1 d2 htk @aw @aa) trivial
  | cons m c r =>
   have hi1':(D.app (.cons m c .nil)).app r=k:=by rw[Fo.app_assoc];exact hi1
   have hkc2:k.count=D.count+(r.count+1):=by rw[<- hi1,Fo.app_count];rfl
   have hks2:k.size=D.size+(c.size+r.size+1):=by rw[<- hi1,Fo.app_size];rfl
   have hdq:=sR hd1 hi1
   rw[<- hi2]at hdq
   have hTq:=wv hi1 p
   rw[hTd,<- hi2]at hTq
   obtain⟨hat1,hil⟩:=FW hTq
   have hili:=lV D.count T.length
   have d1:decide ((D.count:Int)<(T.length:Int))=true:=AI hili
   have d2:decide (D.count<T.length)=true:=AI hil
   have w2:IntKind.i64.wrap ((D.count:Int)+1)=((D.count+1:Nat):Int):=aX
   rw[<- hi1]at ih
   have hrc:=(qK ih) q _ n.space hdq
   have hct:=Fo.app_count D (.cons m c .nil)
   simp only[Fo.count,We]at hct
   have ra1:=Fo.bare_app D (.cons m c .nil) n.space
   have hra:=Fo.bare_app (D.app (.cons m c .nil)) r n.space
   rw[hi1',ra1]at hra
   have hkl2:=congrArg List.length hra
   simp only[List.length_append]at hkl2
   have hL2:X::(D.app (.cons m c .nil)).bare n.space=L++(Fo.cons m c .nil).bare n.space:=by rw[ra1,hL];rfl
   have hLl:L.length<=1001:=by rw[hL];simp;omega
   generalize (Fo.cons m c .nil).bare n.space=Y at hrc hkl2 hL2
   have hLX:L.map aC++Y.map aC=(L++Y).map aC:=WM.symm
   have hL2m:aC X::((D.app (.cons m c .nil)).bare n.space).map aC=(L++Y).map aC:=by rw[<- hL2];rfl
   have hL2l:((D.app (.cons m c .nil)).bare n.space).length+1=L.length+Y.length:=by have:=congrArg List.length hL2;simpa using this
   have hatn:(v.map aC)[p]? = some [.int .u8 n.kind,.str n.space,.str n.name,.sl false 3 (n.attrs.map bi),.str n.text,.int .i64 n.many]:=hat
   (refine xR (a5 d1 d2 htk hatn (a9 hat1 hil hili hpl hpi @Bb @bH.eq_1 @aa @aw)) hrc ?_)
   all_goals ((have zF:=a9 w2 hct hLX hL2m hL2l @aa @aw @am @aS;refine c7 (UnSt.mk (D.app (.cons m c .nil)) r (q+1+c.size)) [some (b0+272)] ?_ ?_))
   all_goals (first|(show k.count-(D.app (.cons m c .nil)).count<k.count-D.count;omega)|(refine⟨hi1',?_⟩;simp only[Fo.app_size,Fo.size];omega)|skip)
def vq (v:List Nd)(hv:v.length<=1000)(hok:∀ n∈v,n.okTo 1000000):∀(F:Fo) (d last:Nat),d<=12->F.good d last=true->uK (Pn v) F
 | .nil,_,_,_,_=>trivial
 | .cons n k r,d,last,hd,hg=>by
  obtain⟨h1,h2,h3,h4,h5,h6⟩:=Fo.good_cons.1 hg
  refine⟨?_,vq v hv hok r d n.kind hd h6⟩
  by_cases hk:n.kind=2
  ·have:=Fo.text_leaf hg hk
   subst this
   exact Ip v n hk
  ·have hk1:n.kind=1:=by rcases iA h1 with e|e;exact e;exact absurd e hk
   exact Io v hv hok n k hk1 d hd (Fo.good_cons.2 ⟨h1,h2,by omega,h4,h5,rfl⟩) (vq v hv hok k (d-1) 1 Y6 h5)
def Gj (v:List Nd)(hv:v.length<=1000)(hok:∀ n∈v,n.okTo 1000000){n:Nd}{k:Fo}(hvv:v=n::k.flat)(hg:(Fo.cons n k .nil).good 12 0=true)(sp:ZA)(nm:Nat) :
  Ev cx 85 nm [.sl false 6 (v.map aC),.str sp] ah.nil (.sl false 6 (((Fo.cons n k .nil).bare sp).map aC)) []:=by
 have hd:=(vq v hv hok (.cons n k .nil) 12 0 (IS _) hg).1 0 [] sp (by rw[WP,WR];exact hvv)
 simp only[Int.ofNat_zero]at hd
 have hpl:=aa ((Fo.cons n k .nil).bare sp)
 refine aG call85 func85 results85 ntmps85 ?_;intro b0 hb0 zN
 exact xP (a2 hpl @aa) hd
def NN (v:List Nd)(sp:ZA)(hv:v.length<=1000)(hok:∀ n∈v,n.okTo 1000000/\n.i64)(hs:sp.length<=aN)(nm:Nat) :
    Ev cx 36 nm [.sl false 6 (v.map aC),.str sp] ah.nil (eN (bM v sp).1 (bM v sp).2) []:=by
  have hokl:∀ x∈v,x.okTo aN:=fun x hx=>fF (hok x hx).1 ZI
  have hm:=NU v hv hokl
  have hc:=iB sp hs
  unfold eN
  by_cases h1:dO v=0
  · rw [AI h1]at hm
    by_cases h2:az sp=0
    · rw [h2]at hc
      cases c1:(sp==[104,116,116,112,58,47,47,119,119,119,46,119,51,46,111,114,103,47,88,77,76,47,49,57,57,56,47,110,97,109,101,115,112,97,99,101]) with
      | true =>
        have hg:dY sp=true:=by unfold dY jm;rw[c1];rfl
        have hb:bM v sp=([],8):=by unfold bM;rw[if_neg (by simp[h1]),if_pos (.inr hg)]
        rw[hb]
        simp only[Lo]
        refine aG call36 func36 results36 ntmps36 ?_;intro b0 hb0 zN
        (have zF:=a3 c1 @bu @aa;have cF:=a2 hm hc;repeat' first|refine wS ?_|exact wE|refine ao (v:=.any) ?_|((first|apply b7|apply cM)<;>intro hb)|refine Ai Y6 ?_|(apply Ai<;>intro hb)|apply Fin.pure|simp only[aB])
      | false =>
        cases c2:(sp==[104,116,116,112,58,47,47,119,119,119,46,119,51,46,111,114,103,47,50,48,48,48,47,120,109,108,110,115,47]) with
        | true =>
          have hg:dY sp=true:=by unfold dY jm lO;rw[c1,c2];rfl
          have hb:bM v sp=([],8):=by unfold bM;rw[if_neg (by simp[h1]),if_pos (.inr hg)]
          rw[hb]
          simp only[Lo]
          refine aG call36 func36 results36 ntmps36 ?_;intro b0 hb0 zN
          (have zF:=a4 c1 c2 @bu @aa;have cF:=a2 hm hc;repeat' first|refine wS ?_|exact wE|refine ao (v:=.any) ?_|((first|apply b7|apply cM)<;>intro hb)|refine Ai Y6 ?_|(apply Ai<;>intro hb)|apply Fin.pure|simp only[aB])
        | false =>
          have hg:dY sp=false:=by unfold dY jm lO;rw[c1,c2];rfl
          obtain⟨n,k,hk,hvv,hgd,hl⟩:=lc (yA h1).2
          have hf:oo v = .cons n k .nil:=by rw[hvv];exact pc hgd
          have hto:=Gj v hv (fun x hx=>(hok x hx).1) hvv hgd sp
          have hb:bM v sp=if nG ((Fo.cons n k .nil).bare sp)=true then ([],4) else ((Fo.cons n k .nil).bare sp,0):=by
            unfold bM
            rw[if_neg (by simp[h1]),if_neg (by simp[h2,hg]),hf]
          rw[hb]
          clear hb
          have hTl:((Fo.cons n k .nil).bare sp).length<=1000:=by
            rw[<- Fo.tell_flat sp hgd,Fo.flat_length,Fo.tell_size];simp only[Fo.size];omega
          have hpl:=aa ((Fo.cons n k .nil).bare sp)
          generalize (Fo.cons n k .nil).bare sp=T at hto hTl hpl ⊢
          refine aG call36 func36 results36 ntmps36 ?_;intro b0 hb0 zN
          (refine xR (a5 c1 c2 @bu @aa hpl) (a3 hm hc hto) ?_)
          (have zF:=a2 hpl @aa;refine fu (fun x:Nat=>T.length-x) (fun x=>x<=T.length/\(T.take x).any (fun n=>decide (16<n.attrs.length))=false) (b0+16) (fun x=>[(6,.sl false 6 (T.map aC)),(7,.int .i64 x)]) (fun x=>[]) (0) [] ?_ ?_)
          · exact⟨WB _,rfl⟩
          · rintro i ⟨hi,hno⟩
            by_cases hlt:i<T.length
            · obtain⟨x,hx⟩:=js hlt
              have hat:=dv hx
              have hii:=lV i T.length
              have d1:decide ((i:Int)<(T.length:Int))=true:=AI hii
              have d2:=AI hlt
              have wi:=eX i
              by_cases hw:16<x.attrs.length
              · have e1:decide ((16:Int)<(x.attrs.length:Int))=true:=bz
                have e2:decide (16<x.attrs.length)=true:=AI hw
                have hr:nG T=true:=by unfold nG;exact eO hx e2
                rw[if_pos hr]
                simp only[Lo]
                exact xP (a8 d1 d2 hat @aC.eq_1 hlt hii e1 e2) trivial
              · have e1:decide ((16:Int)<(x.attrs.length:Int))=false:=aL
                have e2:decide (16<x.attrs.length)=false:=WA hw
                have hno':=fy hx hno e2
                (refine xR (a9 d1 d2 hat @aC.eq_1 hlt hii e1 e2 wi) trivial ?_)
                all_goals ((have zF:=a3 hpl @aa wi;refine c7 (i+1) [] ?_ ?_))
                all_goals (first|(show T.length-(i+1)<T.length-i;omega)|exact⟨hlt,hno'⟩|skip)
            · have hie:i=T.length:=Y6
              subst hie
              have d1:=pK T.length T.length
              have d2:decide (T.length<T.length)=false:=aL
              rw[WJ]at hno
              have hr:nG T=false:=hno
              rw[hr]
              simp only[WH,WS]
              exact xP (a4 d1 d2 hpl @aa) trivial
    · have hb:bM v sp=([],8):=by unfold bM;rw[if_neg (by simp[h1]),if_pos (.inl h2)]
      have q:(az sp != 0)=true:=by simpa using h2
      rw[hb]
      simp only[Lo]
      generalize az sp=E at hc q
      refine aG call36 func36 results36 ntmps36 ?_;intro b0 hb0 zN
      (have zF:=a3 q @bu @aa;have cF:=a2 hm hc;repeat' first|refine wS ?_|exact wE|refine ao (v:=.any) ?_|((first|apply b7|apply cM)<;>intro hb)|refine Ai Y6 ?_|(apply Ai<;>intro hb)|apply Fin.pure|simp only[aB])
  · rw [WA h1]at hm
    have h8:dO v=8:=by
      unfold dO at h1 ⊢
      split
      · rfl
      · rename_i h;rw[if_neg h]at h1
        unfold dN at h1 ⊢
        split
        · rfl
        · rename_i h2;rw[if_neg h2]at h1;exact absurd rfl h1
    have hb:bM v sp=([],8):=by unfold bM;rw[if_pos h1,h8]
    rw[hb]
    simp only[Lo]
    refine aG call36 func36 results36 ntmps36 ?_;intro b0 hb0 zN
    (have zF:=a2 @bu @aa;have cF:=hm;repeat' first|refine wS ?_|exact wE|refine ao (v:=.any) ?_|((first|apply b7|apply cM)<;>intro hb)|refine Ai Y6 ?_|(apply Ai<;>intro hb)|apply Fin.pure|simp only[aB])
def JT (l:List Tk)(hl:l.length<=600)(hs:∀ t∈l,t.okTo 1000000/\t.attrs.length<=30)(nm:Nat):Ev cx 14 nm [.sl false 4 (l.map aY)] ah.nil (eN (bJ l) (bU l)) []:=by
 by_cases h:bU l=0
 ·have h3:=wG l hl hs nm _ _ (.inr ⟨h,rfl,rfl⟩)
  rw[h]
  have hpl:=aa (bJ l)
  have htk:((bJ l).map aC).take (bJ l).length=(bJ l).map aC:=bF _ _
  refine Ev.freeze h3 ?_ ?_
  ·simp only[cC,aK,aF,hpl,htk,Lm,au,aH,seval]<;>omega
  ·unfold eN
   simp only[cC,aK,aF,hpl,htk,Lm,au,aH,seval]
 ·have h3:=wG l hl hs nm _ _ (.inl ⟨h,rfl,rfl⟩)
  have hT:bJ l=[]:=by unfold bJ;rw[if_neg h]
  rw[hT]
  refine Ev.res_le h3 ?_
  unfold eN
  simp only[m9,cS,dQ,bR,jh,Lo,XJ]
def Gm (v:List Nd)(o:ZA)(hv:v.length<=900)(hok:∀ n∈v,n.okTo 999900/\n.i64)(ho:o.length<=aN)(nm:Nat):Ev cx 19 nm [.sl false 6 (v.map aC),.str o] ah.nil (.tup [.str (ic v o).1,.int .i64 (ic v o).2]) []:=by
 have hok1:∀ n∈v,n.okTo 1000000/\n.i64:=fun n hn=>⟨fF (hok n hn).1 ZI,(hok n hn).2⟩
 have s1:=NN v o Y6 hok1 ho
 have hbl:=tz v o
 have hbf:=bare_fit (v:=v) (sp:=o) (B:=999900) hok
 have s2:=Gi (bM v o).1 Y6 (fun n hn=>fF (hbf n hn).1 ZI)
 have s3:=NQ (cW (bM v o).1).1 (by have:=zU (bM v o).1;omega) (zT (K:=1000000) (fun x hx=>fF (hbf x hx).1 ZI))
 unfold eN at s1
 unfold ym at s2
 unfold ic
 have hp1:=aa (bM v o).1
 have hp2:=ax (cW (bM v o).1).1
 generalize ov (cW (bM v o).1).1=J at s3 ⊢
 generalize gJ (cW (bM v o).1).1=JE at s3 ⊢
 generalize (cW (bM v o).1).1=T at s2 s3 hp2 ⊢
 generalize (cW (bM v o).1).2=TE at s2 ⊢
 generalize (bM v o).1=B at s1 s2 hp1 ⊢
 generalize (bM v o).2=BE at s1 ⊢
 by_cases h1:BE=0
 ·subst h1
  rw[if_neg ZH]
  by_cases h2:TE=0
  ·subst h2
   rw[if_neg ZH]
   refine aG call19 func19 results19 ntmps19 ?_;intro b0 hb0 zN
   exact xP (a3 hp1 hp2 @aa) (a3 s1 s2 s3)
  ·rw[if_pos h2]
   have q:(TE != 0)=true:=by simpa using h2
   refine aG call19 func19 results19 ntmps19 ?_;intro b0 hb0 zN
   exact xP (a4 q hp1 hp2 @aa) (a2 s1 s2)
 ·rw[if_pos h1]
  have q:(BE != 0)=true:=by simpa using h1
  refine aG call19 func19 results19 ntmps19 ?_;intro b0 hb0 zN
  exact xP (a3 q hp1 @aa) s1
def zz (s:ZA)(hs:s.length<=16384)(nm:Nat):Ev cx 5 nm [.str s] ah.nil (eN (cB s).1 (cB s).2) []:=by
 have s1:=Rj s (by unfold aN;omega)
 unfold Df at s1
 have hpf:=ws hs
 unfold cB
 by_cases h1:(bW s).2.2=0
 ·have hA:gh s=(bJ (bW s).1,bU (bW s).1):=by unfold gh;rw[if_neg (by simpa using h1)]
  rw[hA]at hpf ⊢
  simp only at hpf ⊢
  obtain⟨f1,f2⟩:=toks_fit hs h1
  have s2:=JT (bW s).1 f1 f2
  have s3:=DJ (bJ (bW s).1) (by have:=hpf.1;omega) (fun n hn=>fF (hpf.2 n hn).1 ZI)
  unfold eN at s2 s3 ⊢
  rw[h1]at s1
  have hp1:=ax (bW s).1
  have hp2:=aa (bJ (bW s).1)
  have hp3:=aa (bX (bJ (bW s).1)).1
  by_cases h2:bU (bW s).1=0
  ·rw[if_neg (by simpa using h2)]
   rw[h2]at s2
   generalize (bX (bJ (bW s).1)).1=R at s3 hp3 ⊢
   generalize (bX (bJ (bW s).1)).2=RE at s3 ⊢
   generalize bJ (bW s).1=P at s2 s3 hp2
   generalize (bW s).1=L at s1 s2 hp1
   generalize (bW s).2.1=A at s1
   refine aG call5 func5 results5 ntmps5 ?_;intro b0 hb0 zN
   exact xP (a4 hp1 hp2 hp3 @aa) (a3 s1 s2 s3)
  ·rw[if_pos h2]
   have q:(bU (bW s).1 != 0)=true:=by simpa using h2
   simp only[Lo]
   generalize bJ (bW s).1=P at s2 hp2
   generalize bU (bW s).1=PE at s2 q ⊢
   generalize (bW s).1=L at s1 s2 hp1
   generalize (bW s).2.1=A at s1
   refine aG call5 func5 results5 ntmps5 ?_;intro b0 hb0 zN
   exact xP (a4 q hp1 hp2 @aa) (a2 s1 s2)
 ·have hA:gh s=([],(bW s).2.2):=by unfold gh;rw[if_pos h1]
  rw[hA,if_pos h1]
  unfold eN
  have q:((bW s).2.2 != 0)=true:=by simpa using h1
  have hp1:=ax (bW s).1
  simp only[Lo]
  generalize (bW s).1=L at s1 hp1
  generalize (bW s).2.1=A at s1
  generalize (bW s).2.2=E at s1 q ⊢
  refine aG call5 func5 results5 ntmps5 ?_;intro b0 hb0 zN
  exact xP (a3 q hp1 @aa) s1
def JP (s:ZA)(hs:s.length<=16384)(nm:Nat):Ev cx 7 nm [.str s] ah.nil (.tup [.str (dW s).1,.int .i64 (dW s).2]) []:=by
 have s1:=zz s hs
 obtain⟨f1,f2⟩:=wK hs
 have s2:=Gm (cB s).1 [] Y6 (fun n hn=>⟨fF (f2 n hn).1 ZI,(f2 n hn).2⟩) ZH
 unfold eN at s1
 unfold dW
 have hp1:=aa (cB s).1
 by_cases h1:(cB s).2=0
 ·rw[if_neg (by simpa using h1)]
  rw[h1]at s1
  generalize (ic (cB s).1 []).1=W at s2 ⊢
  generalize (ic (cB s).1 []).2=WE at s2 ⊢
  generalize (cB s).1=R at s1 s2 hp1
  refine aG call7 func7 results7 ntmps7 ?_;intro b0 hb0 zN
  exact xP (a2 hp1 @aa) (a2 s1 s2)
 ·rw[if_pos h1]
  have q:((cB s).2 != 0)=true:=by simpa using h1
  generalize (cB s).1=R at s1 hp1
  generalize (cB s).2=RE at s1 q ⊢
  refine aG call7 func7 results7 ntmps7 ?_;intro b0 hb0 zN
  exact xP (a3 q hp1 @aa) s1
def wc (s:ZA)(hsl:s.length<=aN)(nm:Nat):Ev cx 3 nm [.str s] ah.nil (.bool true) []:=by
 by_cases hs:s.length<=2000
 ·have d1:decide ((2000:Int)<(s.length:Int))=false:=aL
  have d2:decide (2000<s.length)=false:=aL
  have a1:=Rl s Y6
  have a2:=zz s Y6
  have a3:=LR s Y6
  have a4:=JP s Y6
  obtain⟨f1,f2⟩:=wK (s:=s) Y6
  have hsm:=J3 (cB s).1 (cB s).1 (by unfold aN;omega) (by unfold aN;omega) (fun x hx=>by have:=(f2 x hx).1.1;unfold aN;omega) (fun x hx=>by have:=(f2 x hx).1.1;unfold aN;omega)
  rw[AI rfl]at hsm
  have hpl:=aa (cB s).1
  unfold eN at a1 a2
  generalize (cB s).1=v at a1 a2 hsm hpl
  generalize (cB s).2=e at a1 a2
  generalize (dW s).1=x at a3 a4
  generalize (dW s).2=g at a3 a4
  have q1:(e==e)=true:=by simp
  have q2:(x==x)=true:=by simp
  have q3:(g==g)=true:=by simp
  refine aG call3 func3 results3 ntmps3 ?_;intro b0 hb0 zN
  exact xP (a6 d1 d2 hpl q1 q2 q3) (a5 a1 a2 a3 a4 hsm)
 ·have d1:decide ((2000:Int)<(s.length:Int))=true:=bz
  have d2:decide (2000<s.length)=true:=bz
  refine aG call3 func3 results3 ntmps3 ?_;intro b0 hb0 zN
  exact xP (a2 d1 d2) trivial
def wb (xs:List V)(h:lQ cx.P Tryz.f3.params.toList xs):Ev cx 3 0 xs ah.nil (.bool true) []:=by
 rw[Tryz.params3]at h
 obtain⟨_,v1,_,rfl,h1,h2⟩:=h
 obtain rfl:=Lv h2
 obtain⟨s,rfl,hs⟩:=KA MQ h1
 rw[Lt MQ ZH]
 exact wc s (by unfold aN;omega) 0
end Go.Proofs.YtgboofebldgdjaaGreatDoor
