/-
 Texts joined: XGo,XNs,XGp,XGr,XNt,XNu.
-/
import Derived.Test.YtgboofebldgdjaaGreatDoorQk
set_option linter.all false
namespace Go.Proofs.YtgboofebldgdjaaGreatDoor
set_option maxRecDepth 100000
set_option maxHeartbeats 32000000
open Go Go.RowKit Vm Go.Lib Tryz
def tD:∀(k n:Nat),n<10 ^ (k+1)->(eh n).length<=k+1
 | 0,n,h=>by rw[fB Y6];simp
 | k+1,n,h=>by
  by_cases h9:n<=9
  ·rw[fB h9];simp
  ·rw[ig Y6,List.length_append,List.length_singleton]
   have:=tD k (n / 10) (by rw[Nat.pow_succ]at h;omega)
   omega
def Um {d:Nat}(h:d<=9):((UInt8.ofNat (48+d)).toNat:Int)=48+(d:Int):=by simp;omega
def kY (n:Nat)(hn:n<10 ^ 17)(nm:Nat):Ev cx 197 nm [.int .i64 n] ah.nil (.str (eh n)) []:=by
 have hl:=tD 16 n hn
 have hn':n<100000000000000000:=hn
 refine aG call197 func197 results197 ntmps197 ?_;intro b0 hb0 zN
 (refine xR trivial trivial ?_)
 (have zF:=trivial;refine fu (fun x:Nat×ZA=>x.1) (fun x=>x.1<=n/\eh n=eh x.1++x.2) (b0+16) (fun x=>[(0,.int .i64 x.1),(3,.str x.2)]) (fun x=>[]) ((n,[])) [] ?_ ?_)
 ·exact⟨IS _,(WR _).symm⟩
 ·rintro ⟨m,acc⟩ ⟨h1,h2⟩
  simp only at h1 h2
  have hal:acc.length<=17:=by
   have:=congrArg List.length h2
   rw[List.length_append]at this;omega
  by_cases h9:9<m
  ·have hd:decide ((9:Int)<(m:Int))=true:=bz
   have q1:(m:Int).tmod 10=((m % 10:Nat):Int):=by rw[X9 Y6];rfl
   have q2:(m:Int).tdiv 10=((m / 10:Nat):Int):=by rw[XM Y6];rfl
   have w1:IntKind.i64.wrap ((m % 10:Nat):Int)=((m % 10:Nat):Int):=aX
   have w2:IntKind.i64.wrap (48+((m % 10:Nat):Int))=48+((m % 10:Nat):Int):=aX
   have w3:IntKind.u8.wrap (48+((m % 10:Nat):Int))=((UInt8.ofNat (48+m % 10)).toNat:Int):=by rw[IntWalk.u8_in _ Y6,Um Y6]
   have w4:IntKind.i64.wrap ((m / 10:Nat):Int)=((m / 10:Nat):Int):=aX
   generalize hg:UInt8.ofNat (48+m % 10)=g at w3
   have hcl:([g]++acc).length=acc.length+1:=by simp
   (have zF:=a9 hd q1 q2 w1 w2 w3 w4 hcl @av.eq_1;repeat' first|refine wS ?_|(refine dV (v:=?_) (bs:=[g]) ?_ ?_ ?_ ?_ ?_ ?_ ?_;rotate_left 1;(iterate 2 (focus (exact wD)));(focus (exact wH));(focus (exact rfl));(focus (exact wM));(focus (exact wH))) | refine Ai Y6 ?_)
   all_goals ((have zF:=trivial;refine c7 ((m / 10,[g]++acc)) [] ?_ ?_))
   all_goals (first|(show m / 10<m;omega)|(refine⟨by show m / 10<=n;omega,?_⟩;rw[h2,ig h9,hg,WV]))
  ·have hd:decide ((9:Int)<(m:Int))=false:=aL
   have w2:IntKind.i64.wrap (48+(m:Int))=48+(m:Int):=aX
   have w3:IntKind.u8.wrap (48+(m:Int))=((UInt8.ofNat (48+m)).toNat:Int):=by rw[IntWalk.u8_in _ Y6,Um Y6]
   have hr:eh n=[UInt8.ofNat (48+m)]++acc:=by rw[h2,fB Y6]
   generalize hg:UInt8.ofNat (48+m)=g at w3 hr
   have hcl:([g]++acc).length=acc.length+1:=by simp
   (have zF:=a6 hd w2 w3 hr hcl @av.eq_1;repeat' first|refine wS ?_|exact wE|(refine dV (v:=?_) (bs:=[g]) ?_ ?_ ?_ ?_ ?_ ?_ ?_;rotate_left 1;(iterate 2 (focus (exact wD)));(focus (exact wH));(focus (exact rfl));(focus (exact wM));(focus (exact wH))) | refine Ai Y6 ?_ | apply Fin.pure)
def OW (s:ZA):Int:=match iJ 0 s with|some n=>n|none=>-1
def z5 {s:ZA}{n:Nat}(h:iJ 0 s=some n):OW s=n:=by unfold OW;rw[h]
def zZ {s:ZA}(h:iJ 0 s=none):OW s = -1:=by unfold OW;rw[h]
def Ga (s:ZA)(hs:s.length<=16)(nm:Nat):Ev cx 214 nm [.str s] ah.nil (.int .i64 (OW s)) []:=by
  refine aG call214 func214 results214 ntmps214 ?_;intro b0 hb0 zN
  (refine xR trivial trivial ?_)
  (have zF:=trivial;refine fu (fun x:Nat×Nat=>s.length-x.1) (fun x=>x.1<=s.length/\iJ 0 (s.take x.1)=some x.2) (b0+16) (fun x=>[(0,.str s),(3,.int .i64 x.2),(4,.int .i64 x.1)]) (fun x=>[]) ((0,0)) [] ?_ ?_)
  · exact⟨WB _,rfl⟩
  · rintro ⟨k,m⟩ ⟨hk,hv⟩
    simp only at hk hv
    have hmb:=(qY _ _ _ hv).2
    have hkl:(s.take k).length=k:=by rw[WK];omega
    rw[hkl]at hmb
    have hp16:(10:Nat) ^ k<=10 ^ 16:=XZ Y6 Y6
    have hm16:m<10000000000000000:=by simp only[We,X2]at hmb;exact Wi hmb hp16
    by_cases hlt:k<s.length
    · obtain⟨c,hc⟩:=js hlt
      have hd:=AI hlt
      have hwk:=eX k
      have hcn:c.toNat<256:=c.toNat_lt
      have hw1:IntKind.i64.wrap (c.toNat:Int)=(c.toNat:Int):=aX
      have hnx:=yE hc
      rw[hv]at hnx
      simp only[Option.bind_some]at hnx
      cases hdc:qX c with
      | none =>
        have hno:iJ 0 s=none:=by
          rw[hdc]at hnx
          rw[<- List.take_append_drop (k+1) s]
          exact sn hnx
        have hr:=zZ hno
        have hcs:decide ((c.toNat:Int)<48)=true\/(decide ((c.toNat:Int)<48)=false/\decide ((57:Int)<(c.toNat:Int))=true):=by
          by_cases h1:(c.toNat:Int)<48
          · exact .inl (AI h1)
          · refine .inr ⟨WA h1,AI ?_⟩
            unfold qX at hdc
            split at hdc
            · cases hdc
            · omega
        rcases hcs with h1|⟨h1,h2⟩
        · exact xP (a6 hc hd hlt hw1 h1 hr) trivial
        · exact xP (a7 hc hd hlt hw1 h1 h2 hr) trivial
      | some d =>
        obtain⟨d9,_,hcd⟩:=kE hdc
        rw[hdc]at hnx
        have h1:decide ((c.toNat:Int)<48)=false:=aL
        have h2:decide ((57:Int)<(c.toNat:Int))=false:=aL
        have hw3:IntKind.i64.wrap (10*(m:Int))=10*(m:Int):=aX
        have hw5:IntKind.i64.wrap (10*(m:Int)+(c.toNat:Int))=10*(m:Int)+(c.toNat:Int):=aX
        have hw4:IntKind.i64.wrap (10*(m:Int)+(c.toNat:Int)-48)=((10*m+d:Nat):Int):=by rw[aX];omega
        (refine xR (a9 hc hd hlt hw1 hw3 hw4 hw5 h1 h2) trivial ?_)
        all_goals ((have zF:=a2 hwk hw4;refine c7 ((k+1,10*m+d)) [] ?_ ?_))
        all_goals (first|(show s.length-(k+1)<s.length-k;omega)|exact⟨hlt,hnx⟩ )
    · have hke:k=s.length:=Y6
      subst hke
      rw[WJ]at hv
      have hr:=z5 hv
      have hd:decide (s.length<s.length)=false:=aL
      exact xP (a2 hd hr) trivial
def DF (s:ZA)(hs:s.length<=aN)(nm:Nat):Ev cx 192 nm [.str s] ah.nil (zD s) []:=by
 by_cases h0:s=[]
 ·have hr:=ec (s:=s) (by unfold jA;rw[if_pos (.inl h0)])
  subst h0
  have hd:decide ((0:Int)<1)=true:=rfl
  refine aG call192 func192 results192 ntmps192 ?_;intro b0 hb0 zN
  exact xP (a2 hr hd) trivial
 have hlp:0<s.length:=Wl.2 h0
 have hd:decide ((s.length:Int)<1)=false:=aL
 by_cases h16:16<s.length
 ·have hr:=ec (s:=s) (by unfold jA;rw[if_pos (.inr (.inl h16))])
  have hd2:decide ((16:Int)<(s.length:Int))=true:=bz
  refine aG call192 func192 results192 ntmps192 ?_;intro b0 hb0 zN
  exact xP (a3 hr hd hd2) trivial
 have hd2:decide ((16:Int)<(s.length:Int))=false:=aL
 have hv:=Ga s Y6
 cases hdv:iJ 0 s with
 | none =>
  have hr:=ec (s:=s) (by unfold jA;split<;>simp[hdv])
  rw[zZ hdv]at hv
  refine aG call192 func192 results192 ntmps192 ?_;intro b0 hb0 zN
  (have zF:=a3 hr hd hd2;have cF:=hv;repeat' first|refine wS ?_|exact wE | apply Fin.pure)
 | some n =>
  rw[z5 hdv]at hv
  have hnb:=(qY _ _ _ hdv).2
  have hp16:(10:Nat) ^ s.length<=10 ^ 16:=XZ Y6 Y6
  have hn16:n<10000000000000000:=by simp only[We,X2]at hnb;exact Wi hnb hp16
  have hd3:decide ((n:Int)<0)=false:=aL
  have hdg:=kY n (by have:(10:Nat) ^ 17=100000000000000000:=rfl;omega)
  by_cases hmx:n<=9007199254740991
  ·have hd4:decide ((9007199254740991:Int)<(n:Int))=false:=aL
   by_cases he:eh n=s
   ·have hs2:=(qe _ s n (IS _) h0 hdv).1 he
    have hr:=kZ (s:=s) (n:=n) (by
     unfold jA
     rw[if_neg,hdv]
     ·simp[hmx]
     ·rintro (h|h|⟨h,h'⟩)
      ·exact h0 h
      ·exact h16 h
      ·rcases hs2 with h3|h3
       ·exact h3 h
       ·exact h' h3)
    rw[he]at hdg
    have hq:(s != s)=false:=by simp
    have hq':(!(s==s))=false:=by simp
    refine aG call192 func192 results192 ntmps192 ?_;intro b0 hb0 zN
    exact xP (a7 hr hd hd2 hd3 hd4 hq hq') (a2 hv hdg)
   ·have hr:=ec (s:=s) (by
     unfold jA
     rw[if_pos]
     refine .inr (.inr ?_)
     have:=mt (qe _ s n (IS _) h0 hdv).2 he
     simp only[not_or,ne_eq,X6]at this
     exact this)
    have hq':(!(eh n==s))=true:=by rw[If he];rfl
    refine aG call192 func192 results192 ntmps192 ?_;intro b0 hb0 zN
    exact xP (a6 hr hd hd2 hd3 hd4 hq') (a2 hv hdg)
  ·have hd4:decide ((9007199254740991:Int)<(n:Int))=true:=bz
   have hr:=ec (s:=s) (by unfold jA;split<;>simp[hdv,hmx])
   refine aG call192 func192 results192 ntmps192 ?_;intro b0 hb0 zN
   (have zF:=a5 hr hd hd2 hd3 hd4;have cF:=hv;repeat' first|refine wS ?_|exact wE | apply Fin.pure)
def k9 (p:UInt8->Bool)(s:ZA)(at' e:Nat):Prop:=at'<=e/\e<=s.length /\ ∀ c∈(s.drop at').take (e-at'),p c=true
def mJ (p:UInt8->Bool){s:ZA}{at':Nat}(h:at'<=s.length):k9 p s at' at':=⟨IS _,h,by simp⟩
def mH {p:UInt8->Bool}{s:ZA}{at' e:Nat}{c:UInt8}(h:k9 p s at' e)(hc:s[e]? = some c)(hp:p c=true):k9 p s at' (e+1):=by
 obtain⟨h1,h2,h3⟩:=h
 have hlt:=(AS.1 hc).1
 refine⟨by omega,hlt,?_⟩
 have hd:(s.drop at')[e-at']? = some c:=by rw[Wr,YI h1];exact hc
 obtain⟨hk,hcc⟩:=AS.1 hd
 rw[show e+1-at'=(e-at')+1 by omega,WF hk]
 intro x hx
 rcases Wf.1 hx with hx|hx
 ·exact h3 x hx
 ·rw[WW]at hx;rw[hx,hcc];exact hp
def nF {p:UInt8->Bool} : ∀ {s:ZA} {x:Nat},(∀ c∈s.take x,p c=true)->(∀ c,s[x]? = some c->p c=false)->s.takeWhile p=s.take x/\s.dropWhile p=s.drop x
 | [],x,_,_=>by simp
 | c::s,0,_,h2=>by
  have:=h2 c rfl
  simp[X1,Xe,this]
 | c::s,x+1,h1,h2=>by
  have hc:=h1 c ZH
  obtain⟨e1,e2⟩:=nF (s:=s) (x:=x) (fun d hd=>h1 d (by simp[hd])) (fun d hd=>h2 d (by simpa using hd))
  simp[X1,Xe,hc,e1,e2]
def wY {p:UInt8->Bool}{s:ZA}{at' e:Nat}(h:k9 p s at' e)(he:∀ c,s[e]? = some c->p c=false):(s.drop at').takeWhile p=(s.drop at').take (e-at')/\(s.drop at').dropWhile p=s.drop e:=by
 obtain⟨h1,h2,h3⟩:=h
 obtain⟨e1,e2⟩:=nF h3 (fun c hc=>he c (by rw[Wr,YI h1]at hc;exact hc))
 refine⟨e1,?_⟩
 rw[e2,List.drop_drop,YI h1]
def sT (c:UInt8)(nm:Nat):Ev cx 161 nm [.int .u8 c.toNat] ah.nil (.bool (cG c)) []:=by
 have q1:((c.toNat:Int)==32)=(c==32):=aW c 32
 have q2:((c.toNat:Int)==9)=(c==9):=aW c 9
 have q3:((c.toNat:Int)==10)=(c==10):=aW c 10
 have q4:((c.toNat:Int)==13)=(c==13):=aW c 13
 unfold cG
 cases h1:(c==32)<;>cases h2:(c==9)<;>cases h3:(c==10)<;>cases h4:(c==13)<;>rw[h1]at q1<;>rw[h2]at q2<;>rw[h3]at q3<;>rw[h4]at q4
 all_goals (
  refine aG call161 func161 results161 ntmps161 ?_;intro b0 hb0 zN
  exact xP (a4 q1 q2 q3 q4) trivial)
def cH (s:ZA):Nat:=s.length-(aT s).length
def yw {s:ZA}{at' e:Nat}(h:k9 cG s at' e)(he:∀ c,s[e]? = some c->cG c=false):cH (s.drop at')=e-at'/\aT (s.drop at')=s.drop e:=by
 have h2:=(wY h he).2
 obtain⟨g1,g2,_⟩:=h
 refine⟨?_,h2⟩
 unfold cH aT
 rw[h2,Wd,Wd];omega
def kX (s:ZA)(at':Nat)(hs:s.length<=1000000)(ha:at'<=s.length)(nm:Nat):Ev cx 115 nm [.str s,.int .i64 at'] ah.nil (.int .i64 (cH (s.drop at'))) []:=by
 refine aG call115 func115 results115 ntmps115 ?_;intro b0 hb0 zN
 (refine xR trivial trivial ?_)
 (have zF:=trivial;refine fu (fun x:Nat=>s.length-at'-x) (fun x=>k9 cG s at' (at'+x)) (b0+16) (fun x=>[(0,.str s),(1,.int .i64 at'),(5,.int .i64 x)]) (fun x=>[]) (0) [] ?_ ?_)
 ·exact mJ _ ha
 ·rintro x h
  have h1:=h.2.1
  have hw:IntKind.i64.wrap ((at':Int)+(x:Int))=((at'+x:Nat):Int):=by rw[aX];omega
  have hwx:=eX x
  have hz:(0:Int)<=((at'+x:Nat):Int):=Y6
  by_cases hx:at'+x<s.length
  ·obtain⟨c,hc⟩:∃ c,s[at'+x]? = some c:=⟨_,AT hx⟩
   have hx':decide (at'+x<s.length)=true:=AI hx
   have hb:=sT c
   cases hp:cG c with
   | true =>
    rw[hp]at hb
    have hn:=mH h hc hp
    (refine xR (a6 hc hx' hx hw hwx hz) hb ?_)
    all_goals ((have zF:=trivial;refine c7 (x+1) [] ?_ ?_))
    all_goals (first|(show s.length-at'-(x+1)<s.length-at'-x;omega)|exact hn|skip)
   | false =>
    rw[hp]at hb
    obtain⟨e1,_⟩:=yw h (fun d hd=>by rw[hc]at hd;cases hd;exact hp)
    have e2:at'+x-at'=x:=Y6
    rw[e1,e2]
    exact xP (a6 hc hx' hx hw hwx hz) hb
  ·have hx':decide (at'+x<s.length)=false:=WA hx
   have hrb:=sT 0
   obtain⟨e1,_⟩:=yw h (fun d hd=>by rw[W0 Y6]at hd;cases hd)
   have e2:at'+x-at'=x:=Y6
   rw[e1,e2]
   (have zF:=a4 hx' hw hz hx;repeat' first|refine wT ?_|exact wU|refine ao (v:=.any) ?_|((first|apply b7|apply cM)<;>intro hb)|refine Ai Y6 ?_|(apply Ai<;>intro hb)|apply Fin.pure|simp only[aB])
def xx (r:ZA):ZA:=if bI (gp r)=true then gp r else []
def OX {c:UInt8}{p1 p6 p7 p8 p9 p10:Bool}(h1:A2 c=p1)(h6:decide ((48:Int)<=c.toNat)=p6)(h7:decide ((c.toNat:Int)<=57)=p7)(h8:decide (c=46)=p8)(h9:decide (c=45)=p9)(h10:decide (c=58)=p10):fm c=(p1||(p6&&p7)||p8||p9||p10):=by
 have e1:((48:Int)<=c.toNat)=(48<=c.toNat):=propext Y6
 have e2:((c.toNat:Int)<=57)=(c.toNat<=57):=propext Y6
 have e3:(c==58)=decide (c=58):=by by_cases h:c=58<;>simp[h]
 unfold fm ja
 rw[h1,<- h6,<- h7,<- h8,<- h9,<- h10,e3]
 simp only[e1,e2,Bf,Wq,YK]
def Ei:∀ p1 p6 p7 p8 p9 p10:Bool,(p1=true)\/(p1=false/\p6=true/\p7=true)\/(p1=false/\p6=true/\p7=false/\p8=true)\/(p1=false/\p6=true/\p7=false/\p8=false/\p9=true)\/(p1=false/\p6=true/\p7=false/\p8=false/\p9=false/\p10=true)\/(p1=false/\p6=true/\p7=false/\p8=false/\p9=false/\p10=false) \/
  (p1=false/\p6=false/\p8=true)\/(p1=false/\p6=false/\p8=false/\p9=true)\/(p1=false/\p6=false/\p8=false/\p9=false/\p10=true)\/(p1=false/\p6=false/\p8=false/\p9=false/\p10=false):=by
 intro p1 p6 p7 p8 p9 p10;cases p1<;>cases p6<;>cases p7<;>cases p8<;>cases p9<;>cases p10<;>simp
def rQ (s:ZA)(at':Nat)(hs:s.length<=1000000)(ha:at'<=s.length)(nm:Nat):Ev cx 114 nm [.str s,.int .i64 at'] ah.nil (.str (xx (s.drop at'))) []:=by
  refine aG call114 func114 results114 ntmps114 ?_;intro b0 hb0 zN
  (refine xR trivial trivial ?_)
  (have zF:=trivial;refine fu (fun e:Nat=>s.length-e) (fun e=>k9 fm s at' e) (b0+16) (fun e=>[(0,.str s),(1,.int .i64 at'),(5,.int .i64 e)]) (fun x=>[]) (at') [] ?_ ?_)
  · exact mJ _ ha
  · rintro e h
    have h0:=h.1
    have h1:=h.2.1
    have hwe:=eX e
    have hz:(0:Int)<=(e:Int):=Y6
    have hz1:(0:Int)<=(at':Int):=Y6
    have hz2:(at':Int)<=(e:Int):=Y6
    have hz3:(e:Int)<=(s.length:Int):=Y6
    have hend:∀(hx:∀ c,s[e]? = some c->fm c=false),(s.drop at').take (e-at')=gp (s.drop at')/\(s.take e).drop at'=gp (s.drop at'):=fun hx=>by
      have:=(wY h hx).1
      refine⟨this.symm,?_⟩
      rw[List.drop_take];exact this.symm
    have hwl:(gp (s.drop at')).length<=aN:=by
      have:=congrArg List.length (xy (s.drop at'))
      rw[List.length_append,Wd]at this
      unfold aN;omega
    have hfe:=oF (gp (s.drop at')) hwl
    by_cases hx:e<s.length
    · obtain⟨c,hc⟩:=js hx
      have hx':=AI hx
      have hl:=wA c
      have q8:((c.toNat:Int)==46)=decide (c=46):=aW c 46
      have q9:((c.toNat:Int)==45)=decide (c=45):=aW c 45
      have q10:((c.toNat:Int)==58)=decide (c=58):=aW c 58
      generalize g1:A2 c=p1 at hl
      generalize g6:decide ((48:Int)<=c.toNat)=p6
      generalize g7:decide ((c.toNat:Int)<=57)=p7
      generalize g8:decide (c=46)=p8 at q8
      generalize g9:decide (c=45)=p9 at q9
      generalize g10:decide (c=58)=p10 at q10
      have hwc:=OX g1 g6 g7 g8 g9 g10
      rcases Ei p1 p6 p7 p8 p9 p10 with rfl|⟨rfl,rfl,rfl⟩|⟨rfl,rfl,rfl,rfl⟩|⟨rfl,rfl,rfl,rfl,rfl⟩|⟨rfl,rfl,rfl,rfl,rfl,rfl⟩|⟨rfl,rfl,rfl,rfl,rfl,rfl⟩|⟨rfl,rfl,rfl⟩|⟨rfl,rfl,rfl,rfl⟩|⟨rfl,rfl,rfl,rfl,rfl⟩|⟨rfl,rfl,rfl,rfl,rfl⟩
      all_goals simp only[Wq,Wy,Wm,W8,XG,XN,XD,Wz]at hwc
      all_goals (first
        | (have hn:=mH h hc hwc
           ((refine xN (a5 hc hx' hx hwe (a9 hz hz1 hz2 hz3 q8 q9 q10 g6 g7)) hl ?_))
           all_goals ((have zF:=trivial;refine c7 (e+1) [] ?_ ?_))
           all_goals (first|(show s.length-(e+1)<s.length-e;omega)|exact hn|skip))
        | (obtain⟨he1,he2⟩:=hend (fun d hd=>by rw[hc]at hd;cases hd;exact hwc)
           unfold xx
           cases hf:bI (gp (s.drop at'))<;>rw[hf]at hfe
           · (exact xP (a8 hc hx' hx hwe hz hz1 hz2 (a9 hz3 q8 q9 q10 g6 g7 he1 he2 hf)) (a2 hl hfe))
           · (exact xP (a8 hc hx' hx hwe hz hz1 hz2 (a9 hz3 q8 q9 q10 g6 g7 he1 he2 hf)) (a2 hl hfe))))
    · have hx':decide (e<s.length)=false:=aL
      obtain⟨he1,he2⟩:=hend (fun d hd=>by rw[W0 Y6]at hd;cases hd)
      unfold xx
      cases hf:bI (gp (s.drop at'))<;>rw[hf]at hfe
      · ((have zF:=a9 hx' hx hz hz1 hz2 hz3 he1 he2 hf;have cF:=hfe;repeat' first|refine wT ?_|exact wU|refine ao (v:=.bool false) ?_|((first|apply b7|apply cM)<;>intro hb)|refine Ai Y6 ?_|(apply Ai<;>intro hb)|apply Fin.pure|simp only[aB]))
      · ((have zF:=a9 hx' hx hz hz1 hz2 hz3 he1 he2 hf;have cF:=hfe;repeat' first|refine wT ?_|exact wU|refine ao (v:=.bool false) ?_|((first|apply b7|apply cM)<;>intro hb)|refine Ai Y6 ?_|(apply Ai<;>intro hb)|apply Fin.pure|simp only[aB]))
def Ts (o:ZC):Int:=match o with|some n=>n|none=>-1
def mg:Ts none = -1:=rfl
def sO (n:Nat):Ts (some n)=n:=rfl
def FA {c:UInt8}{d:Nat}(h:lH c=some d):(48<=c.toNat/\c.toNat<=57/\d=c.toNat-48)\/(97<=c.toNat/\c.toNat<=102/\d=c.toNat-87)\/(65<=c.toNat/\c.toNat<=70/\d=c.toNat-55):=by
 unfold lH at h
 split at h
 ·rename_i h1;cases h;exact .inl ⟨h1.1,h1.2,rfl⟩
 ·split at h
  ·rename_i h1;cases h;exact .inr (.inl ⟨h1.1,h1.2,rfl⟩)
  ·split at h
   ·rename_i h1;cases h;exact .inr (.inr ⟨h1.1,h1.2,rfl⟩)
   ·cases h
def Qy {c:UInt8}(h:lH c=none):¬(48<=c.toNat/\c.toNat<=57) /\ ¬(97<=c.toNat/\c.toNat<=102) /\ ¬(65<=c.toNat/\c.toNat<=70):=by
 unfold lH at h
 split at h
 ·cases h
 ·split at h
  ·cases h
  ·split at h
   ·cases h
   ·exact⟨by assumption,by assumption,by assumption⟩
def Ri (s:ZA)(hs:s.length<=aN)(nm:Nat):Ev cx 191 nm [.str s] ah.nil (.int .i64 (Ts (je s))) []:=by
 by_cases h0:s=[]
 ·have hn:je s=none:=by unfold je;rw[if_pos (.inl h0)]
  rw[hn,mg]
  subst h0
  have hd:decide ((0:Int)<1)=true:=rfl
  refine aG call191 func191 results191 ntmps191 ?_;intro b0 hb0 zN
  exact xP hd trivial
 have hlp:0<s.length:=Wl.2 h0
 have hd:decide ((s.length:Int)<1)=false:=aL
 by_cases h6:6<s.length
 ·have hn:je s=none:=by unfold je;rw[if_pos (.inr (.inl h6))]
  have e1:decide ((6:Int)<(s.length:Int))=true:=bz
  rw[hn,mg]
  refine aG call191 func191 results191 ntmps191 ?_;intro b0 hb0 zN
  exact xP (a2 hd e1) trivial
 have e1:decide ((6:Int)<(s.length:Int))=false:=aL
 obtain⟨c0,hc0⟩:∃ c,s[0]? = some c:=⟨_,AT hlp⟩
 have e2:((c0.toNat:Int)==48)=decide (c0=48):=aW c0 48
 by_cases h48:c0=48
 ·have hn:je s=none:=by unfold je;rw[if_pos (.inr (.inr (by rw[Xc,hc0,h48])))]
  rw[AI h48]at e2
  rw[hn,mg]
  refine aG call191 func191 results191 ntmps191 ?_;intro b0 hb0 zN
  exact xP (a5 hd e1 e2 hc0 hlp) trivial
 rw[WA h48]at e2
 have hL:je s=hU 0 s:=by
  unfold je;rw[if_neg]
  rintro (h|h|h)
  ·exact h0 h
  ·exact h6 h
  ·rw[Xc,hc0]at h;cases h;exact h48 rfl
 rw[hL]
 refine aG call191 func191 results191 ntmps191 ?_;intro b0 hb0 zN
 (refine xR (a5 hd e1 e2 hc0 hlp) trivial ?_)
 (have zF:=show hU 0 []=some 0 from rfl;refine fu (fun x:Nat×Nat=>s.length-x.1) (fun x=>x.1<=s.length/\hU 0 (s.take x.1)=some x.2) (b0+16) (fun x=>[(0,.str s),(3,.int .i64 x.2),(4,.int .i64 x.1)]) (fun x=>[]) ((0,0)) [] ?_ ?_)
 ·exact⟨WB _,rfl⟩
 ·rintro ⟨k,m⟩ ⟨hk,hm⟩
  simp only at hk hm
  have hmb:=rq _ _ _ hm
  have hkl:(s.take k).length=k:=by rw[WK];omega
  rw[hkl]at hmb
  have hp6:(16:Nat) ^ k<=16 ^ 6:=XZ Y6 Y6
  have hm6:m<16777216:=by simp only[We,X2]at hmb;exact Wi hmb hp6
  by_cases hlt:k<s.length
  ·obtain⟨c,hc⟩:=js hlt
   have hdk:=AI hlt
   have hwk:=eX k
   have hcn:c.toNat<256:=c.toNat_lt
   have hw1:IntKind.i64.wrap (c.toNat:Int)=(c.toNat:Int):=aX
   have hw2:IntKind.i64.wrap (16*(m:Int))=16*(m:Int):=aX
   have hw3:IntKind.i64.wrap (16*(m:Int)+(c.toNat:Int))=16*(m:Int)+(c.toNat:Int):=aX
   have hnx:=yS hc
   rw[hm]at hnx
   simp only[Option.bind_some]at hnx
   cases hdc:lH c with
   | none =>
    have hno:hU 0 s=none:=by
     rw[hdc]at hnx
     rw[<- List.take_append_drop (k+1) s];exact sF hnx
    rw[hno,mg]
    obtain⟨n1,n2,n3⟩:=Qy hdc
    have a1:decide ((48:Int)<=(c.toNat:Int))=false\/(decide ((48:Int)<=(c.toNat:Int))=true/\decide ((c.toNat:Int)<=57)=false):=by
     by_cases h:48<=c.toNat
     ·exact .inr ⟨bz,aL⟩
     ·exact .inl (aL)
    have a2:decide ((97:Int)<=(c.toNat:Int))=false\/(decide ((97:Int)<=(c.toNat:Int))=true/\decide ((c.toNat:Int)<=102)=false):=by
     by_cases h:97<=c.toNat
     ·exact .inr ⟨bz,aL⟩
     ·exact .inl (aL)
    have a3:decide ((65:Int)<=(c.toNat:Int))=false\/(decide ((65:Int)<=(c.toNat:Int))=true/\decide ((c.toNat:Int)<=70)=false):=by
     by_cases h:65<=c.toNat
     ·exact .inr ⟨bz,aL⟩
     ·exact .inl (aL)
    rcases a1 with x1|⟨x1,x2⟩<;>rcases a2 with y1|⟨y1,y2⟩<;>rcases a3 with z1|⟨z1,z2⟩
    ·exact xP (a7 hc hdk hlt hw1 x1 y1 z1) trivial
    ·exact xP (a8 hc hdk hlt hw1 x1 y1 z1 z2) trivial
    ·exact xP (a8 hc hdk hlt hw1 x1 y1 y2 z1) trivial
    ·exact xP (a9 hc hdk hlt hw1 x1 y1 y2 z1 z2) trivial
    ·exact xP (a8 hc hdk hlt hw1 x1 x2 y1 z1) trivial
    ·exact xP (a9 hc hdk hlt hw1 x1 x2 y1 z1 z2) trivial
    ·exact xP (a9 hc hdk hlt hw1 x1 x2 y1 y2 z1) trivial
    ·exact xP (a2 hc (a9 hdk hlt hw1 x1 x2 y1 y2 z1 z2)) trivial
   | some d =>
    rw[hdc]at hnx
    have hdl:=AV hdc
    rcases FA hdc with ⟨h1,h2,h3⟩|⟨h1,h2,h3⟩|⟨h1,h2,h3⟩
    ·have x1:decide ((48:Int)<=(c.toNat:Int))=true:=bz
     have x2:decide ((c.toNat:Int)<=57)=true:=bz
     have hw4:IntKind.i64.wrap (16*(m:Int)+(c.toNat:Int)-48)=((16*m+d:Nat):Int):=by rw[aX];omega
     (refine xR (a9 hc hdk hlt hw1 hw2 hw3 hw4 x1 x2) trivial ?_)
     all_goals ((have zF:=hwk;refine c7 ((k+1,16*m+d)) [] ?_ ?_))
     all_goals (first|(show s.length-(k+1)<s.length-k;omega)|exact⟨hlt,hnx⟩ )
    ·have x1:decide ((48:Int)<=(c.toNat:Int))=true:=bz
     have x2:decide ((c.toNat:Int)<=57)=false:=aL
     have y1:decide ((97:Int)<=(c.toNat:Int))=true:=bz
     have y2:decide ((c.toNat:Int)<=102)=true:=bz
     have hw4:IntKind.i64.wrap (16*(m:Int)+(c.toNat:Int)-87)=((16*m+d:Nat):Int):=by rw[aX];omega
     (refine xR (a3 hc hdk (a9 hlt hw1 hw2 hw3 hw4 x1 x2 y1 y2)) trivial ?_)
     all_goals ((have zF:=hwk;refine c7 ((k+1,16*m+d)) [] ?_ ?_))
     all_goals (first|(show s.length-(k+1)<s.length-k;omega)|exact⟨hlt,hnx⟩ )
    ·have x1:decide ((48:Int)<=(c.toNat:Int))=true:=bz
     have x2:decide ((c.toNat:Int)<=57)=false:=aL
     have y1:decide ((97:Int)<=(c.toNat:Int))=false:=aL
     have z1:decide ((65:Int)<=(c.toNat:Int))=true:=bz
     have z2:decide ((c.toNat:Int)<=70)=true:=bz
     have hw4:IntKind.i64.wrap (16*(m:Int)+(c.toNat:Int)-55)=((16*m+d:Nat):Int):=by rw[aX];omega
     (refine xR (a4 hc hdk hlt (a9 hw1 hw2 hw3 hw4 x1 x2 y1 z1 z2)) trivial ?_)
     all_goals ((have zF:=hwk;refine c7 ((k+1,16*m+d)) [] ?_ ?_))
     all_goals (first|(show s.length-(k+1)<s.length-k;omega)|exact⟨hlt,hnx⟩ )
  ·have hke:k=s.length:=Y6
   subst hke
   rw[WJ]at hm
   rw[hm,sO]
   have hdk:decide (s.length<s.length)=false:=aL
   exact xP hdk trivial
def zQ (o:Option ZA):V:=match o with|some x=>.tup [.str x,.bool true]|none=>.tup [.str [],.bool false]
def ck:zQ none = .tup [.str [],.bool false]:=rfl
def cI (x:ZA):zQ (some x) = .tup [.str x,.bool true]:=rfl
def A8 (s:ZA):ZC:=if s.head? = some 120 then je s.tail else jA s
def PX {s:ZA}{n:Nat}(h:jA s=some n):n<=9007199254740991:=by
 unfold jA at h
 split at h
 ·cases h
 ·obtain⟨m,_,h2⟩:=WC.1 h
  split at h2
  ·cases h2;assumption
  ·cases h2
def Qz {s:ZA}{n:Nat}(h:je s=some n):n<=9007199254740991:=by
 unfold je at h
 split at h
 ·cases h
 ·rename_i hh
  have h1:=rq s 0 n h
  have hp6:(16:Nat) ^ s.length<=16 ^ 6:=XZ Y6 (by simp only[not_or]at hh;omega)
  simp only[We,X2]at h1
  have:=Wi h1 hp6
  omega
def Gd (s:ZA)(hs:s.length<=aN)(nm:Nat):Ev cx 163 nm [.str s] ah.nil (zQ (eR (A8 s))) []:=by
 have rest:∀(o:ZC),(∀ n,o=some n->n<=9007199254740991)->A8 s=o->(o=none \/ ∃ n:Nat,o=some n/\n<=9007199254740991/\(hY (n:Int)=true\/hY (n:Int)=false)):=fun o h _=>by
  cases o with
  | none=>exact .inl rfl
  | some n=>exact .inr ⟨n,rfl,h n rfl,by cases hY (n:Int)<;>simp⟩
 by_cases h120:s.head? = some 120
 ·obtain⟨t,rfl⟩:∃ t,s=120::t:=by
   cases s with
   | nil=>cases h120
   | cons c t=>cases h120;exact⟨t,rfl⟩
  have hno:A8 (120::t)=je t:=by unfold A8;rw[if_pos h120];rfl
  have hhx:=Ri t (by simp at hs;unfold aN at *;omega)
  have e0:(!((120::t)==([]:ZA)))=true:=rfl
  have e0':((120::t) !=([]:ZA))=true:=rfl
  have hl0:0<(120::t).length:=by simp
  have hl1:(1:Int)<=((120::t).length:Int):=by simp only[List.length_cons];omega
  have hl2:1<=(120::t).length:=by simp
  simp only[List.length_cons]at hl0 hl1 hl2
  have e1:(((120:UInt8).toNat:Int)==120)=true:=rfl
  rw[hno]
  rcases rest _ (fun n hn=>Qz hn) hno with hL|⟨n,hL,hn,hm|hm⟩
  ·rw[hL,mg]at hhx
   rw[hL,kV,ck]
   have d1:decide ((-1:Int)<0)=true:=rfl
   refine aG call163 func163 results163 ntmps163 ?_;intro b0 hb0 zN
   (repeat' first|simp only[results163,ntmps163,aF,e0,e1,hl0,hl2,List.getElem?_cons_zero,WN,WP,au,aH,seval] | refine ao (v:=.any) ?_|(refine ad ?_ (hhx _) ?_) | apply Fin.pure)
  ·rw[hL,sO]at hhx
   rw[hL,mr hm,cI]
   have d1:decide ((n:Int)<0)=false:=aL
   have hmy:=nh (n:Int)
   rw[hm]at hmy
   refine aG call163 func163 results163 ntmps163 ?_;intro b0 hb0 zN
   (repeat' first|simp only[results163,ntmps163,aF,e0,e1,hl0,hl2,d1,List.getElem?_cons_zero,WN,WP,Bt,au,aH,seval]|(first|(refine ad ?_ (hhx _) ?_)|(refine ai ?_ (fun _=>hmy _) ?_)|(refine ad ?_ (po (n:Int) hm _) ?_))|(refine dV (v:=?_) (bs:=?_) ?_ ?_ ?_ ?_ ?_ ?_ ?_;rotate_left 2;(iterate 2 (focus (simp only[aH];done)));(focus (simp only[au,seval]<;>exact rfl));(focus (exact rfl));(focus (simp only[au];done));(focus (simp only[au]<;>exact rfl))) | apply Fin.pure)
  ·rw[hL,sO]at hhx
   rw[hL,oD hm,ck]
   have d1:decide ((n:Int)<0)=false:=aL
   have hmy:=nh (n:Int)
   rw[hm]at hmy
   refine aG call163 func163 results163 ntmps163 ?_;intro b0 hb0 zN
   (repeat' first|simp only[results163,ntmps163,aF,e0,e1,hl0,hl2,d1,List.getElem?_cons_zero,WN,WP,Bf,au,aH,seval]|(first|refine ad ?_ (hhx _) ?_|refine ai ?_ (fun _=>hmy _) ?_) | apply Fin.pure)
 ·have hno:A8 s=jA s:=by unfold A8;rw[if_neg h120]
  have hrd:=DF s hs
  have hc:(s=[]) \/ ∃ c,s≠[]/\s[0]? = some c/\((c.toNat:Int)==120)=false:=by
   cases s with
   | nil=>exact .inl rfl
   | cons c t =>
    refine .inr ⟨c,by simp,rfl,?_⟩
    refine kg (d:=120) (fun e=>h120 (by rw[e];rfl))
  rw[hno]
  rcases hc with rfl|⟨c,h0,hc0,e1⟩
  ·have hL:jA []=none:=rfl
   rw[ec hL]at hrd
   rw[hL,kV,ck]
   have d1:decide ((-1:Int)<0)=true:=rfl
   have e0:(!(([]:ZA)==([]:ZA)))=false:=rfl
   refine aG call163 func163 results163 ntmps163 ?_;intro b0 hb0 zN
   (have zF:=a2 e0 d1;have cF:=hrd;repeat' first|refine wS ?_|exact wE | apply Fin.pure)
  ·have e0:(!(s==([]:ZA)))=true:=by rw[If h0];rfl
   have hl0:0<s.length:=Wl.2 h0
   rcases rest _ (fun n hn=>PX hn) hno with hL|⟨n,hL,hn,hm|hm⟩
   ·rw[ec hL]at hrd
    rw[hL,kV,ck]
    have d1:decide ((-1:Int)<0)=true:=rfl
    refine aG call163 func163 results163 ntmps163 ?_;intro b0 hb0 zN
    (have zF:=a5 e0 e1 hc0 hl0 d1;have cF:=hrd;repeat' first|refine wS ?_|exact wE | apply Fin.pure)
   ·rw[kZ hL]at hrd
    rw[hL,mr hm,cI]
    have d1:decide ((n:Int)<0)=false:=aL
    have hmy:=nh (n:Int)
    rw[hm]at hmy
    refine aG call163 func163 results163 ntmps163 ?_;intro b0 hb0 zN
    (have zF:=a5 e0 e1 hc0 hl0 d1;have cF:=a3 hrd hmy (po (n:Int) hm);repeat' first|refine wS ?_|exact wE|(refine dV (v:=?_) (bs:=?_) ?_ ?_ ?_ ?_ ?_ ?_ ?_;rotate_left 2;(iterate 2 (focus (exact wD)));(focus (exact wH));(focus (exact rfl));(focus (exact wM));(focus (exact wH))) | apply Fin.pure)
   ·rw[kZ hL]at hrd
    rw[hL,oD hm,ck]
    have d1:decide ((n:Int)<0)=false:=aL
    have hmy:=nh (n:Int)
    rw[hm]at hmy
    refine aG call163 func163 results163 ntmps163 ?_;intro b0 hb0 zN
    exact xP (a5 e0 e1 hc0 hl0 d1) (a2 hrd hmy)
def Dn {s:ZA}(h1:s≠[97,109,112])(h2:s≠[108,116])(h3:s≠[103,116])(h4:s≠[113,117,111,116])(h5:s≠[97,112,111,115]):cA s=if s.head? = some 35 then eR (A8 s.tail) else none:=by
 unfold cA A8
 rw[if_neg h1,if_neg h2,if_neg h3,if_neg h4,if_neg h5]
 split
 ·split<;>rfl
 ·rfl
def JS (s:ZA)(hs:s.length<=aN)(nm:Nat):Ev cx 118 nm [.str s] ah.nil (zQ (cA s)) []:=by
 by_cases h1:s=[97,109,112]
 ·subst h1
  have e1:(([97,109,112]:ZA)==[97,109,112])=true:=rfl
  rw[ze,cI]
  refine aG call118 func118 results118 ntmps118 ?_;intro b0 hb0 zN
  exact xP e1 trivial
 have e1:(s==[97,109,112])=false:=If h1
 by_cases h2:s=[108,116]
 ·subst h2
  have e2:(([108,116]:ZA)==[108,116])=true:=rfl
  rw[Dm,cI]
  refine aG call118 func118 results118 ntmps118 ?_;intro b0 hb0 zN
  exact xP (a2 e1 e2) trivial
 have e2:(s==[108,116])=false:=If h2
 by_cases h3:s=[103,116]
 ·subst h3
  have e3:(([103,116]:ZA)==[103,116])=true:=rfl
  rw[Dl,cI]
  refine aG call118 func118 results118 ntmps118 ?_;intro b0 hb0 zN
  exact xP (a3 e1 e2 e3) trivial
 have e3:(s==[103,116])=false:=If h3
 by_cases h4:s=[113,117,111,116]
 ·subst h4
  have e4:(([113,117,111,116]:ZA)==[113,117,111,116])=true:=rfl
  rw[we,cI]
  refine aG call118 func118 results118 ntmps118 ?_;intro b0 hb0 zN
  exact xP (a4 e1 e2 e3 e4) trivial
 have e4:(s==[113,117,111,116])=false:=If h4
 by_cases h5:s=[97,112,111,115]
 ·subst h5
  have e5:(([97,112,111,115]:ZA)==[97,112,111,115])=true:=rfl
  rw[show cA [97,112,111,115]=some [39] by decide,cI]
  refine aG call118 func118 results118 ntmps118 ?_;intro b0 hb0 zN
  exact xP (a5 e1 e2 e3 e4 e5) trivial
 have e5:(s==[97,112,111,115])=false:=If h5
 rw[Dn h1 h2 h3 h4 h5]
 cases s with
 | nil =>
  have e0:(([]:ZA)==[])=true:=rfl
  rw[if_neg ZH,ck]
  refine aG call118 func118 results118 ntmps118 ?_;intro b0 hb0 zN
  exact xP (a6 e0 e1 e2 e3 e4 e5) trivial
 | cons c t =>
  have e0:((c::t)==([]:ZA))=false:=rfl
  have hl0:0<(c::t).length:=by simp
  have hl1:(1:Int)<=((c::t).length:Int):=by simp only[List.length_cons];omega
  have hl2:1<=(c::t).length:=by simp
  simp only[List.length_cons]at hl0 hl1 hl2
  by_cases h35:c=35
  ·subst h35
   have q35:(!(((35:UInt8).toNat:Int)==35))=false:=rfl
   have q35':(((35:UInt8).toNat:Int) != 35)=false:=rfl
   have hnum:=Gd t (by simp at hs;unfold aN at *;omega)
   rw[if_pos (by rfl),List.tail_cons]
   cases hp:eR (A8 t) with
   | none =>
    rw[hp]at hnum
    rw[ck]at hnum ⊢
    refine aG call118 func118 results118 ntmps118 ?_;intro b0 hb0 zN
    (repeat' first|simp only[results118,ntmps118,aF,e0,e1,e2,e3,e4,e5,q35',hl0,hl2,List.getElem?_cons_zero,WN,WP,au,aH,seval]|(refine ad ?_ (hnum _) ?_) | apply Fin.pure)
   | some x =>
    rw[hp]at hnum
    rw[cI]at hnum ⊢
    refine aG call118 func118 results118 ntmps118 ?_;intro b0 hb0 zN
    (repeat' first|simp only[results118,ntmps118,aF,e0,e1,e2,e3,e4,e5,q35',hl0,hl2,List.getElem?_cons_zero,WN,WP,au,aH,seval]|(refine ad ?_ (hnum _) ?_) | apply Fin.pure)
  ·have q35:((c.toNat:Int)==35)=false:=kg (d:=35) h35
   have q35':((c.toNat:Int) != 35)=true:=by unfold bne;rw[q35];rfl
   rw[if_neg (by simpa using h35),ck]
   refine aG call118 func118 results118 ntmps118 ?_;intro b0 hb0 zN
   (repeat' first|simp only[results118,ntmps118,aF,e0,e1,e2,e3,e4,e5,q35',hl0,List.getElem?_cons_zero,au,aH,seval] | apply Fin.pure)
def Dt {d:UInt8}{s:ZA}{k:Nat}{c:UInt8}(h:d ∉ s.take k)(hc:s[k]? = some c)(hne:c≠d):d ∉ s.take (k+1):=by
 obtain⟨hk,rfl⟩:=AS.1 hc
 rw[WF hk]
 simp only[Wf,WW,not_or]
 exact⟨h,fun e=>hne e.symm⟩
structure QSt where
 i:Nat
 out:ZA
def QSt.inv (s:ZA)(x:QSt):Prop:=x.i<=s.length/\bp s=(bp (s.drop x.i)).map (x.out ++ ·)/\x.out.length<=4*x.i
def DI (s:ZA)(hs:s.length<=1000000)(nm:Nat):Ev cx 61 nm [.str s] ah.nil (zQ (bp s)) []:=by
  refine aG call61 func61 results61 ntmps61 ?_;intro b0 hb0 zN
  (refine xR trivial trivial ?_)
  (have zF:=a3 @cg @aP @aI;refine fu (fun x:QSt=>s.length-x.i) (fun x=>x.inv s) (b0+16) (fun x=>[(0,.str s),(4,.own b0 0 x.out.length),(5,.int .i64 x.i)]) (fun x=>[(b0,@Blk.mk 1 (x.out.map av) (.typed 5))]) (QSt.mk 0 []) [none] ?_ ?_)
  · refine⟨WB _,?_,WB _⟩
    show bp s=(bp (s.drop 0)).map ([] ++ ·)
    rw[WP];cases bp s<;>rfl
  · rintro ⟨i,out⟩ ⟨h1,h2,h3⟩
    simp only at h1 h2 h3
    by_cases hlt:i<s.length
    · obtain ⟨c,hc⟩:∃ c,s[i]? = some c:=⟨_,AT hlt⟩
      have hdc:s.drop i=c::s.drop (i+1):=by
        obtain⟨hk,rfl⟩:=AS.1 hc
        exact W1 hk
      have hd:=AI hlt
      have hwk:=eX i
      have q60:((c.toNat:Int)==60)=decide (c=60):=aW c 60
      have q38:((c.toNat:Int)==38)=decide (c=38):=aW c 38
      rw[hdc]at h2
      by_cases c60:c=60
      · rw[AI c60]at q60
        have hr:bp s=none:=by rw[h2,c60,oH];rfl
        rw[hr,ck]
        exact xP (a4 hc hd hlt q60) trivial
      rw[WA c60]at q60
      by_cases c38:c=38
      · rw [AI c38]at q38
        have q38':((c.toNat:Int) != 38)=false:=by unfold bne;rw[q38];rfl
        rw[c38]at h2
        (refine xN (a6 hc hd hlt q60 q38 q38') trivial ?_)
        (have zF:=a3 @cg @aP @aI;refine fu (fun x:Nat=>s.length-x) (fun x=>i<=x/\x<=s.length/\(59:UInt8) ∉ (s.drop i).take (x-i)) (b0+16) (fun x=>[(0,.str s),(4,.own b0 0 out.length),(5,.int .i64 i),(6,.int .i64 x)]) (fun x=>[(b0,@Blk.mk 1 (out.map av) (.typed 5))]) (i) [some b0] ?_ ?_)
        · exact⟨IS _,h1,by simp⟩
        · rintro e ⟨e1,e2,e3⟩
          by_cases hlte:e<s.length
          · obtain⟨d,hdd⟩:=js hlte
            have hde:=AI hlte
            have hwe:=eX e
            have q59:((d.toNat:Int)==59)=decide (d=59):=aW d 59
            have hdg:(s.drop i)[e-i]? = some d:=by rw[Wr,show i+(e-i)=e by omega];exact hdd
            by_cases c59:d=59
            · rw [AI c59]at q59
              have q59':((d.toNat:Int) != 59)=false:=by unfold bne;rw[q59];rfl
              have hei:i<e:=by
                rcases YE i e with h|h
                · exact h
                · have:i=e:=Y6
                  subst this
                  rw[hc]at hdd;cases hdd
                  rw[c38]at c59;cases c59
              have hcut:df 59 (s.drop (i+1))=some ((s.drop (i+1)).take (e-(i+1)),s.drop (e+1)):=by
                have g1:(59:UInt8) ∉ (s.drop (i+1)).take (e-(i+1)):=by
                  rw[hdc,show e-i=e-(i+1)+1 by omega,List.take_succ_cons]at e3
                  exact fun h=>e3 (Xj _ h)
                have g2:(s.drop (i+1))[e-(i+1)]? = some 59:=by rw[Wr,show i+1+(e-(i+1))=e by omega,hdd,c59]
                have:=ut g1 g2
                rw[List.drop_drop,show i+1+(e-(i+1)+1)=e+1 by omega]at this
                exact this
              have hen:((e:Int)==(s.length:Int))=false:=If Y6
              have hi1:((i+1:Nat):Int)<=(e:Int):=Y6
              have hi2:(e:Int)<=(s.length:Int):=Y6
              have hi3:i+1<=e:=Y6
              have hi4:e<=s.length:=Y6
              generalize ha:(s.drop (i+1)).take (e-(i+1))=a at hcut
              have ha2:(s.take e).drop (i+1)=a:=by rw[<- ha,List.drop_take]
              have hal:a.length<=1000000:=by
                have:=congrArg List.length ha
                simp at this;omega
              have hmt:=JS a (by unfold aN;omega)
              have hwk2:=eX e
              have hde:=AI hlte
              cases hm:cA a with
              | none =>
                rw[hm,ck]at hmt
                have hr:bp s=none:=by rw[h2,mu hcut hm];rfl
                rw[hr,ck]
                exact xP (a5 hdd hde hlte hwk (a9 q59 q59' hen hi1 hi2 hi3 hi4 ha ha2)) hmt
              | some x =>
                rw[hm,cI]at hmt
                have hxl:=rD hm
                have hr:bp s=(bp (s.drop (e+1))).map ((out++x) ++ ·):=by rw[h2,mz hcut hm,Hu]
                have hmp:out.map av++x.map av=(out++x).map av:=by rw[WM]
                (refine xR (a3 hdd hde (a9 hlte hwk hwk2 q59 q59' hen hi1 hi2 (a9 hi3 hi4 ha ha2 hmp @Eo @cJ @gT @List.take_of_length_le.{0}))) hmt ?_)
                all_goals ((have zF:=a7 @cg @aP @aI hwk2 @Eo @cJ @List.length_append.{0};refine c7 (QSt.mk (e+1) (out++x)) [some (b0+480)] ?_ ?_))
                all_goals (first|(show s.length-(e+1)<s.length-i;omega)|(refine⟨hlte,hr,?_⟩;simp only[List.length_append];omega))
            · rw[WA c59]at q59
              have q59':((d.toNat:Int) != 59)=true:=by unfold bne;rw[q59];rfl
              have hni:=Dt e3 hdg c59
              (refine xN (a6 hdd hde hlte hwe q59 q59') trivial ?_)
              all_goals ((have zF:=a4 @cg @aP @aI hwe;refine c7 (e+1) [some b0] ?_ ?_))
              all_goals (first|(show s.length-(e+1)<s.length-e;omega)|exact⟨by omega,hlte,by rw[show e+1-i=e-i+1 by omega];exact hni⟩ )
          · have hee:e=s.length:=Y6
            subst hee
            have hde:decide (s.length<s.length)=false:=aL
            have hen:((s.length:Int)==(s.length:Int))=true:=by simp
            have hcut:df 59 (s.drop (i+1))=none:=by
              rw[eA]
              intro hin
              refine e3 ?_
              rw[IN ZH,hdc]
              exact Xj _ hin
            have hr:bp s=none:=by rw[h2,k7 hcut];rfl
            rw[hr,ck]
            (have zF:=a2 hde hen;repeat' first|refine wS ?_|exact wE | apply Fin.pure)
      · rw[WA c38]at q38
        have q38':((c.toNat:Int) != 38)=true:=by unfold bne;rw[q38];rfl
        have hr:bp s=(bp (s.drop (i+1))).map ((out++[c]) ++ ·):=by rw[h2,iC c60 c38];cases bp (s.drop (i+1))<;>simp
        have hsn:out.map av++[[V.int .u8 c.toNat]]=(out++[c]).map av:=by rw[WM];rfl
        (refine xR (a4 hc hd hlt (a9 hwk q60 q38 q38' hsn @Eo @cJ @gT @List.take_of_length_le.{0})) trivial ?_)
        all_goals ((have zF:=a7 @cg @aP @aI hwk @Eo @cJ @List.length_append.{0};refine c7 (QSt.mk (i+1) (out++[c])) [some (b0+288)] ?_ ?_))
        all_goals (first|(show s.length-(i+1)<s.length-i;omega)|(refine⟨hlt,hr,?_⟩;simp only[List.length_append,List.length_cons,List.length_nil];omega))
    · have hie:i=s.length:=Y6
      subst hie
      have hd:decide (s.length<s.length)=false:=aL
      rw[XV,mw]at h2
      have hr:bp s=some out:=by rw[h2];simp
      have htk:(out.map av).take out.length=out.map av:=IN ZH
      rw[hr,cI]
      (have zF:=a2 hd htk;repeat' first|refine wS ?_|exact wE|(refine dV (v:=?_) (bs:=out) ?_ ?_ ?_ ?_ ?_ ?_ ?_;rotate_left 1;(iterate 2 (focus (exact wD)));(focus (exact wH));(focus (exact rfl));(focus (exact wM));(focus (exact wH))) | apply Fin.pure)
def Ef {a b:Nat}(h:a+b<=4000000):IntKind.i64.wrap ((a:Int)+(b:Int))=((a+b:Nat):Int):=by rw[aX];omega
def oR {a:Nat}(h:a<=4000000):IntKind.i64.wrap ((a:Int)+1)=((a+1:Nat):Int):=by rw[aX];omega
def R8 {a:Nat}(h:a<=4000000):IntKind.i64.wrap ((a:Int)+2)=((a+2:Nat):Int):=by rw[aX];omega
def fT {s r:ZA}{p:Nat}{c:UInt8}(h:s.drop p=c::r):s[p]? = some c/\p<s.length/\s.drop (p+1)=r/\r.length=s.length-(p+1):=by
 have h1:s[p]? = some c:=by
  have:=congrArg (fun l=>l[0]?) h
  simpa [Wr] using this
 have h2:=(AS.1 h1).1
 have h3:s.drop (p+1)=r:=by
  have:=congrArg (List.drop 1) h
  rwa[List.drop_drop,WN,WP]at this
 refine⟨h1,h2,h3,?_⟩
 rw[<- h3,Wd]
def sd {s:ZA}{p:Nat}(h:s.drop p=[]):s.length<=p:=List.drop_eq_nil_iff.1 h
def lT {s:ZA}{p:Nat}(hp:p<=s.length):s.drop (p+cH (s.drop p))=aT (s.drop p)/\p+cH (s.drop p)<=s.length:=by
 have h1:=dm (s.drop p)
 have h2:(s.drop p).length=s.length-p:=Wd
 have h3:cH (s.drop p)<=s.length-p:=by unfold cH;omega
 refine⟨?_,by omega⟩
 rw[<- List.drop_drop]
 unfold cH aT
 have e:s.drop p=(s.drop p).takeWhile cG++(s.drop p).dropWhile cG:=(Wk).symm
 have hl:=congrArg List.length e
 rw[List.length_append]at hl
 conv=>lhs;arg 2;rw[e]
 rw[List.drop_left' Y6]
def wh {s n r:ZA}{p:Nat}(h:ep (s.drop p)=some (n,r)):xx (s.drop p)=n/\s.drop (p+n.length)=r/\p+n.length<=s.length/\n≠[]:=by
 obtain⟨h1,h2,h3⟩:=sN h
 obtain⟨e,hn,_,_⟩:=e9 h
 refine⟨by unfold xx;rw[h1,if_pos h3],?_,?_,hn⟩
 ·rw[<- List.drop_drop,e,XT]
 ·have:=congrArg List.length e
  rw[Wd,List.length_append]at this
  have:=Wl.2 hn
  omega
def A4 {s:ZA}(h:ep s=none):xx s=[]:=by
 have:=zf h
 unfold xx;rw[this];rfl
def pF (s:ZA)(i:Nat):ZA:=(s.take i).map bO++s.drop i
def F5 {s:ZA}{i:Nat}(h:i<=s.length):(pF s i).length=s.length:=by simp[pF];omega
def Nz {s:ZA}{i:Nat}{c:UInt8}(h:s[i]? = some c):(pF s i)[i]? = some c:=by
 have hlt:=(AS.1 h).1
 unfold pF
 rw[Ye ZK]
 simp only[Lm,WK,Wr]
 rw[show i+(i-min i s.length)=i by omega];exact h
def Du {s:ZA}{i:Nat}{c:UInt8}(h:s[i]? = some c):pF s (i+1)=(pF s i).set i (bO c):=by
 obtain⟨hlt,hc⟩:=AS.1 h
 unfold pF
 rw[WF hlt,hc,WM,List.set_append_right _ _ ZK]
 simp only[Lm,WK,Lc,Lo,WV,List.singleton_append]
 rw[show i-min i s.length=0 by omega,W1 hlt,List.set_cons_zero]
def Rb (s:ZA):pF s s.length=s.map bO:=by simp[pF]
def NA {s:ZA}{i:Nat}{c:UInt8}(h:s[i]? = some c)(hb:cG c=false):pF s (i+1)=pF s i:=by
 have h2:=Nz h
 rw[Du h]
 have:bO c=c:=by unfold bO;rw[hb];rfl
 rw[this]
 obtain⟨hlt,hc⟩:=AS.1 h2
 rw[<- hc,List.set_getElem_self]
def LQ (bs:ZA)(i:Nat)(c:UInt8):(bs.map av).set i (av c)=(bs.set i c).map av:=(Y3).symm
def PS {bs:ZA}{i:Nat}{c:UInt8}(h:bs[i]? = some c):(bs.map av)[i]? = some (av c):=by rw[WG,h];rfl
def vX (t:TypeId)(r:List (List V)):rz (@Blk.mk 1 r (.typed t)) (@Blk.mk 1 r instCells)=True:=by
 refine X0 ⟨rfl,?_,iz r⟩
 exact .inr ⟨rfl,rfl⟩
def DM (s:ZA)(hs:s.length<=1000000)(nm:Nat):Ev cx 162 nm [.str s] ah.nil (zQ (r5 s)) []:=by
 have hread:=DI (s.map bO) ZK
 unfold r5
 generalize bp (s.map bO)=R at hread ⊢
 refine aG call162 func162 results162 ntmps162 ?_;intro b0 hb0 zN
 (have zF:=trivial;repeat' first|refine wS ?_|(refine Aw (bs:=?_) (el:=?_) ?_ ?_ ?_ ?_ ?_;rotate_left 2;(focus (exact wD));(focus (exact wH));(focus (exact wD));(focus (exact wH))))
 (have zF:=a7 @vX @sS @am @cg @aP @aI @pF.eq_1;refine fu (fun x:Nat=>s.length-x) (fun x=>x<=s.length) (b0+16) (fun x=>[(4,.own b0 0 s.length),(5,.int .i64 x)]) (fun x=>[(b0,⟨1,(pF s x).map av⟩)]) (0) [some (b0+48)] ?_ ?_)
 ·exact WB _
 ·intro i hi
  have hol:=F5 hi
  by_cases hlt:i<s.length
  ·obtain⟨c,hc⟩:=js hlt
   have hd:=AI hlt
   have hwk:=oR (a:=i) Y6
   have hrow:=PS (Nz hc)
   have hb:=sT c
   have hi':i<((pF s i).map av).length:=by rw[Lm,hol];exact hlt
   cases hp:cG c with
   | true =>
    rw[hp]at hb
    have hnx:((pF s i).map av).set i [.int .u8 32]=(pF s (i+1)).map av:=by
     have h32:bO c=32:=by unfold bO;rw[hp];rfl
     rw[Du hc,h32,<- LQ];rfl
    (refine xR (a9 hc hd hlt hi' hrow hwk hol hnx @av.eq_1) hb ?_)
    all_goals ((have zF:=a8 @vX @sS @am @cg @aP @aI hwk hnx;refine c7 (i+1) [some b0] ?_ ?_))
    all_goals (first|(show s.length-(i+1)<s.length-i;omega)|(show i+1<=s.length;omega))
   | false =>
    rw[hp]at hb
    have hnx:=NA hc hp
    (refine xR (a8 hc hd hlt hi' hrow hwk hol @av.eq_1) hb ?_)
    all_goals ((have zF:=a8 @vX @sS @am @cg @aP @aI hwk hnx;refine c7 (i+1) [some b0] ?_ ?_))
    all_goals (first|(show s.length-(i+1)<s.length-i;omega)|(show i+1<=s.length;omega))
  ·have hke:i=s.length:=Y6
   subst hke
   have hd:decide (s.length<s.length)=false:=aL
   rw[Rb]
   have htk:((s.map bO).map av).take s.length=(s.map bO).map av:=IN ZH
   cases R with
   | none =>
    rw[ck]at hread ⊢
    (have zF:=a2 hd htk;have cF:=hread;repeat' first|refine wS ?_|exact wE|(refine dV (v:=?_) (bs:=(s.map bO)) ?_ ?_ ?_ ?_ ?_ ?_ ?_;rotate_left 1;(iterate 2 (focus (exact wD)));(focus (exact wH));(focus (exact rfl));(focus (exact wM));(focus (exact wH))) | apply Fin.pure)
   | some x =>
    rw[cI]at hread ⊢
    (have zF:=a2 hd htk;have cF:=hread;repeat' first|refine wS ?_|exact wE|(refine dV (v:=?_) (bs:=(s.map bO)) ?_ ?_ ?_ ?_ ?_ ?_ ?_;rotate_left 1;(iterate 2 (focus (exact wD)));(focus (exact wH));(focus (exact rfl));(focus (exact wM));(focus (exact wH))) | apply Fin.pure)
def DZ (s:ZA):Option (Tk×ZA)->V
 | some (t,r)=>.tup [.agg (aY t),.int .i64 ((s.length-r.length:Nat):Int)]
 | none=>.tup [.agg (aY ⟨0,[],[],[]⟩),.int .i64 (-1)]
def cO (s:ZA):DZ s none = .tup [.agg (aY ⟨0,[],[],[]⟩),.int .i64 (-1)]:=rfl
def fj (s:ZA)(t:Tk)(r:ZA):DZ s (some (t,r)) = .tup [.agg (aY t),.int .i64 ((s.length-r.length:Nat):Int)]:=rfl
def NW (s t:ZA)(at':Nat)(hs:s.length<=1000000)(h:s.drop at'=60::47::t)(nm:Nat):Ev cx 113 nm [.str s,.int .i64 at'] ah.nil (DZ s (j0 (47::t))) []:=by
 obtain⟨_,a1,a2,_⟩:=fT h
 obtain⟨_,a3,a4,_⟩:=fT a2
 have a4:s.drop (at'+2)=t:=a4
 have hwd:=rQ s (at'+2) hs Y6
 rw[a4]at hwd
 have w0:=R8 (a:=at') Y6
 have b4:at'+2<=s.length:=Y6
 generalize hp0:at'+2=p0 at *
 have ht:j0 (47::t)=(ep t).bind fun p=>(bY 62 (aT p.2)).map fun r=>(⟨2,p.1,[],[]⟩,r):=by
  unfold j0;rw[dF,if_pos rfl]
 rw[ht]
 cases h1:ep t with
 | none =>
  rw[Option.bind_none,cO]
  have hw:=A4 h1
  rw[hw]at hwd
  have hbl:=kX s p0 hs Y6
  obtain⟨_,p2⟩:=lT (s:=s) (p:=p0) Y6
  generalize cH (s.drop p0)=k at hbl p2
  have w1:=Ef (a:=p0) (b:=k) Y6
  have w00:IntKind.i64.wrap (p0:Int)=(p0:Int):=aX
  refine aG call113 func113 results113 ntmps113 ?_;intro b0 hb0 zN
  (repeat' first|simp only[results113,ntmps113,aF,w0,w00,w1,aY,Lo,List.length_nil,Y0,au,aH,seval]|(first|refine ad ?_ (hwd _) ?_|refine ad ?_ (hbl _) ?_) | apply Fin.pure)
 | some p =>
  obtain⟨n,r1⟩:=p
  rw[<- a4]at h1
  obtain⟨q1,q2,q3,q4⟩:=wh h1
  rw[a4]at q1
  rw[q1]at hwd
  have w1:=Ef (a:=p0) (b:=n.length) Y6
  generalize hp1:p0+n.length=pn at *
  have hbl:=kX s pn hs Y6
  obtain⟨p1,p2⟩:=lT (s:=s) (p:=pn) Y6
  rw[q2]at hbl p1 p2
  have w2:=Ef (a:=pn) (b:=cH r1) Y6
  have w3:=oR (a:=pn+cH r1) Y6
  have hn0:(n==[])=false:=by simpa using q4
  simp only[Option.bind_some]
  have hz:(0:Int)<=((pn+cH r1:Nat):Int):=Y6
  generalize pn+cH r1=p at p1 p2 w2 w3 hz
  cases hsk:aT r1 with
  | nil =>
   rw[hsk]at p1
   have hl:=sd p1
   have hd:decide (s.length<=p)=true:=AI hl
   have ha:bY 62 []=none:=rfl
   rw[ha,Option.map_none,cO]
   refine aG call113 func113 results113 ntmps113 ?_;intro b0 hb0 zN
   (repeat' first|simp only[results113,ntmps113,aF,w0,w1,w2,hz,hn0,hd,aY,Lo,au,aH,seval]|(first|refine ad ?_ (hwd _) ?_|refine ad ?_ (hbl _) ?_) | apply Fin.pure)
  | cons c r =>
   rw[hsk]at p1
   obtain⟨c1,c2,c3,c4⟩:=fT p1
   have hd:decide (s.length<=p)=false:=aL
   have q62:((c.toNat:Int)==62)=decide (c=62):=aW c 62
   rw[dF]
   by_cases hc:c=62
   ·rw[if_pos hc,Option.map_some,fj]
    rw[AI hc]at q62
    have q62':((c.toNat:Int) != 62)=false:=by unfold bne;rw[q62];rfl
    have hlen:((s.length-r.length:Nat):Int)=((p+1:Nat):Int):=Y6
    rw[hlen]
    refine aG call113 func113 results113 ntmps113 ?_;intro b0 hb0 zN
    (repeat' first|simp only[results113,ntmps113,aF,w0,w1,w2,w3,hz,hn0,hd,c1,c2,q62',aY,Lo,Int.toNat_natCast,au,aH,seval]|(first|refine ad ?_ (hwd _) ?_|refine ad ?_ (hbl _) ?_) | apply Fin.pure)
   ·rw[if_neg hc,Option.map_none,cO]
    rw[WA hc]at q62
    have q62':((c.toNat:Int) != 62)=true:=by unfold bne;rw[q62];rfl
    refine aG call113 func113 results113 ntmps113 ?_;intro b0 hb0 zN
    (repeat' first|simp only[results113,ntmps113,aF,w0,w1,w2,hz,hn0,hd,c1,c2,q62',aY,Lo,Int.toNat_natCast,au,aH,seval]|(first|refine ad ?_ (hwd _) ?_|refine ad ?_ (hbl _) ?_) | apply Fin.pure)
def TF (s:ZA):Option (Pr×ZA)->V
 | some (a,r)=>.tup [.agg (cZ a),.int .i64 ((s.length-r.length:Nat):Int)]
 | none=>.tup [.agg [.str [],.str []],.int .i64 (-1)]
def eD (s:ZA):TF s none = .tup [.agg [.str [],.str []],.int .i64 (-1)]:=rfl
def th (s:ZA)(a:Pr)(r:ZA):TF s (some (a,r)) = .tup [.agg (cZ a),.int .i64 ((s.length-r.length:Nat):Int)]:=rfl
def uk (q c:UInt8):Bool:=c != q
def Ch {s:ZA}{p e:Nat}{q:UInt8}(h:k9 (uk q) s p e):(s[e]? = some q->df q (s.drop p)=some ((s.drop p).take (e-p),s.drop (e+1)))/\(e=s.length->df q (s.drop p)=none):=by
 obtain⟨h1,h2,h3⟩:=h
 have hn:q ∉ (s.drop p).take (e-p):=fun hm=>by
  have:=h3 q hm
  simp[uk]at this
 constructor
 ·intro he
  have hd:(s.drop p)[e-p]? = some q:=by rw[Wr,YI h1];exact he
  rw[ut hn hd,List.drop_drop]
  congr 3
  omega
 ·intro he
  rw[eA]
  have:(s.drop p).take (e-p)=s.drop p:=IN (by rw[Wd];omega)
  rwa[this]at hn
def JN (s:ZA)(at':Nat)(hs:s.length<=1000000)(ha:at'<=s.length)(nm:Nat):Ev cx 116 nm [.str s,.int .i64 at'] ah.nil (TF s (fY (s.drop at'))) []:=by
  have hwd:=rQ s at' hs ha
  have unf:∀ r,fY r=(ep r).bind fun p=>(bY 61 (aT p.2)).bind fun t=>(gn (aT t)).map fun q=>(⟨p.1,q.1⟩,q.2):=fun _=>rfl
  cases h1:ep (s.drop at') with
  | none =>
    rw[unf,h1,Option.bind_none,eD]
    rw[A4 h1]at hwd
    refine aG call116 func116 results116 ntmps116 ?_;intro b0 hb0 zN
    exact xP trivial hwd
  | some p0 =>
    obtain⟨n,r1⟩:=p0
    obtain⟨q1,q2,q3,q4⟩:=wh h1
    rw[unf,h1]
    simp only[Option.bind_some]
    rw[q1]at hwd
    have w1:=Ef (a:=at') (b:=n.length) Y6
    generalize hp1:at'+n.length=pn at *
    have hbl:=kX s pn hs q3
    obtain⟨p1,p2⟩:=lT (s:=s) (p:=pn) q3
    rw[q2]at hbl p1 p2
    have w2:=Ef (a:=pn) (b:=cH r1) Y6
    have w3:=oR (a:=pn+cH r1) Y6
    have hn0:(n==[])=false:=by simpa using q4
    have hz:(0:Int)<=((pn+cH r1:Nat):Int):=Y6
    generalize pn+cH r1=p at p1 p2 w2 w3 hz
    cases hsk:aT r1 with
    | nil =>
      rw[hsk]at p1
      have hd:decide (s.length<=p)=true:=AI (sd p1)
      have hno:bY 61 []=none:=rfl
      rw[hno,Option.bind_none,eD]
      refine aG call116 func116 results116 ntmps116 ?_;intro b0 hb0 zN
      (have zF:=a6 w1 w2 w3 hz hn0 hd;have cF:=a2 hwd hbl;repeat' first|refine wT ?_|exact wU | apply Fin.pure)
    | cons c t =>
      rw[hsk]at p1
      obtain⟨c1,c2,c3,c4⟩:=fT p1
      have hd:decide (s.length<=p)=false:=aL
      have q61:((c.toNat:Int)==61)=decide (c=61):=aW c 61
      rw[dF]
      by_cases hc:c=61
      · rw [if_pos hc]
        simp only[Option.bind_some]
        rw[AI hc]at q61
        have q61':((c.toNat:Int) != 61)=false:=by unfold bne;rw[q61];rfl
        have c2':p+1<=s.length:=c2
        generalize hp3:p+1=pb at *
        have hbl2:=kX s pb hs c2'
        obtain⟨p3,p4⟩:=lT (s:=s) (p:=pb) c2'
        rw[c3]at hbl2 p3 p4
        have w4:=Ef (a:=pb) (b:=cH t) Y6
        have w5:=oR (a:=pb+cH t) Y6
        have hz2:(0:Int)<=((pb+cH t:Nat):Int):=Y6
        generalize pb+cH t=k at p3 p4 w4 w5 hz2
        cases hsk2:aT t with
        | nil =>
          rw[hsk2]at p3
          have hd2:decide (s.length<=k)=true:=AI (sd p3)
          have hno:gn []=none:=rfl
          rw[hno,Option.map_none,eD]
          refine aG call116 func116 results116 ntmps116 ?_;intro b0 hb0 zN
          (have zF:=a6 w1 w2 w3 w4 w5 (a9 hz hz2 hn0 hd hd2 c1 c2 q61 q61');have cF:=a3 hwd hbl hbl2;repeat' first|refine wT ?_|exact wU | apply Fin.pure)
        | cons q u =>
          rw[hsk2]at p3
          obtain⟨e1,e2,e3,e4⟩:=fT p3
          have hd2:decide (s.length<=k)=false:=aL
          have q34:((q.toNat:Int)==34)=decide (q=34):=aW q 34
          have q39:((q.toNat:Int)==39)=decide (q=39):=aW q 39
          by_cases hq:q=39\/q=34
          · have hq2:(q=34)\/(q≠34/\q=39):=by
              by_cases h:q=34
              · exact .inl h
              · exact .inr ⟨h,hq.resolve_right h⟩
            have hvo:gn (q::u)=(df q u).bind fun p=>(r5 p.1).map fun v=>(v,p.2):=by unfold gn;rw[ng,if_pos hq]
            rw[hvo]
            rcases hq2 with h34|⟨h34,h39⟩
            · have h39:¬ q=39:=by rintro rfl;cases h34
              rw[AI h34]at q34
              rw[WA h39]at q39
              have q34':((q.toNat:Int) != 34)=false:=by unfold bne;rw[q34];rfl
              have q39':((q.toNat:Int) != 39)=true:=by unfold bne;rw[q39];rfl
              refine aG call116 func116 results116 ntmps116 ?_;intro b0 hb0 zN
              (refine xR (a4 w1 w2 w3 (a9 w4 w5 hz hz2 hn0 hd hd2 c1 (a9 c2 e1 e2 q61 q61' q34 q39 q34' q39'))) (a3 hwd hbl hbl2) ?_)
              (have zF:=@am;refine fu (fun x:Nat=>s.length-x) (fun x=>k9 (uk q) s (k+1) x) (b0+16) (fun x=>[(0,.str s),(1,.int .i64 k),(4,.ptr b0 0 0),(6,.str n),(7,.int .i64 x)]) (fun x=>[(b0,⟨2,[[.str [],.str []]]⟩)]) (k+1) [some b0] ?_ ?_)
              · exact mJ _ Y6
              · intro e h
                have g1:=h.1
                have g2:=h.2.1
                have hwe:=oR (a:=e) Y6
                obtain⟨k1,k2⟩:=Ch h
                rw[show s.drop (k+1)=u from e3]at k2
                have k1:=fun h=>(show df q u=some ((s.drop (k+1)).take (e-(k+1)),s.drop (e+1)) from by rw[<- e3];exact k1 h)
                have hz3:(0:Int)<=((k+1:Nat):Int):=Y6
                have hz4:(0:Int)<=(e:Int):=Y6
                have hz5:((k+1:Nat):Int)<=(e:Int):=Y6
                have hz6:(e:Int)<=(s.length:Int):=Y6
                have hz7:(0:Int)<=(k:Int):=Y6
                by_cases hx:e<s.length
                · obtain⟨c',hc'⟩:∃ c,s[e]? = some c:=⟨_,AT hx⟩
                  have hdx:=AI hx
                  have hqq:((c'.toNat:Int) !=(q.toNat:Int))=uk q c':=by
                    unfold uk bne
                    rw[aW c' q]
                    by_cases h:c'=q<;>simp[h]
                  have hee:((e:Int)==(s.length:Int))=false:=by rw[Wb];omega
                  have hee2:(e==s.length)=false:=by rw[Wb];omega
                  cases hnq:uk q c' with
                  | true =>
                    rw[hnq]at hqq
                    have hn:=mH h hc' hnq
                    (refine xN (a9 hc' hdx hx hqq hwe hz4 hz7 e1 e2) trivial ?_)
                    all_goals ((have zF:=@am;refine c7 (e+1) [some b0] ?_ ?_))
                    all_goals (first|(show s.length-(e+1)<s.length-e;omega)|exact hn)
                  | false =>
                    rw[hnq]at hqq
                    have hcq:c'=q:=by simpa [uk] using hnq
                    have hcut:=k1 (by rw[hc',hcq])
                    rw[hcut]
                    simp only[Option.bind_some]
                    have htl:=DM ((s.drop (k+1)).take (e-(k+1))) (by rw[WK,Wd];omega)
                    have hlr:((s.length-(s.drop (e+1)).length:Nat):Int)=((e+1:Nat):Int):=by rw[Wd];omega
                    cases hto:r5 ((s.drop (k+1)).take (e-(k+1))) with
                    | none =>
                      rw[hto,ck]at htl
                      rw[Option.map_none,Option.map_none,eD]
                      (have zF:=a7 hc' hdx hx hqq hwe hee (a9 hee2 w5 hz3 hz4 hz5 hz6 hz7 e1 e2);have cF:=htl;repeat' first|refine wS ?_|exact wE|refine Ai Y6 ?_|apply Fin.pure)
                    | some v =>
                      rw[hto,cI]at htl
                      rw[Option.map_some,Option.map_some,th,hlr]
                      (have zF:=a8 @cZ.eq_1 hc' hdx hx hqq hwe hee (a9 hee2 w5 hz3 hz4 hz5 hz6 hz7 e1 e2);have cF:=htl;repeat' first|refine wS ?_|exact wE|refine Ai Y6 ?_|apply Fin.pure)
                · have hxe:e=s.length:=Y6
                  have hdx:decide (e<s.length)=false:=WA hx
                  have hcut:=k2 hxe
                  have hee:((e:Int)==(s.length:Int))=true:=by rw[hxe];simp
                  have hee2:(e==s.length)=true:=by rw[hxe];simp
                  rw[hcut,Option.bind_none,Option.map_none,eD]
                  (have zF:=a6 hdx hx hee hee2 hz4 hz7;repeat' first|refine wT ?_|exact wU | apply Fin.pure)
            · rw [WA h34]at q34
              rw[AI h39]at q39
              have q34':((q.toNat:Int) != 34)=true:=by unfold bne;rw[q34];rfl
              have q39':((q.toNat:Int) != 39)=false:=by unfold bne;rw[q39];rfl
              refine aG call116 func116 results116 ntmps116 ?_;intro b0 hb0 zN
              (refine xR (a4 w1 w2 w3 (a9 w4 w5 hz hz2 hn0 hd hd2 c1 (a9 c2 e1 e2 q61 q61' q34 q39 q34' q39'))) (a3 hwd hbl hbl2) ?_)
              (have zF:=@am;refine fu (fun x:Nat=>s.length-x) (fun x=>k9 (uk q) s (k+1) x) (b0+16) (fun x=>[(0,.str s),(1,.int .i64 k),(4,.ptr b0 0 0),(6,.str n),(7,.int .i64 x)]) (fun x=>[(b0,⟨2,[[.str [],.str []]]⟩)]) (k+1) [some b0] ?_ ?_)
              · exact mJ _ Y6
              · intro e h
                have g1:=h.1
                have g2:=h.2.1
                have hwe:=oR (a:=e) Y6
                obtain⟨k1,k2⟩:=Ch h
                rw[show s.drop (k+1)=u from e3]at k2
                have k1:=fun h=>(show df q u=some ((s.drop (k+1)).take (e-(k+1)),s.drop (e+1)) from by rw[<- e3];exact k1 h)
                have hz3:(0:Int)<=((k+1:Nat):Int):=Y6
                have hz4:(0:Int)<=(e:Int):=Y6
                have hz5:((k+1:Nat):Int)<=(e:Int):=Y6
                have hz6:(e:Int)<=(s.length:Int):=Y6
                have hz7:(0:Int)<=(k:Int):=Y6
                by_cases hx:e<s.length
                · obtain⟨c',hc'⟩:∃ c,s[e]? = some c:=⟨_,AT hx⟩
                  have hdx:=AI hx
                  have hqq:((c'.toNat:Int) !=(q.toNat:Int))=uk q c':=by
                    unfold uk bne
                    rw[aW c' q]
                    by_cases h:c'=q<;>simp[h]
                  have hee:((e:Int)==(s.length:Int))=false:=by rw[Wb];omega
                  have hee2:(e==s.length)=false:=by rw[Wb];omega
                  cases hnq:uk q c' with
                  | true =>
                    rw[hnq]at hqq
                    have hn:=mH h hc' hnq
                    (refine xN (a9 hc' hdx hx hqq hwe hz4 hz7 e1 e2) trivial ?_)
                    all_goals ((have zF:=@am;refine c7 (e+1) [some b0] ?_ ?_))
                    all_goals (first|(show s.length-(e+1)<s.length-e;omega)|exact hn)
                  | false =>
                    rw[hnq]at hqq
                    have hcq:c'=q:=by simpa [uk] using hnq
                    have hcut:=k1 (by rw[hc',hcq])
                    rw[hcut]
                    simp only[Option.bind_some]
                    have htl:=DM ((s.drop (k+1)).take (e-(k+1))) (by rw[WK,Wd];omega)
                    have hlr:((s.length-(s.drop (e+1)).length:Nat):Int)=((e+1:Nat):Int):=by rw[Wd];omega
                    cases hto:r5 ((s.drop (k+1)).take (e-(k+1))) with
                    | none =>
                      rw[hto,ck]at htl
                      rw[Option.map_none,Option.map_none,eD]
                      (have zF:=a7 hc' hdx hx hqq hwe hee (a9 hee2 w5 hz3 hz4 hz5 hz6 hz7 e1 e2);have cF:=htl;repeat' first|refine wS ?_|exact wE|refine Ai Y6 ?_|apply Fin.pure)
                    | some v =>
                      rw[hto,cI]at htl
                      rw[Option.map_some,Option.map_some,th,hlr]
                      (have zF:=a8 @cZ.eq_1 hc' hdx hx hqq hwe hee (a9 hee2 w5 hz3 hz4 hz5 hz6 hz7 e1 e2);have cF:=htl;repeat' first|refine wS ?_|exact wE|refine Ai Y6 ?_|apply Fin.pure)
                · have hxe:e=s.length:=Y6
                  have hdx:decide (e<s.length)=false:=WA hx
                  have hcut:=k2 hxe
                  have hee:((e:Int)==(s.length:Int))=true:=by rw[hxe];simp
                  have hee2:(e==s.length)=true:=by rw[hxe];simp
                  rw[hcut,Option.bind_none,Option.map_none,eD]
                  (have zF:=a6 hdx hx hee hee2 hz4 hz7;repeat' first|refine wT ?_|exact wU | apply Fin.pure)
          · have hno:gn (q::u)=none:=by unfold gn;rw[ng,if_neg hq];rfl
            rw[hno,Option.map_none,eD]
            rw[WA (fun h=>hq (.inr h))]at q34
            rw[WA (fun h=>hq (.inl h))]at q39
            have q34':((q.toNat:Int) != 34)=true:=by unfold bne;rw[q34];rfl
            have q39':((q.toNat:Int) != 39)=true:=by unfold bne;rw[q39];rfl
            refine aG call116 func116 results116 ntmps116 ?_;intro b0 hb0 zN
            (have zF:=a4 w1 w2 w3 (a9 w4 w5 hz hz2 hn0 hd hd2 c1 (a9 c2 e1 e2 q61 q61' q34 q39 q34' q39'));have cF:=a3 hwd hbl hbl2;repeat' first|refine wT ?_|exact wU | apply Fin.pure)
      · rw[if_neg hc,Option.bind_none,eD]
        rw[WA hc]at q61
        have q61':((c.toNat:Int) != 61)=true:=by unfold bne;rw[q61];rfl
        refine aG call116 func116 results116 ntmps116 ?_;intro b0 hb0 zN
        (have zF:=a2 w1 (a9 w2 w3 hz hn0 hd c1 c2 q61 q61');have cF:=a2 hwd hbl;repeat' first|refine wT ?_|exact wU | apply Fin.pure)
end Go.Proofs.YtgboofebldgdjaaGreatDoor
