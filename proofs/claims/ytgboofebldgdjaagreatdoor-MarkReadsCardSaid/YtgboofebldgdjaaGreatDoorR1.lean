/-
 Texts joined: XTa,XTb,XTc,XCe,XOa,XOb,XOc,XOd,XOe,XOf,XOi,XOg,XOj,XOh,XOk,XOl,XOm.
-/
import Derived.Test.YtgboofebldgdjaaGreatDoorQr
set_option linter.all false
namespace Go.Proofs.YtgboofebldgdjaaGreatDoor
set_option maxRecDepth 100000
set_option maxHeartbeats 32000000
open Go Go.RowKit Vm Go.Lib Tryz
def jm:ZA:=[104,116,116,112,58,47,47,119,119,119,46,119,51,46,111,114,103,47,88,77,76,47,49,57,57,56,47,110,97,109,101,115,112,97,99,101]
def lO:ZA:=[104,116,116,112,58,47,47,119,119,119,46,119,51,46,111,114,103,47,50,48,48,48,47,120,109,108,110,115,47]
def dY (s:ZA):Bool:=(s==jm)||(s==lO)
def rl (s:ZA)(nm:Nat):Ev cx 71 nm [.str s] ah.nil (.bool (dY s)) []:=by
 unfold dY jm lO
 refine aG call71 func71 results71 ntmps71 ?_;intro b0 hb0 zN
 exact xP trivial trivial
def Dk (p v:ZA):Bool:=if (p==[120,109,108,110,115])=true then false else if (p==[120,109,108])=true then v==jm else !dY v&&((p==[])||(v != []))
def QO (p v:ZA)(nm:Nat):Ev cx 57 nm [.str p,.str v] ah.nil (.bool (Dk p v)) []:=by
 have hg:=rl v
 have hx:(v==jm)=(v==[104,116,116,112,58,47,47,119,119,119,46,119,51,46,111,114,103,47,88,77,76,47,49,57,57,56,47,110,97,109,101,115,112,97,99,101]):=rfl
 unfold Dk
 rw[hx]
 cases h1:(p==[120,109,108,110,115]) with
 | true =>
  refine aG call57 func57 results57 ntmps57 ?_;intro b0 hb0 zN
  exact xP h1 hg
 | false =>
  cases h2:(p==[120,109,108]) with
  | true =>
   refine aG call57 func57 results57 ntmps57 ?_;intro b0 hb0 zN
   exact xP (a2 h1 h2) hg
  | false =>
   cases h3:dY v with
   | true =>
    rw[h3]at hg
    refine aG call57 func57 results57 ntmps57 ?_;intro b0 hb0 zN
    exact xP (a2 h1 h2) hg
   | false =>
    rw[h3]at hg
    refine aG call57 func57 results57 ntmps57 ?_;intro b0 hb0 zN
    exact xP (a2 h1 h2) hg
def dK (s:ZA):ZA×ZA:=match df 58 s with
 | none=>([],s)
 | some (a,b)=>(a,b)
def DV (s:ZA)(hs:s.length<=aN)(nm:Nat):Ev cx 109 nm [.str s] ah.nil (.tup [.str (dK s).1,.str (dK s).2]) []:=by
 have hc:=qb s 58 hs
 unfold jc at hc
 unfold dK
 cases h:df 58 s with
 | none =>
  rw[h]at hc
  refine aG call109 func109 results109 ntmps109 ?_;intro b0 hb0 zN
  exact xP trivial hc
 | some p =>
  obtain⟨a,b⟩:=p
  rw[h]at hc
  refine aG call109 func109 results109 ntmps109 ?_;intro b0 hb0 zN
  exact xP trivial hc
def G3 (s:ZA):V:=if (s==[120,109,108,110,115])=true then .tup [.str [],.bool true] else Bh s [120,109,108,110,115,58]
def tC (a:At)(hs:a.name.length<=aN)(nm:Nat):Ev cx 56 nm [.agg (bi a)] ah.nil (G3 a.name) []:=by
 have hc:=oX a.name [120,109,108,110,115,58] hs ZI
 unfold G3
 cases h:(a.name==[120,109,108,110,115]) with
 | true =>
  refine aG call56 func56 results56 ntmps56 ?_;intro b0 hb0 zN
  exact xP (a2 @bi.eq_1 h) trivial
 | false =>
  unfold Bh at hc ⊢
  cases hb:preB a.name [120,109,108,110,115,58] with
  | true =>
   rw[hb]at hc
   refine aG call56 func56 results56 ntmps56 ?_;intro b0 hb0 zN
   exact xP (a2 @bi.eq_1 h) hc
  | false =>
   rw[hb]at hc
   refine aG call56 func56 results56 ntmps56 ?_;intro b0 hb0 zN
   exact xP (a2 @bi.eq_1 h) hc
def u7 (a:At):Bool:=(!eV a.name||((a.space==[])&&(a.name==[120,109,108,110,115])))||(a.space==lO)
def PU (a:At)(h1:a.name.length<=aN)(nm:Nat):Ev cx 126 nm [.agg (bi a)] ah.nil (.bool (u7 a)) []:=by
 have hn:=rG a.name h1
 unfold u7 lO
 cases h:eV a.name with
 | true =>
  rw[h]at hn
  cases h2:(a.space==[]) with
  | true =>
   refine aG call126 func126 results126 ntmps126 ?_;intro b0 hb0 zN
   exact xP (a2 @bi.eq_1 h2) hn
  | false =>
   refine aG call126 func126 results126 ntmps126 ?_;intro b0 hb0 zN
   exact xP (a2 @bi.eq_1 h2) hn
 | false =>
  rw[h]at hn
  refine aG call126 func126 results126 ntmps126 ?_;intro b0 hb0 zN
  exact xP @bi.eq_1 hn
def ny (n:Nd):Bool:=((decide (n.kind=1) && !eV n.name)||dY n.space)||n.attrs.any u7
def zM (a:At):Bool:=a.space != []
def Ru (a:At)(nm:Nat):Ev cx 106 nm [.agg (bi a)] ah.nil (.bool (zM a)) []:=by
 unfold zM
 refine aG call106 func106 results106 ntmps106 ?_;intro b0 hb0 zN
 exact xP @bi.eq_1 trivial
def nE (n:Nd):Bool:=(!(n.space==[]))||n.attrs.any zM
def zL (n:Nd)(hn:n.attrs.length<=aN)(nm:Nat):Ev cx 53 nm [.agg (aC n)] ah.nil (.bool (nE n)) []:=by
 have hc:=eP n.attrs 106 [] zM (fun a _ nm=>Ru a nm) hn rfl
 unfold nE
 cases h:(n.space==[]) with
 | false =>
  refine aG call53 func53 results53 ntmps53 ?_;intro b0 hb0 zN
  exact xP (a3 @aC.eq_1 h @aj) trivial
 | true =>
  refine aG call53 func53 results53 ntmps53 ?_;intro b0 hb0 zN
  exact xP (a3 @aC.eq_1 h @aj) hc
def PV (n:Nd)(hn:n.okTo aN)(nm:Nat):Ev cx 128 nm [.agg (aC n),.rp [.fn 126 []]] ah.nil (.bool (ny n)) []:=by
 have hg:=rl n.space
 have hm:=rG n.name hn.2.2.1
 have hc:=eP n.attrs 126 [] u7 (fun a ha nm=>PU a (hn.2.2.2.2 a ha).2.1 nm) hn.1 rfl
 unfold ny
 by_cases hk:n.kind=1
 ·have q:((n.kind:Int)==1)=true:=by rw[hk];rfl
  rw[AI hk]
  cases h1:eV n.name with
  | false =>
   rw[h1]at hm
   refine aG call128 func128 results128 ntmps128 ?_;intro b0 hb0 zN
   exact xP (a3 @aC.eq_1 q @aj) hm
  | true =>
   rw[h1]at hm
   cases h2:dY n.space with
   | true =>
    rw[h2]at hg
    refine aG call128 func128 results128 ntmps128 ?_;intro b0 hb0 zN
    exact xP (a3 @aC.eq_1 q @aj) (a2 hm hg)
   | false =>
    rw[h2]at hg
    refine aG call128 func128 results128 ntmps128 ?_;intro b0 hb0 zN
    exact xP (a3 @aC.eq_1 q @aj) (a3 hm hg hc)
 ·have q:((n.kind:Int)==1)=false:=If Y6
  rw[WA hk]
  cases h2:dY n.space with
  | true =>
   rw[h2]at hg
   refine aG call128 func128 results128 ntmps128 ?_;intro b0 hb0 zN
   exact xP (a3 @aC.eq_1 q @aj) hg
  | false =>
   rw[h2]at hg
   refine aG call128 func128 results128 ntmps128 ?_;intro b0 hb0 zN
   exact xP (a3 @aC.eq_1 q @aj) (a2 hg hc)
def dO (v:List Nd):Int:=if (v.any ny)=true then 8 else dN v
def yy (v:List Nd)(hv:v.length<=aN)(hok:∀ n∈v,n.okTo aN/\n.i64)(nm:Nat):Ev cx 70 nm [.sl false 6 (v.map aC)] ah.nil (.int .i64 (dO v)) []:=by
 have hc:=jq v 128 [.rp [.fn 126 []]] ny (fun n hn nm=>PV n (hok n hn).1 nm) hv rfl
 have hk:=sk v hv hok
 unfold dO
 cases h:v.any ny with
 | true =>
  rw[h]at hc
  refine aG call70 func70 results70 ntmps70 ?_;intro b0 hb0 zN
  (have zF:=@aa;have cF:=hk;repeat' first|refine wS ?_|exact wE|refine bl [b0+16] wM wF wF rfl (hc _) ?_|((first|apply b7|apply cM)<;>intro hb)|refine Ai Y6 ?_|(apply Ai<;>intro hb)|apply Fin.pure|simp only[aB])
 | false =>
  rw[h]at hc
  rw[if_neg ZI]
  refine aG call70 func70 results70 ntmps70 ?_;intro b0 hb0 zN
  (have zF:=@aa;have cF:=hk;repeat' first|refine wS ?_|exact wE|refine bl [b0+16] wM wF wF rfl (hc _) ?_|((first|apply b7|apply cM)<;>intro hb)|refine Ai Y6 ?_|(apply Ai<;>intro hb)|apply Fin.pure|simp only[aB])
def LL (n:Nd)(nm:Nat):Ev cx 74 nm [.agg (aC n)] ah.nil (.bool (decide (16<n.attrs.length))) []:=by
 have h:decide ((16:Int)<(n.attrs.length:Int))=decide (16<n.attrs.length):=by
  by_cases h:16<n.attrs.length
  ·rw[AI h,bz]
  ·rw[WA h,aL]
 rw[<- h]
 refine aG call74 func74 results74 ntmps74 ?_;intro b0 hb0 zN
 exact xP (a3 @aC.eq_1 @aj h) trivial
def gD (a b:At):Bool:=(a.space==b.space)&&(a.name==b.name)
def zg (a b:At)(nm:Nat):Ev cx 111 nm [.agg (bi a),.rp (bi b)] ah.nil (.bool (gD a b)) []:=by
 unfold gD
 refine aG call111 func111 results111 ntmps111 ?_;intro b0 hb0 zN
 exact xP @bi.eq_1 trivial
def gI (n:Nat):ZA:=if n<10 then [(48+n).toUInt8] else [(48+n / 10).toUInt8,(48+n % 10).toUInt8]
def G4:ZA:=[48,49,50,51,52,53,54,55,56,57,97,98,99,100,101,102,103,104,105,106,107,108,109,110,111,112,113,114,115,116,117,118,119,120,121,122]
def HI:ZA:=[48,48,48,49,48,50,48,51,48,52,48,53,48,54,48,55,48,56,48,57,49,48,49,49,49,50,49,51,49,52,49,53,49,54,49,55,49,56,49,57,50,48,50,49,50,50,50,51,50,52,50,53,50,54,50,55,50,56,50,57,51,48,51,49,51,50,51,51,51,52,51,53,51,54,51,55,51,56,51,57,52,48,52,49,52,50,52,51,52,52,52,53,52,54,52,55,52,56,52,57,53,48,53,49,53,50,53,51,53,52,53,53,53,54,53,55,53,56,53,57,54,48,54,49,54,50,54,51,54,52,54,53,54,54,54,55,54,56,54,57,55,48,55,49,55,50,55,51,55,52,55,53,55,54,55,55,55,56,55,57,56,48,56,49,56,50,56,51,56,52,56,53,56,54,56,55,56,56,56,57,57,48,57,49,57,50,57,51,57,52,57,53,57,54,57,55,57,56,57,57]
def Ot:∀ i,i<10->(G4.drop i).take (i+1-i)=gI i:=ZJ
def Oq:∀ i,i<100 -> ¬ i<10->(HI.drop (i*2)).take (i*2+2-i*2)=gI i:=ZJ
def Oo (i:Nat)(hi:i<100)(nm:Nat):Ev cx 215 nm [.int .i64 i] ah.nil (.str (gI i)) []:=by
 by_cases h:i<10
 ·have d1:decide ((i:Int)<10)=true:=bz
  have d2:=eX i
  have d3:(i:Int)<=((i+1:Nat):Int):=Y6
  have hz:=Ot i h
  unfold G4 at hz
  refine aG call215 func215 results215 ntmps215 ?_;intro b0 hb0 zN
  exact xP (a3 d1 d2 hz) trivial
 ·have d1:decide ((i:Int)<10)=false:=aL
  have d2:IntKind.i64.wrap ((i:Int)*2)=((i*2:Nat):Int):=aX
  have d3:IntKind.i64.wrap (((i*2:Nat):Int)+2)=((i*2+2:Nat):Int):=aX
  have hz:=Oq i hi h
  unfold HI at hz
  refine aG call215 func215 results215 ntmps215 ?_;intro b0 hb0 zN
  exact xP (a4 d1 d2 d3 hz) trivial
def S0 (i:Nat)(hi:i<100)(nm:Nat):Ev cx 193 nm [.int .i64 i,.int .i64 10] ah.nil (.str (gI i)) []:=by
 have d1:decide ((0:Int)<=(i:Int))=true:=bz
 have d2:decide ((i:Int)<100)=true:=bz
 refine aG call193 func193 results193 ntmps193 ?_;intro b0 hb0 zN
 exact xP (a2 d1 d2) (Oo i hi)
def MO (i:Nat)(hi:i<100)(nm:Nat):Ev cx 166 nm [.int .i64 i] ah.nil (.str (gI i)) []:=by
 refine aG call166 func166 results166 ntmps166 ?_;intro b0 hb0 zN
 exact xP trivial (S0 i hi)
def Hl (i:Nat)(hi:i<100)(nm:Nat):Ev cx 130 nm [.int .i64 i] ah.nil (.str (gI i)) []:=by
 refine aG call130 func130 results130 ntmps130 ?_;intro b0 hb0 zN
 exact xP trivial (MO i hi)
def iV (S:List ZA)(a:At):List ZA:=if (a.space==[])=true then S else if (a.space==jm)=true then S else if S.contains a.space=true then S else S++[a.space]
def bh (l:List At):List ZA:=l.foldl iV []
def En (S:List ZA)(s:ZA):Nat:=(S.findIdx? (· == s)).getD S.length
def yg (S:List ZA)(s:ZA):ZA:=if (s==jm)=true then [120,109,108] else 110::gI (En S s+1)
def fG (S:List ZA)(a:At):At:=⟨[],if (a.space==[])=true then a.name else yg S a.space++58::a.name,a.value⟩
def qd (k:Nat)(s:ZA):At:=⟨[],[120,109,108,110,115,58,110]++gI (k+1),s⟩
def cE (S:List ZA):List At:=S.mapIdx qd
def CY (n:Nd)(sp:ZA):List At:=if (n.space==sp)=true then [] else [⟨[],[120,109,108,110,115],n.space⟩]
def eu (n:Nd)(sp:ZA):Nd:=⟨n.kind,[],n.name,CY n sp++cE (bh n.attrs)++n.attrs.map (fG (bh n.attrs)),[],n.many⟩
def wW {l:List At}{k:Nat}{a:At}(h:l[k]? = some a):bh (l.take (k+1))=iV (bh (l.take k)) a:=by
 obtain⟨hk,rfl⟩:=AS.1 h
 unfold bh
 rw[WF hk,Yi];rfl
def J5 (S:List ZA)(a:At):S <+: iV S a:=by
 grind[iV]
def np:∀(l:List At) (S:List ZA),S <+: l.foldl iV S
 | [],_=>List.prefix_refl _
 | a::l,S=>(J5 S a).trans (np l _)
def s9 (l:List At)(k:Nat):bh (l.take k) <+: bh l:=by
 have h:=np (l.drop k) (bh (l.take k))
 unfold bh at h ⊢
 grind[List.take_append_drop]
def J4 (S:List ZA)(a:At):(iV S a).length<=S.length+1:=by
 grind[iV]
def rU:∀(l:List At) (S:List ZA),(l.foldl iV S).length<=S.length+l.length
 | [],S=>by simp
 | a::l,S=>by
  have h1:=rU l (iV S a)
  have h2:=J4 S a
  grind
def pu (l:List At):(bh l).length<=l.length:=by
 have:=rU l []
 simp_all[bh]
def L9 {S T:List ZA}{s:ZA}{k:Nat}(h:S <+: T)(hk:S.findIdx? (· == s)=some k):T.findIdx? (· == s)=some k:=by
 obtain⟨r,rfl⟩:=h
 simp_all
def R0 {S T:List ZA}{s:ZA}{k:Nat}(h:S <+: T)(hk:S.findIdx? (· == s)=some k):En T s=k:=by
 unfold En;rw[L9 h hk];rfl
def IC {S:List ZA}{s:ZA}(h:S.findIdx? (· == s)=none):(S++[s]).findIdx? (· == s)=some S.length:=by
 grind
def yB {S:List ZA}{s:ZA}(h:S.findIdx? (· == s)=none):S.contains s=false:=by
 grind
def yC {S:List ZA}{s:ZA}{k:Nat}(h:S.findIdx? (· == s)=some k):S.contains s=true:=by
 cases hc:S.contains s with
 | true=>rfl
 | false =>
  have:S.findIdx? (· == s)=none:=XQ.2 fun x hx=>by
   grind
  simp_all
def Il (S:List ZA)(s:ZA):cE (S++[s])=cE S++[qd S.length s]:=by
 simp_all[cE]
def Co (S:List ZA):(cE S).length=S.length:=by simp[cE]
def vQ:∀ n,n<100->(gI n).length<=2:=by
 grind[gI]
def Fo.bare:Fo->ZA->List Nd
 | .nil,_=>[]
 | .cons n k r,sp=>(if n.kind=2 then [n] else eu n sp::k.bare n.space)++r.bare sp
abbrev kw:=List (ZA×ZA)
def fD (p:ZA):kw->Option ZA
 | []=>none
 | q::r=>if (p==q.1)=true then some q.2 else fD p r
def Dz (p v:ZA):kw->kw
 | []=>[(p,v)]
 | q::r=>if (p==q.1)=true then (p,v)::r else q::Dz p v r
def get_put (p v q:ZA):∀(K:kw),fD q (Dz p v K)=if q=p then some v else fD q K
 | []=>by
  simp only[Dz,fD]
  simp_all
 | x::r=>by
  simp only[Dz]
  by_cases h1:p=x.1
  ·rw[if_pos (by simpa using h1)]
   simp only[fD]
   simp_all
  ·rw[if_neg (by simpa using h1)]
   simp only[fD]
   by_cases h:q=x.1
   ·grind
   ·simp[h,get_put p v q r]
def dp (s:ZA):Option ZA:=if (s==[120,109,108,110,115])=true then some [] else if preB s [120,109,108,110,115,58]=true then some (s.drop 6) else none
def Cl (s:ZA):G3 s = .tup [.str ((dp s).getD s),.bool (dp s).isSome]:=by
 unfold G3 dp
 split
 ·rfl
 ·unfold Bh
  split<;>rfl
def C9 (K:kw×Bool)(a:At):kw×Bool:=match dp a.name with
 | none=>K
 | some p=>(Dz p a.value K.1,K.2&&Dk p a.value)
def iy (K:kw)(r:Bool)(l:List At):kw×Bool:=l.foldl C9 (K,r)
def oI (K:kw)(a:At):At:=if a.name.contains 58=true then ⟨(fD (dK a.name).1 K).getD [],(dK a.name).2,a.value⟩ else ⟨[],a.name,a.value⟩
def tH (K:kw)(a:At):Bool:=!a.name.contains 58||(fD (dK a.name).1 K).isSome
def Pk (K:kw)(s:List At×Bool)(a:At):List At×Bool:=match dp a.name with
 | some _=>s
 | none=>(s.1++[oI K a],(s.2&&tH K a) && !(s.1.any fun b=>gD b (oI K a)))
def xG (K:kw)(r:Bool)(l:List At):List At×Bool:=l.foldl (Pk K) ([],r)
def fP (K:kw)(n:Nd):Nd×Bool:=(⟨n.kind,(fD (dK n.name).1 K).getD [],(dK n.name).2,(xG K (fD (dK n.name).1 K).isSome n.attrs).1,[],n.many⟩,(xG K (fD (dK n.name).1 K).isSome n.attrs).2)
def Fo.res:Fo->kw->List Nd×Bool
 | .nil,_=>([],true)
 | .cons n k r,K=>if n.kind=2 then (n::(r.res K).1,(r.res K).2)
  else ((fP (iy K true n.attrs).1 n).1::((k.res (iy K true n.attrs).1).1++(r.res K).1),(((iy K true n.attrs).2&&(fP (iy K true n.attrs).1 n).2)&&(k.res (iy K true n.attrs).1).2)&&(r.res K).2)
def xF:kw:=[([],[]),([120,109,108],jm)]
def ub:Nat->Nat->List Nd->Fo×List Nd
 | 0,_,v=>(.nil,v)
 | _+1,0,v=>(.nil,v)
 | _+1,_+1,[]=>(.nil,[])
 | f+1,c+1,n::v=>(.cons n (ub f n.many.toNat v).1 (ub f c (ub f n.many.toNat v).2).1,(ub f c (ub f n.many.toNat v).2).2)
def Fk:∀(F:Fo) (d last f:Nat) (r:List Nd),F.good d last=true->F.size<f->ub f F.count (F.flat++r)=(F,r)
 | .nil,_,_,f+1,r,_,_=>by rfl
 | .cons n k r,d,last,f+1,rest,h,hf=>by
  obtain⟨h1,h2,h3,h4,h5,h6⟩:=Fo.good_cons.1 h
  simp only[Fo.size]at hf
  have hk:=Fk k (d-1) 1 f (r.flat++rest) h5 Y6
  have hr:=Fk r d n.kind f rest h6 Y6
  have hm:n.many.toNat=k.count:=Y6
  simp_all[Fo.count,Fo.flat,ub]
 | F,_,_,0,_,_,hf=>by omega
def oo (v:List Nd):Fo:=(ub (v.length+1) 1 v).1
def pc {n:Nd}{k:Fo}{d:Nat}(h:(Fo.cons n k .nil).good d 0=true):oo (n::k.flat) = .cons n k .nil:=by
 have:=Fk (.cons n k .nil) d 0 ((n::k.flat).length+1) [] h (by simp[Fo.size,Fo.flat_length])
 simp_all[oo,Fo.count,Fo.flat]
def bX (v:List Nd):List Nd×Int:=if dN v≠0 then ([],8) else if v.any nE=true then ([],8) else if ((oo v).res xF).2=true then (((oo v).res xF).1,0) else ([],110)
def nG (v:List Nd):Bool:=v.any fun n=>decide (16<n.attrs.length)
def bM (v:List Nd)(sp:ZA):List Nd×Int:=if dO v≠0 then ([],dO v) else if az sp≠0\/dY sp=true then ([],8) else if nG ((oo v).bare sp)=true then ([],4) else ((oo v).bare sp,0)
def ES {s:ZA}(h:(58:UInt8) ∉ s):s.contains 58=false:=by
 simp_all
def GG {s:ZA}(h:(58:UInt8) ∉ s):dK s=([],s):=by
 unfold dK;rw[eA.2 h]
def Ou {a b:ZA}(h:(58:UInt8) ∉ a):dK (a++58::b)=(a,b):=by
 simp_all[dK,oW]
def LX (s:ZA):dp ([120,109,108,110,115,58]++s)=some s:=by
 rfl
def yG {s:ZA}(h1:s≠[120,109,108,110,115])(h2:s.take 6≠[120,109,108,110,115,58]):dp s=none:=by
 unfold dp preB
 simp_all
def EY {s:ZA}(h:(58:UInt8) ∉ s)(h1:s≠[120,109,108,110,115]):dp s=none :=
 yG h1 fun e=>h (X7 (i:=6) (by rw[e];simp))
def Rr {l:List At} : ∀ {S:List ZA},∀ s∈l.foldl iV S,s∈S \/ ∃ a∈l,a.space=s/\s≠[]/\s≠jm:=by
 induction l with
 | nil=>simp_all
 | cons a l ih =>
  intro S s h
  rw[List.foldl_cons]at h
  rcases ih s h with h|⟨b,hb,h1⟩
  ·unfold iV at h
   grind
  grind
def Oe {l:List At} : ∀ {S:List ZA} {a:At},a∈l->a.space≠[]->a.space≠jm->a.space∈l.foldl iV S:=by
 induction l with
 | nil=>simp_all
 | cons b l ih =>
  intro S a h h1 h2
  rw[List.foldl_cons]
  rcases WZ.1 h with e|h
  ·subst e
   refine(np l (iV S a)).subset ?_
   unfold iV
   grind
  simp_all
def S7 {S:List ZA}{s:ZA}(h:s∈S):S[En S s]? = some s/\En S s<S.length:=by
 unfold En
 cases hf:S.findIdx? (· == s) with
 | none=>grind
 | some k =>
  obtain⟨hk,h1,_⟩:=Xt.1 hf
  simp_all
def Sh {l:List At} : pB l=true↔l.length<=16/\l.Pairwise (fun b a=>¬(a.space=b.space/\a.name=b.name)) /\ ∀ a∈l,bI a.name=true/\az a.value=0/\az a.space=0:=by
 rw[qN]
 refine Yv fun _=>?_
 have hok:∀(p:List At) (a:At),Lf p a=true↔(∀ b∈p,¬(a.space=b.space/\a.name=b.name))/\bI a.name=true/\az a.value=0/\az a.space=0:=fun p a=>by
  simp_all[Lf,and_assoc]
 unfold uY
 constructor
 ·intro h
  refine⟨List.pairwise_iff_getElem.2 fun i j hi hj hij=>?_,fun a ha=>?_⟩
  ·have:=((hok _ _).1 (h j l[j] hj (AT hj))).1 l[i] (by
    grind[List.mem_take_iff_getElem])
   exact this
  ·obtain⟨i,hi,rfl⟩:=Xd ha
   simp_all
 ·rintro ⟨h1,h2⟩ i a hi ha
  obtain⟨hi',rfl⟩:=AS.1 ha
  refine(hok _ _).2 ⟨fun b hb=>?_,h2 _ (Xi hi')⟩
  obtain⟨k,hk,rfl⟩:=List.mem_take_iff_getElem.1 hb
  exact List.pairwise_iff_getElem.1 h1 k i Y6 hi' Y6
def Fo.tell:Fo->ZA->Fo
 | .nil,_=>.nil
 | .cons n k r,sp=>.cons (if n.kind=2 then n else eu n sp) (k.tell n.space) (r.tell sp)
def Fo.tell_size:∀(F:Fo) (sp:ZA),(F.tell sp).size=F.size
 | .nil,_=>rfl
 | .cons n k r,sp=>by simp[Fo.tell,Fo.size,k.tell_size,r.tell_size]
def Fo.tell_flat:∀ {F:Fo} {d last:Nat} (sp:ZA),F.good d last=true->(F.tell sp).flat=F.bare sp
 | .nil,_,_,_,_=>rfl
 | .cons n k r,d,last,sp,h=>by
  obtain⟨h1,h2,h3,h4,h5,h6⟩:=Fo.good_cons.1 h
  simp only[Fo.tell,Fo.flat,Fo.bare,Fo.tell_flat sp h6]
  by_cases hk:n.kind=2
  ·have:=Fo.text_leaf h hk
   simp_all[Fo.tell,Fo.flat]
  ·simp[hk,Fo.tell_flat n.space h5]
def lc {v:List Nd}(h:dN v=0):∃ n k,n.kind=1/\v=n::k.flat/\(Fo.cons n k .nil).good 12 0=true/\k.size+1<=512:=by
 unfold dN at h
 cases hb:cQ v with
 | none=>simp_all
 | some en =>
  obtain⟨n,k,h1,h2,h3,h4,_⟩:=mR.1 hb
  exact⟨n,k,h1,h2,h3,by simp_all[Fo.flat_length]⟩
def sj {n:Nd}{k:Fo}(hk:n.kind=1)(h:(Fo.cons n k .nil).good 12 0=true)(hl:k.size+1<=512):dN (n::k.flat)=0:=by
 unfold dN;rw[yu (IS _) hk h hl];rfl
def yA {v:List Nd}(h:dO v=0):(∀ x∈v,ny x=false)/\dN v=0:=by
 unfold dO at h
 grind
def Fo.rsv:Fo->kw->Fo
 | .nil,_=>.nil
 | .cons n k r,K=>.cons (if n.kind=2 then n else (fP (iy K true n.attrs).1 n).1) (if n.kind=2 then .nil else k.rsv (iy K true n.attrs).1) (r.rsv K)
def Fo.rsv_size:∀(F:Fo) (K:kw),(F.rsv K).size<=F.size
 | .nil,_=>IS _
 | .cons n k r,K=>by
  have h1:=k.rsv_size (iy K true n.attrs).1
  have h2:=r.rsv_size K
  grind[Fo.rsv,Fo.size]
def Fo.rsv_flat:∀(F:Fo) (K:kw),(F.rsv K).flat=(F.res K).1
 | .nil,_=>rfl
 | .cons n k r,K=>by
  simp only[Fo.rsv,Fo.flat,Fo.res,r.rsv_flat K]
  by_cases hk:n.kind=2
  ·simp[hk,Fo.flat]
  ·simp[hk,k.rsv_flat (iy K true n.attrs).1]
def sa (s:ZA):List V:=[.str s]
def aR (l:List ZA):plainLL (l.map sa)=true:=cq _ (fun _=>rfl) l
def FJ (l:List ZA)(s:ZA)(hn:l.length<=aN)(nm:Nat):Ev cx 129 nm [.sl false 1 (l.map sa),.str s] ah.nil (.int .i64 (Ja (l.findIdx? (· == s)))) []:=by
 unfold aN at hn
 refine aG call129 func129 results129 ntmps129 ?_;intro b0 hb0 zN
 (refine xR trivial trivial ?_)
 (have zF:=@aR;refine fu (fun x:Nat=>l.length-x) (fun x=>x<=l.length/\(l.take x).any (· == s)=false) (b0+16) (fun x=>[(0,.sl false 1 (l.map sa)),(1,.str s),(7,.int .i64 l.length),(8,.int .i64 x)]) (fun x=>[]) (0) [] ?_ ?_)
 ·exact⟨WB _,by simp⟩
 ·rintro k ⟨hk,hno⟩
  by_cases hlt:k<l.length
  ·obtain⟨h,hh⟩:=js hlt
   have hat:(l.map sa)[k]? = some (sa h):=by rw[WG,hh];rfl
   have hd:=AI hlt
   have hwk:=eX k
   have hc:(s==h)=(h==s):=by rw[WL];simp;exact⟨Eq.symm,Eq.symm⟩
   cases hp:(h==s) with
   | true =>
    have hfd:=oh (p:=(· == s)) hno hh hp
    rw[hp]at hc
    exact xP (a8 hat @sa.eq_1 hlt hd hwk hfd hc @iv) trivial
   | false =>
    have hn':=eK (p:=(· == s)) hno hh hp
    rw[hp]at hc
    (refine xR (a6 hat @sa.eq_1 hlt hd hwk hc) trivial ?_)
    all_goals ((have zF:=a2 @aR hwk;refine c7 (k+1) [] ?_ ?_))
    all_goals (first|(show l.length-(k+1)<l.length-k;omega)|exact⟨hlt,hn'⟩|skip)
  ·have hke:k=l.length:=Y6
   subst hke
   rw[WJ]at hno
   have hfd:=kL hno
   have hd:decide (l.length<l.length)=false:=aL
   exact xP (a3 hd hfd @iu) trivial
def QB (s:ZA)(d:UInt8):decide ((0:Int)<=indexByte s d)=s.contains d:=by
 cases h:df d s with
 | none =>
  rw[jK.2 h]
  cases hc:s.contains d with
  | false=>rfl
  | true=>exact absurd (Xh.1 hc) (eA.1 h)
 | some p =>
  obtain⟨a,b⟩:=p
  have:=(jL h).1
  rw[this,bz,Xh.2 (by rw[(eB h).1];simp)]
def Rt (s:ZA)(d:UInt8)(nm:Nat):Ev cx 158 nm [.str s,.str [d]] ah.nil (.int .i64 (indexByte s d)) []:=by
 refine aG call158 func158 results158 ntmps158 ?_;intro b0 hb0 zN
 exact xP trivial (sI s d)
def Ce (s:ZA)(d:UInt8)(nm:Nat):Ev cx 110 nm [.str s,.str [d]] ah.nil (.bool (s.contains d)) []:=by
 rw[<- QB]
 refine aG call110 func110 results110 ntmps110 ?_;intro b0 hb0 zN
 exact xP trivial (Rt s d)
def tI (K:kw):List (V×V):=K.map fun p=>(.str p.1,.agg [.str p.2])
def Vi:yd cx.P 114=some (9,117):=Y7
def VT:Tn cx.P 114=true:=Y7
def VU:GD cx.P 114=true:=Y7
def AA (p:ZA):∀(K:kw),dX (.str p) (tI K)=some ((fD p K).map fun v=>.agg [.str v])
 | []=>rfl
 | q::r=>by
  have ih:=AA p r
  simp only[tI,Lc]at ih ⊢
  simp only[dX,lD,fD]
  cases h:(p==q.1) with
  | true=>simp
  | false=>simpa using ih
def NK (p v:ZA):∀(K:kw),qC (.str p) (.agg [.str v]) (tI K)=tI (Dz p v K)
 | []=>rfl
 | q::r=>by
  have ih:=NK p v r
  simp only[tI,Lc]at ih ⊢
  simp only[qC,lD,Dz]
  cases h:(p==q.1) with
  | true=>simp
  | false=>simpa using ih
def Ji (y:Nat)(K:kw)(M:ah)(nm:Nat)(hM:M y=some (fE (tI K)))(ho:∀ z,(M z).isSome=true->z∈[y])(hlt:y<nm):Ev cx 55 nm [.mp y] M (.mp nm) [(y,some (fE (tI K))),(nm,some (fE (tI K)))]:=by
 have hc:=fun (M':ah) (m:Nat) (h1:M' y=some (fE (tI K))) h2 h3=>Ev.clone (cx:=cx) func107 (by kernel_rfl) (by kernel_rfl) (by kernel_rfl) (by kernel_rfl) 114 y (tI K) M' m h1 h2 h3
 refine aG call55 func55 results55 ntmps55 ?_;intro b0 hb0 zN
 have k1:=aq hb0 hM
 have z0:=aE k1;have z1:=ak k1;have z2:=ay k1;have z3:=ae k1
 have g1:(nm=y)=False:=IT Y6
 (have zF:=a7 @VT hM z0 z1 z2 z3 @aD;repeat' first|refine wS ?_|exact wE|refine ab wM [y] (hc _ _ wM ac Y6) wM ?_|refine lY rfl (by kernel_rfl) ?_|refine kI (u:=?_) ?_ VU ?_|((first|apply b7|apply cM)<;>intro hb)|refine Ai Y6 ?_|(apply Ai<;>intro hb))
 all_goals ((have zF:=a8 hM z0 z1 z2 z3 g1 @b8 @bg;refine jW [(y,none),(b0+80,some 0)] [] ho))
def jo (l:List At)(a:At):l.map bi++[[.str a.space,.str a.name,.str a.value]]=(l++[a]).map bi:=by simp[bi]
def HP (l:List ZA)(a:ZA):l.map sa++[[.str a]]=(l++[a]).map sa:=by simp[sa]
def iW (l:List At):(l.map bi).take l.length=l.map bi:=bF _ _
def GN (l:List ZA):(l.map sa).take l.length=l.map sa:=bF _ _
def pM {f:At->At}{l:List At}{k:Nat}{a:At}(h:l[k]? = some a):(l.take (k+1)).map f=(l.take k).map f++[f a]:=by
 obtain⟨hk,rfl⟩:=AS.1 h
 rw[WF hk,WM];rfl
def zK:bh []=[]:=rfl
def dE (n:Nd)(sp:ZA)(k:Nat):List At:=CY n sp++cE (bh (n.attrs.take k))
def fI (n:Nd)(k:Nat):List At:=(n.attrs.take k).map (fG (bh n.attrs))
def zW (n:Nd)(sp:ZA)(k:Nat):(dE n sp k).length<=1+n.attrs.length:=by
 have h1:=pu (n.attrs.take k)
 have h2:(CY n sp).length<=1:=by unfold CY;split<;>simp
 unfold dE
 rw[List.length_append,Co]
 simp only[WK]at h1
 omega
def tm (n:Nd){k:Nat}(hk:k<=n.attrs.length):(fI n k).length=k:=by unfold fI;rw[Lm,WK];omega
def OS (n:Nd)(sp:ZA)(hn:n.attrs.length<=16)(hl:∀ a∈n.attrs,a.name.length<=1000000)(nm:Nat):Ev cx 73 nm [.agg (aC n),.str sp] ah.nil (.agg [.int .u8 n.kind,.str [],.str n.name,.own nm 0 (eu n sp).attrs.length,.str [],.int .i64 n.many]) [(nm,some ⟨3,(eu n sp).attrs.map bi⟩)]:=by
  have hall:(eu n sp).attrs=dE n sp n.attrs.length++fI n n.attrs.length:=by unfold eu dE fI;rw[WJ]
  rw[hall]
  have hS0:bh (n.attrs.take 0)=[]:=by simp[bh]
  have hR0:fI n 0=[]:=by simp[fI]
  rcases Bool.eq_false_or_eq_true (n.space==sp) with he|he
  focus
    have hA0:dE n sp 0=[]:=by unfold dE CY;simp[he,bh,cE]
    refine aG call73 func73 results73 ntmps73 ?_;intro b0 hb0 zN
    repeat' first|simp only[aF,aC,he,Bt,Lm,au,aH,seval]
    (refine v8 (fun x:Nat=>n.attrs.length-x) (fun x=>x<=n.attrs.length) (b0+16) (fun x=>[(4,.ptr b0 0 0),(5,.ptr (b0+1) 0 0),(6,.own (b0+3) 0 (bh (n.attrs.take x)).length),(7,.own (b0+4) 0 (fI n x).length),(33,.sl false 3 (n.attrs.map bi)),(34,.int .i64 n.attrs.length),(35,.int .i64 x)]) (fun x=>[(b0,⟨6,[[.int .u8 0,.str [],.str [],.nils,.str [],.int .i64 0]]⟩),(b0+1,⟨6,[[.int .u8 n.kind,.str [],.str n.name,.own (b0+2) 0 (dE n sp x).length,.str [],.int .i64 n.many]]⟩),(b0+2,⟨3,(dE n sp x).map bi⟩),(b0+3,⟨1,(bh (n.attrs.take x)).map sa⟩),(b0+4,⟨3,(fI n x).map bi⟩)]) (0) [some (b0+16),some (b0+144),none,none,none] ?_ ?_ ?_;(focus (refine⟨?_,?_⟩<;>(try simp only[bL,hA0,hR0,zK,List.take_zero,am,aj,Lc,Lo,List.length_nil,au,aB,seval])<;>(try omega))))
  rotate_left 2
  focus
    have hA0:dE n sp 0=[⟨[],[120,109,108,110,115],n.space⟩]:=by unfold dE CY;simp[he,bh,cE]
    refine aG call73 func73 results73 ntmps73 ?_;intro b0 hb0 zN
    repeat' first|simp only[aF,aC,he,Bf,Lm,au,aH,seval]
    (refine v8 (fun x:Nat=>n.attrs.length-x) (fun x=>x<=n.attrs.length) (b0+16) (fun x=>[(4,.ptr b0 0 0),(5,.ptr (b0+1) 0 0),(6,.own (b0+3) 0 (bh (n.attrs.take x)).length),(7,.own (b0+4) 0 (fI n x).length),(33,.sl false 3 (n.attrs.map bi)),(34,.int .i64 n.attrs.length),(35,.int .i64 x)]) (fun x=>[(b0,⟨6,[[.int .u8 0,.str [],.str [],.nils,.str [],.int .i64 0]]⟩),(b0+1,⟨6,[[.int .u8 n.kind,.str [],.str n.name,.own (b0+2) 0 (dE n sp x).length,.str [],.int .i64 n.many]]⟩),(b0+2,⟨3,(dE n sp x).map bi⟩),(b0+3,⟨1,(bh (n.attrs.take x)).map sa⟩),(b0+4,⟨3,(fI n x).map bi⟩)]) (0) [some (b0+16),some (b0+144),some (b0+336),none,none] ?_ ?_ ?_;(focus (refine⟨?_,?_⟩<;>(try simp only[bL,hA0,hR0,zK,List.take_zero,am,bi,aj,Lc,Lo,List.length_cons,List.length_nil,au,aB,seval])<;>(try omega))))
  all_goals (first|exact WB _|skip)
  all_goals
    intro k hk
    by_cases hlt:k<n.attrs.length
    · obtain ⟨a,ha⟩:∃ a,n.attrs[k]? = some a:=⟨_,AT hlt⟩
      have hat:=iG ha
      have d1:=AW k n.attrs.length
      have d2:=AI hlt
      have hwk:=eX k
      have hAl:=zW n sp k
      have hRl:=tm n hk
      have hRl1:=tm n (k:=k+1) hlt
      have hSl:=pu (n.attrs.take k)
      rw[WK]at hSl
      have hS1:=wW ha
      have hR1:fI n (k+1)=fI n k++[fG (bh n.attrs) a]:=pM ha
      have hA1:dE n sp (k+1)=CY n sp++cE (bh (n.attrs.take (k+1))):=rfl
      have htk:((fI n k).map bi).take k=(fI n k).map bi:=IN (by rw[Lm];omega)
      have hna:=hl a (By ha)
      have hpre:=s9 n.attrs (k+1)
      cases h0:(a.space==[]) with
      | true =>
        have hrel:fG (bh n.attrs) a=⟨[],a.name,a.value⟩:=by unfold fG;rw[h0];rfl
        have hS2:bh (n.attrs.take (k+1))=bh (n.attrs.take k):=by rw[hS1];unfold iV;rw[if_pos h0]
        have hA2:dE n sp (k+1)=dE n sp k:=by unfold dE;rw[hS2]
        have hsn:(fI n k).map bi++[[.str [],.str a.name,.str a.value]]=(fI n (k+1)).map bi:=by rw[hR1,hrel];exact jo (fI n k) ⟨[],a.name,a.value⟩
        repeat' first|simp only[results73,ntmps73,aF,hat,bi,hlt,h0,hwk,hRl,htk,hsn,Lm,au,aH,seval] | refine Ai Y6 ?_
        all_goals ((refine pX (k+1) [some b0,some (b0+1),some (b0+2),some (b0+3),some (b0+304)] ?_ ?_ ?_;(focus (refine⟨?_,?_⟩<;>(try simp only[bL,hS2,hA2,hRl1,aj,aR,Lm,au,aB,seval])<;>(try omega)))))
        all_goals (first|(show n.attrs.length-(k+1)<n.attrs.length-k;omega)|exact hlt)
      | false =>
        have hxl:(a.space==jm)=(a.space==[104,116,116,112,58,47,47,119,119,119,46,119,51,46,111,114,103,47,88,77,76,47,49,57,57,56,47,110,97,109,101,115,112,97,99,101]):=rfl
        have h0':¬(a.space==[])=true:=by rw[h0];decide
        have hrel:fG (bh n.attrs) a=⟨[],yg (bh n.attrs) a.space++58::a.name,a.value⟩:=by unfold fG;rw[if_neg h0']
        have hsn0:∀ p:ZA,yg (bh n.attrs) a.space=p->(fI n k).map bi++[[.str [],.str (p++[58]++a.name),.str a.value]]=(fI n (k+1)).map bi:=fun p hp=>by
          rw[hR1,hrel,hp,show p++[58]++a.name=p++58::a.name by simp];exact jo (fI n k) ⟨[],p++58::a.name,a.value⟩
        cases hx:(a.space==jm) with
        | true =>
          have hS2:bh (n.attrs.take (k+1))=bh (n.attrs.take k):=by rw[hS1];unfold iV;rw[if_neg h0',if_pos hx]
          have hA2:dE n sp (k+1)=dE n sp k:=by unfold dE;rw[hS2]
          have hsn:=hsn0 [120,109,108] (by unfold yg;rw[if_pos hx])
          simp only[List.cons_append,List.nil_append]at hsn
          rw[hx]at hxl
          repeat' first|simp only[aF,hat,bi,hlt,h0,hxl.symm,hwk,hRl,htk,hsn,Bt,List.length_append,List.length_cons,List.length_nil,Lm,au,aH,seval] | refine Ai Y6 ?_
          all_goals ((refine pX (k+1) [some b0,some (b0+1),some (b0+2),some (b0+3),some (b0+480)] ?_ ?_ ?_;(focus (refine⟨?_,?_⟩<;>(try simp only[bL,hS2,hA2,hRl1,aj,aR,Lm,au,aB,seval])<;>(try omega)))))
          all_goals (first|(show n.attrs.length-(k+1)<n.attrs.length-k;omega)|exact hlt)
        | false =>
          rw[hx]at hxl
          have hx':¬(a.space==jm)=true:=by rw[hx];decide
          have hix:=fun nm=>FJ (bh (n.attrs.take k)) a.space (by unfold aN;omega) nm
          have hSF:=s9 n.attrs k
          cases hf:(bh (n.attrs.take k)).findIdx? (· == a.space) with
          | some j =>
            have hj:j<(bh (n.attrs.take k)).length:=(Xt.1 hf).1
            have hS2:bh (n.attrs.take (k+1))=bh (n.attrs.take k):=by rw[hS1];unfold iV;rw[if_neg h0',if_neg hx',if_pos (yC hf)]
            have hA2:dE n sp (k+1)=dE n sp k:=by unfold dE;rw[hS2]
            have hsn:=hsn0 (110::gI (j+1)) (by unfold yg;rw[if_neg hx',R0 hSF hf])
            simp only[List.cons_append,WV,List.nil_append]at hsn
            have hil:=vQ (j+1) Y6
            have hit:=fun nm=>Hl (j+1) Y6 nm
            have e1:decide ((j:Int)<0)=false:=aL
            have e2:=eX j
            rw[hf,iv]at hix
            repeat' first|simp only[aK,aF,hat,bi,hlt,h0,hxl.symm,hwk,hRl,htk,hsn,e1,e2,Bf,aR,WV,List.length_append,List.length_cons,List.length_nil,Lm,au,aH,seval]|exact rfl|refine ad ?_ (hit _) ?_|((refine bl (xs:=?_) [b0+3] ?_ ?_ ?_ rfl (hix _) ?_);rotate_left 1) | refine Ai Y6 ?_
            all_goals ((refine pX (k+1) [some b0,some (b0+1),some (b0+2),some (b0+3),some (b0+672)] ?_ ?_ ?_;(focus (refine⟨?_,?_⟩<;>(try simp only[bL,hS2,hA2,hRl1,aj,aR,Lm,au,aB,seval])<;>(try omega)))))
            all_goals (first|(show n.attrs.length-(k+1)<n.attrs.length-k;omega)|exact hlt)
          | none =>
            have hS2:bh (n.attrs.take (k+1))=bh (n.attrs.take k)++[a.space]:=by rw[hS1];unfold iV;rw[if_neg h0',if_neg hx',if_neg (by rw[yB hf];decide)]
            have hpre:=s9 n.attrs (k+1)
            have hsn:=hsn0 (110::gI ((bh (n.attrs.take k)).length+1)) (by
              rw[hS2]at hpre
              unfold yg;rw[if_neg hx',R0 hpre (IC hf)])
            have hA2:dE n sp (k+1)=dE n sp k++[qd (bh (n.attrs.take k)).length a.space]:=by unfold dE;rw[hS2,Il,WV]
            have hAs:(dE n sp k).map bi++[[.str [],.str ([120,109,108,110,115,58,110]++gI ((bh (n.attrs.take k)).length+1)),.str a.space]]=(dE n sp (k+1)).map bi:=by rw[hA2];exact jo (dE n sp k) (qd _ _)
            have hA3:(dE n sp k).length+1=(dE n sp (k+1)).length:=by rw[hA2,List.length_append];rfl
            have hSs:(bh (n.attrs.take k)).map sa++[[.str a.space]]=(bh (n.attrs.take (k+1))).map sa:=by rw[hS2];exact HP _ _
            have hS3:(bh (n.attrs.take k)).length+1=(bh (n.attrs.take (k+1))).length:=by rw[hS2,List.length_append];rfl
            simp only[List.cons_append,WV,List.nil_append]at hsn hAs
            generalize hJ:(bh (n.attrs.take k)).length=j at hsn hAs hS3 hSl hA2
            have hil:=vQ (j+1) Y6
            have hit:=fun nm=>Hl (j+1) Y6 nm
            have e1:decide ((-1:Int)<0)=true:=rfl
            have e2:=eX j
            have htj:((bh (n.attrs.take k)).map sa).take j=(bh (n.attrs.take k)).map sa:=IN (by rw[Lm];omega)
            rw[hf,iu]at hix
            repeat' first|simp only[aK,aF,hat,bi,hlt,h0,hxl.symm,hwk,hRl,htk,hsn,hAs,hSs,hJ,e2,htj,Bf,aR,WV,List.length_append,List.length_cons,List.length_nil,Lm,au,aH,seval]|exact rfl|refine ad ?_ (hit _) ?_|((refine bl (xs:=?_) [b0+3] ?_ ?_ ?_ rfl (hix _) ?_);rotate_left 1) | refine qf [(1,4),(4,7),(1,9)] ?_ | refine Ai Y6 ?_
            all_goals ((refine pX (k+1) [some b0,some (b0+1),some (b0+736),some (b0+544),some (b0+1024)] ?_ ?_ ?_;(focus (refine⟨?_,?_⟩<;>(try simp only[bL,hS3,hA3,hRl1,aj,aR,Lm,au,aB,seval])<;>(try omega)))))
            all_goals (first|(show n.attrs.length-(k+1)<n.attrs.length-k;omega)|exact hlt)
    · have hke:k=n.attrs.length:=Y6
      subst hke
      have d1:=pK n.attrs.length n.attrs.length
      have d2:decide (n.attrs.length<n.attrs.length)=false:=aL
      have hAl:=zW n sp n.attrs.length
      have hRl:=tm n (IS n.attrs.length)
      have htk:((fI n n.attrs.length).map bi).take n.attrs.length=(fI n n.attrs.length).map bi:=IN (by rw[Lm];omega)
      have hsn:(dE n sp n.attrs.length).map bi++(fI n n.attrs.length).map bi=(dE n sp n.attrs.length++fI n n.attrs.length).map bi:=by rw[WM]
      have hlen:(dE n sp n.attrs.length++fI n n.attrs.length).length=(dE n sp n.attrs.length).length+n.attrs.length:=by rw[List.length_append,hRl]
      ((repeat' first|simp only[results73,ntmps73,aF,hRl,htk,hsn,hlen,Q5,Lm,au,aH,seval] | refine Ai Y6 ?_);(all_goals (refine Fin.auto (r:=?_) (l:=?_) ?_ ?_ ?_ ?_ ?_ ?_ ?_;rotate_left 1;(simp only[dB,eG,cN,dq,au,aH,seval]);(exact rfl);rotate_left 1;(simp only[V.owns,ownsL,List.cons_append,List.nil_append]);(exact rfl);all_goals (try simp only[dB,eG,cN,dq,hlen,aj,Lm,Bd,au,aH,seval]);all_goals (try simp only[aB]))))
def RA (n:Nd)(sp:ZA)(hn:n.attrs.length<=16)(hl:∀ a∈n.attrs,a.name.length<=1000000)(nm:Nat):Ev cx 73 nm [.agg (aC n),.str sp] ah.nil (.agg (aC (eu n sp))) []:=by
 have hpl:=aj (eu n sp).attrs
 have htk:=iW (eu n sp).attrs
 refine Ev.freeze (OS n sp hn hl nm) ?_ ?_
 ·simp only[hpl,htk,Lm,au]<;>omega
 ·simp only[aC,htk,au]
  rfl
def Vp:zeroOf cx.P 117=some (.agg #[.string ⟨#[]⟩]):=Y7
def VQ (p:ZA):iN cx.P 9 (.str p)=true:=Y7
section
variable {Q:Post} {st:List Frm} {nm:Nat} {e:Env} {M:ah} {d:Bool} {fs:Y9} {ops r:ZD} {dst:Option Tmp} {t:TypeId} {pos:String} {af:Array Edge} {gd:Option (Nat×Bool)} {i:Nat}
def y7 {m k:Operand}(y:Nat)(K:kw){p:ZA}(hm:ap cx.G true e m = .mp y)(hM:M y=some (fE (tI K)))(hk:ap cx.G true e k = .str p)
  (h:bb cx Q st nm (e.putD dst (.tup [.agg [.str ((fD p K).getD [])],.bool (fD p K).isSome])) M d (fs++[[y]]) ops r (i+1)):eH cx Q st nm e M d fs ops ⟨dst,.lookup 114 m k true,t,pos,af,gd⟩ r i:=by
 refine kK hm hM hk Vi (VQ p) rfl Vp (AA p K) (fun v hv=>?_) ?_
 ·obtain⟨x,_,rfl⟩:=BY.1 hv;rfl
 ·rw[l7,Option.isSome_map]
  cases hg:fD p K with
  | none=>rw[hg]at h;exact h
  | some v=>rw[hg]at h;exact h
def KZ {m k x:Operand}(y:Nat)(K:kw){p v:ZA}(hm:ap cx.G true e m = .mp y)(hM:M y=some (fE (tI K)))(hk:ap cx.G true e k = .str p)(hx:ap cx.G true e x = .agg [.str v])
  (h:bb cx Q st nm (e.putD dst .any) (M.app [(y,some (fE (tI (Dz p v K))))]) d (fs++[[y]]) ops r (i+1)):eH cx Q st nm e M d fs ops ⟨dst,.mapUpdate 114 m k x,t,pos,af,gd⟩ r i:=by
 refine Fb hm hM hk hx Vi (VQ p) rfl rfl (AA p K) ?_
 rw[NK];exact h
end
def BU {M:ah}{q:Nat}{k:Blk}(h:M q=some k)(eff:List (Nat×Option Blk)):M.app ((q,some k)::eff)=M.app eff:=by
 have:M.put q (some k)=M:=by
  funext x
  by_cases e:x=q
  ·subst e;rw[ah.put_same,h]
  ·rw[ah.put_ne _ _ e]
 show(M.put q (some k)).app eff=_
 rw[this]
def Dr {K:kw}{r:Bool}{l:List At}{k:Nat}{a:At}(h:l[k]? = some a):xG K r (l.take (k+1))=Pk K (xG K r (l.take k)) a:=by
 obtain⟨hk,rfl⟩:=AS.1 h
 unfold xG
 rw[WF hk,Yi];rfl
def uD (K:kw):∀(l:List At) (s:List At×Bool),(l.foldl (Pk K) s).1.length<=s.1.length+l.length
 | [],s=>by simp
 | a::l,s=>by
  have h1:=uD K l (Pk K s a)
  have h2:(Pk K s a).1.length<=s.1.length+1:=by
   unfold Pk
   cases dp a.name with
   | some p=>simp only;omega
   | none=>simp
  simp only[List.foldl_cons,List.length_cons]
  omega
def Jr (n:Nd)(K:kw)(hn:n.okTo 1000000)(ha16:n.attrs.length<=1000)(q:Nat)(M:ah)(nm:Nat)(hM:M q=some (fE (tI K)))(ho:∀ z,(M z).isSome=true->z∈[q])(hlt:q<nm) :
  Ev cx 58 nm [.agg (aC n),.mp q] M (.tup [.agg [.int .u8 n.kind,.str (fP K n).1.space,.str (fP K n).1.name,.own nm 0 (fP K n).1.attrs.length,.str [],.int .i64 n.many],.bool (fP K n).2]) [(q,some (fE (tI K))),(nm,some ⟨3,(fP K n).1.attrs.map bi⟩)]:=by
 have hsp:=fun nm=>DV n.name (by have:=hn.2.2.1;unfold aN;omega) nm
 have g1:(nm=q)=False:=IT Y6
 unfold fP
 generalize hP:dK n.name=P at hsp ⊢
 simp only
 generalize hR0:(fD P.1 K).isSome=r0
 refine aG call58 func58 results58 ntmps58 ?_;intro b0 hb0 zN
 have k1:=aq hb0 hM
 have z0:=aE k1;have z1:=ak k1;have z2:=ay k1;have z3:=ae k1
 (have zF:=a8 @aC.eq_1 hM hR0 z0 z1 z2 z3 @aj;have cF:=hsp;repeat' first|refine wS ?_|exact wE|(refine y7 q K (p:=?_) ?_ ?_ ?_ ?_;rotate_left 1;iterate 3 (focus (simp only[zF,zN,aF,au,aH,seval]<;>exact rfl)))|((first|apply b7|apply cM)<;>intro hb)|refine Ai Y6 ?_|(apply Ai<;>intro hb))
 have hz0:(xG K r0 [])=([],r0):=rfl
 (have zF:=a3 hz0 hM (a9 z0 z1 z2 z3 @bi.eq_1 @aj @b8 @bg @am);refine fu (fun x:Nat=>n.attrs.length-x) (fun x=>x<=n.attrs.length) (b0+16) (fun x=>[(1,.mp q),(4,.ptr b0 0 0),(5,.bool (xG K r0 (n.attrs.take x)).2),(38,.sl false 3 (n.attrs.map bi)),(39,.int .i64 n.attrs.length),(40,.int .i64 x)]) (fun x=>[(b0,⟨6,[[.int .u8 n.kind,.str ((fD P.1 K).getD []),.str P.2,.own (b0+1) 0 (xG K r0 (n.attrs.take x)).1.length,.str [],.int .i64 n.many]]⟩),(b0+1,⟨3,(xG K r0 (n.attrs.take x)).1.map bi⟩),(q,fE (tI K))]) (0) [some (b0+16),none,some q] ?_ ?_)
 ·exact WB _
 ·intro k hk
  by_cases hlt:k<n.attrs.length
  ·obtain⟨a,ha⟩:=js hlt
   have hat:=iG ha
   have hok:=hn.2.2.2.2 a (By ha)
   have d1:=AW k n.attrs.length
   have d2:=AI hlt
   have hwk:=eX k
   have hlen:(xG K r0 (n.attrs.take k)).1.length<=1000:=by
    have:=uD K (n.attrs.take k) ([],r0)
    unfold xG;simp only[List.length_nil,WK]at this;omega
   have hst:=Dr (K:=K) (r:=r0) ha
   have hde:=fun nm=>tC a (by have:=hok.2.1;unfold aN;omega) nm
   rw[Cl]at hde
   unfold bi at hde
   generalize hA:xG K r0 (n.attrs.take k)=acc at hst hlen
   obtain⟨acc,rk⟩:=acc
   dsimp only at hlen
   have htk:(acc.map bi).take acc.length=acc.map bi:=bF _ _
   unfold Pk at hst
   cases hd:dp a.name with
   | some p =>
    rw[hd]at hst hde
    (refine xR (a5 hat @bi.eq_1 hlt d1 (a9 d2 hwk htk hA z0 z1 z2 z3 @aj)) hde ?_)
    all_goals ((have zF:=a2 hst (a9 hA hwk z0 z1 z2 z3 @aj @b8 @bg);refine c7 (k+1) [some b0,some (b0+1),some q] ?_ ?_))
    all_goals (first|(show n.attrs.length-(k+1)<n.attrs.length-k;omega)|exact hlt|skip)
   | none =>
    rw[hd]at hst hde
    simp only at hst
    have hcn:=fun nm=>Ce a.name 58 nm
    cases hc:a.name.contains 58 with
    | false =>
     have hx:oI K a=⟨[],a.name,a.value⟩:=by unfold oI;rw[hc];rfl
     have hh:tH K a=true:=by unfold tH;rw[hc];rfl
     rw[hx,hh,Wz]at hst
     have hco:=fun nm=>eP acc 111 [.rp (bi ⟨[],a.name,a.value⟩)] (fun y=>gD y ⟨[],a.name,a.value⟩) (fun y _ nm=>zg y _ nm) (by unfold aN;omega) rfl nm
     have hsn:=jo acc ⟨[],a.name,a.value⟩
     rw[hc]at hcn
     generalize (acc.any fun y=>gD y ⟨[],a.name,a.value⟩)=tw at hst hco
     unfold bi at hco
     (have zF:=a6 hat @bi.eq_1 hlt d1 d2 (a9 hwk htk hA hsn z0 z1 z2 z3 @aj);have cF:=a2 hde hcn;repeat' first|refine wS ?_|exact wE|refine bl [b0+1,b0+304] wM wF wF rfl (hco _) ?_|((first|apply b7|apply cM)<;>intro hb)|refine Ai Y6 ?_|(apply Ai<;>intro hb))
     all_goals ((have zF:=a3 hst hA (a9 hwk z0 z1 z2 z3 @aj @b8 @bg @List.length_append.{0});refine c7 (k+1) [some b0,some (b0+624),some q] ?_ ?_))
     all_goals (first|(show n.attrs.length-(k+1)<n.attrs.length-k;omega)|exact hlt|skip)
    | true =>
     have hs2:=fun nm=>DV a.name (by have:=hok.2.1;unfold aN;omega) nm
     have hx:oI K a=⟨(fD (dK a.name).1 K).getD [],(dK a.name).2,a.value⟩:=by unfold oI;rw[hc];rfl
     have hh:tH K a=(fD (dK a.name).1 K).isSome:=by unfold tH;rw[hc];rfl
     rw[hx,hh]at hst
     generalize dK a.name=S2 at hst hs2
     have hco:=fun nm=>eP acc 111 [.rp (bi ⟨(fD S2.1 K).getD [],S2.2,a.value⟩)] (fun y=>gD y ⟨(fD S2.1 K).getD [],S2.2,a.value⟩) (fun y _ nm=>zg y _ nm) (by unfold aN;omega) rfl nm
     have hsn:=jo acc ⟨(fD S2.1 K).getD [],S2.2,a.value⟩
     rw[hc]at hcn
     generalize (acc.any fun y=>gD y ⟨(fD S2.1 K).getD [],S2.2,a.value⟩)=tw at hst hco
     generalize hG2:(fD S2.1 K).isSome=g2 at hst
     unfold bi at hco
     (have zF:=a7 hat @bi.eq_1 hlt d1 d2 hwk (a9 htk hA hsn hG2 z0 z1 z2 z3 @aj);have cF:=a3 hde hcn hs2;repeat' first|refine wS ?_|exact wE|refine bl [b0+1,b0+304] wM wF wF rfl (hco _) ?_|(refine y7 q K (p:=?_) ?_ ?_ ?_ ?_;rotate_left 1;iterate 3 (focus (simp only[zF,zN,aF,au,aH,seval]<;>exact rfl)))|((first|apply b7|apply cM)<;>intro hb)|refine Ai Y6 ?_|(apply Ai<;>intro hb))
     all_goals ((have zF:=a3 hst hA (a9 hwk z0 z1 z2 z3 @aj @b8 @bg @List.length_append.{0});refine c7 (k+1) [some b0,some (b0+1056),some q] ?_ ?_))
     all_goals (first|(show n.attrs.length-(k+1)<n.attrs.length-k;omega)|exact hlt|skip)
  ·have hke:k=n.attrs.length:=Y6
   subst hke
   have d1:=pK n.attrs.length n.attrs.length
   have d2:decide (n.attrs.length<n.attrs.length)=false:=aL
   have htk:=iW (xG K r0 n.attrs).1
   (refine xR (a8 d1 d2 htk z0 z1 z2 z3 @aj) trivial ?_)
   all_goals ((have zF:=a9 hM g1 z0 z1 z2 z3 @b8 @bg @aj;refine jW [(q,none),(b0+1,some 0)] [] ho))
def TB (n:Nd)(K:kw)(hn:n.okTo 1000000)(ha16:n.attrs.length<=1000)(q:Nat)(M:ah)(nm:Nat)(hM:M q=some (fE (tI K)))(ho:∀ z,(M z).isSome=true->z∈[q])(hlt:q<nm) :
  Ev cx 58 nm [.agg (aC n),.mp q] M (.tup [.agg (aC (fP K n).1),.bool (fP K n).2]) []:=by
 have h:=(Jr n K hn ha16 q M nm hM ho hlt).eff_eq (eff':=[(nm,some ⟨3,(fP K n).1.attrs.map bi⟩)]) (BU hM _)
 have hMn:M nm=none:=by
  cases h:M nm with
  | none=>rfl
  | some k=>have:=ho nm (by rw[h];rfl);simp at this;omega
 have hpl:=aj (fP K n).1.attrs
 have htk:=iW (fP K n).1.attrs
 refine h.freezeM (fun x hx=>?_) (fun x hx k hk=>?_) ?_ ?_ ?_
 ·simp only[al,Lc,Lo,WW]at hx
  subst hx;exact hMn
 ·rw[WW]at hx;subst hx
  simp only[WO]at hk;subst hk
  exact vE _ (fun _=>rfl) _
 ·simp only[V.flatO,flatOL,al,Lc,Lo,WW,XJ]
  exact⟨⟨rfl,rfl,rfl,trivial,rfl,rfl,trivial⟩,rfl,trivial⟩
 ·simp only[cC,aK,aF,hpl,htk,Lm,au,aH,seval]<;>omega
 ·simp only[cC,aK,aF,aC,hpl,htk,Lm,au,aH,seval]
  exact⟨rfl,rfl,rfl⟩
def FR (y:Nat)(K:kw)(M:ah)(nm:Nat)(hM:M y=some (fE (tI K)))(ho:∀ z,(M z).isSome=true->z∈[y])(hlt:y<nm):Ev cx 55 nm [.mp y] M (.mp nm) [(nm,some (fE (tI K)))] :=
 (Ji y K M nm hM ho hlt).eff_eq (BU hM _)
def Ep (P:Nd->Fo->Prop):Fo->Prop
 | .nil=>True
 | .cons n k r=>P n k/\Ep P r
def uC (l:List Nd)(n:Nd):l.map aC++[[.int .u8 n.kind,.str n.space,.str n.name,.sl false 3 (n.attrs.map bi),.str n.text,.int .i64 n.many]]=(l++[n]).map aC:=by simp[aC]
def Ua (v:List Nd)(ob pb:Nat):V:=.fn 72 [.rp [.sl false 6 (v.map aC)],.ptr ob 0 0,.ptr pb 0 0]
def uL (v:List Nd)(ob pb:Nat)(n:Nd)(k:Fo):Prop :=
  ∀(p:Nat) (sp:ZA) (r:List Nd) (L:List Nd) (lk:Nat) (M:ah) (nm:Nat),v.drop p=n::(k.flat++r)->L.length+k.size+1<=600 ->
    ob≠lk->pb≠lk->M ob=some ⟨1,[[.own lk 0 L.length]]⟩->M lk=some ⟨6,L.map aC⟩->M pb=some ⟨1,[[Ua v ob pb]]⟩->(∀ z,(M z).isSome=true->z∈[ob,lk,pb])->ob<nm->lk<nm->pb<nm ->
    Ev cx 72 nm [.int .i64 p,.str sp,.rp [.sl false 6 (v.map aC)],.ptr ob 0 0,.ptr pb 0 0] M (.int .i64 ((p+1+k.size:Nat):Int))
      [(lk,none),(ob,some ⟨1,[[.own nm 0 (L++(Fo.cons n k .nil).bare sp).length]]⟩),(pb,some ⟨1,[[Ua v ob pb]]⟩),(nm,some ⟨6,(L++(Fo.cons n k .nil).bare sp).map aC⟩)]
def H4 (v:List Nd)(hv:v.length<=512)(ob pb:Nat)(d1:ob≠pb)(n:Nd)(hk:n.kind=2):uL v ob pb n .nil:=by
 intro p sp r L lk M nm hvd hL e1 e2 hob hlk hpb ho l1 l2 l3
 obtain⟨hx,_,hp⟩:=fC hvd
 have hat:=dv hx
 have hpi:=lV p v.length
 have hkb:((n.kind:Int)==2)=true:=by rw[hk];rfl
 have hres:(Fo.cons n .nil .nil).bare sp=[n]:=by simp[Fo.bare,hk]
 have hw1:=eX p
 rw[hres]
 simp only[Fo.size,Nat.add_zero]at hL ⊢
 have hsn:=uC L n
 have hll:(L++[n]).length=L.length+1:=by simp
 rw[hll]
 have g1:(nm=ob)=False:=IT Y6;have g2:(nm=pb)=False:=IT Y6
 unfold Ua at hpb ⊢
 have n1:=IT d1;have n2:=IT e1;have n3:=IT e2;have n4:=IT (WU d1);have n5:=IT (WU e1);have n6:=IT (WU e2)
 refine aG call72 func72 results72 ntmps72 ?_;intro b0 hb0 zN
 have k1:=aq hb0 hob
 have k2:=aq hb0 hlk
 have k3:=aq hb0 hpb
 have z0:=aE k1;have z1:=ak k1;have z2:=ay k1;have z3:=ae k1
 have y0:=aE k2;have y1:=ak k2;have y2:=ay k2;have y3:=ae k2
 have x0:=aE k3;have x1:=ak k3;have x2:=ay k3;have x3:=ae k3
 repeat' first|simp only[results72,ntmps72,aF,hat,aC,hkb,hp,hob,hlk,hw1,hsn,n2,z1,y1,Lm,au,aH,seval] | refine Ai Y6 ?_
 all_goals ((refine Fin.give [(ob,none),(pb,none),(b0+208,some 0)] [lk] ?_ ?_ ?_ ?_ ?_ (bc ho (by simp[ba,tgt]))<;>(try simp only[aF,hob,hpb,g1,g2,aa,n1,n2,n3,n4,z1,z3,y3,x1,x3,No,hH,au,seval])<;>(try simp only[aB])<;>(try omega)))
def Fo.cnt_size:∀(F:Fo),F.count<=F.size
 | .nil=>IS _
 | .cons _ k r=>by have:=r.cnt_size;simp only[Fo.count,Fo.size];omega
def Fo.bare_len:∀(F:Fo) (sp:ZA),(F.bare sp).length<=F.size
 | .nil,_=>IS _
 | .cons n k r,sp=>by
  have h1:=k.bare_len n.space;have h2:=r.bare_len sp
  simp only[Fo.bare,Fo.size,List.length_append]
  split
  ·simp only[List.length_cons,List.length_nil];omega
  ·simp only[List.length_cons];omega
structure BrSt where
 R:Fo
 c:Nat
 q:Nat
 L:List Nd
def H2 (v:List Nd)(hv:v.length<=512)(ob pb:Nat)(d1:ob≠pb)(n:Nd)(k:Fo)(hn:n.okTo 1000000)(ha16:n.attrs.length<=16)(hk:n.kind≠2)(hm:n.many=(k.count:Int))(ih:Ep (uL v ob pb) k):uL v ob pb n k:=by
 intro p sp r L lk M nm hvd hL e1 e2 hob hlk hpb ho l1 l2 l3
 obtain⟨hx,hvd1,hp⟩:=fC hvd
 have hat:=dv hx
 have hpi:=lV p v.length
 have hkb:((n.kind:Int)==2)=false:=If Y6
 have hres:(Fo.cons n k .nil).bare sp=eu n sp::k.bare n.space:=by simp[Fo.bare,hk]
 have hw1:=eX p
 have htd:=fun nm=>RA n sp ha16 (fun a ha=>(hn.2.2.2.2 a ha).2.1) nm
 rw[hres]
 have hsn:=uC L (eu n sp)
 have hll:(L++[eu n sp]).length=L.length+1:=by simp
 unfold Ua at hpb ⊢
 have n1:=IT d1;have n2:=IT e1;have n3:=IT e2;have n4:=IT (WU d1);have n5:=IT (WU e1);have n6:=IT (WU e2)
 unfold aC at htd
 refine aG call72 func72 results72 ntmps72 ?_;intro b0 hb0 zN
 have k1:=aq hb0 hob
 have k2:=aq hb0 hlk
 have k3:=aq hb0 hpb
 have z0:=aE k1;have z1:=ak k1;have z2:=ay k1;have z3:=ae k1
 have y0:=aE k2;have y1:=ak k2;have y2:=ay k2;have y3:=ae k2
 have x0:=aE k3;have x1:=ak k3;have x2:=ay k3;have x3:=ae k3
 repeat' first|simp only[aF,hat,aC,hkb,hp,hob,hlk,hw1,hsn,n2,z1,z3,y1,y3,Lm,au,aH,seval]|refine ad ?_ (htd _) ?_|refine qf [(0,3),(0,4)] ?_ | refine Ai Y6 ?_
 have g1:(nm=ob)=False:=IT Y6;have g2:(nm=pb)=False:=IT Y6
 (refine v8 (fun x:BrSt=>x.R.size) (fun x=>Ep (uL v ob pb) x.R/\x.c+x.R.count=k.count/\(∃ r',v.drop x.q=x.R.flat++r')/\x.q+x.R.size=p+1+k.size/\x.L++x.R.bare n.space=L++eu n sp::k.bare n.space/\x.L.length+x.R.size<=600) (b0+16) (fun x=>[(4,.ptr pb 0 0),(8,.ptr b0 0 0),(9,.int .i64 x.q),(32,.int .i64 k.count),(33,.int .i64 x.c)]) (fun x=>[(b0,⟨6,[aC n]⟩),(ob,⟨1,[[.own (b0+1) 0 x.L.length]]⟩),(b0+1,⟨6,x.L.map aC⟩),(pb,⟨1,[[.fn 72 [.rp [.sl false 6 (v.map aC)],.ptr ob 0 0,.ptr pb 0 0]]]⟩)]) (⟨k,0,p+1,L++[eu n sp]⟩) [some (b0+80),some ob,some (b0+240),some pb] ?_ ?_ ?_;(focus (refine⟨?_,?_⟩<;>(try simp only[bL,hll,hm,aC,hob,hpb,aa,aj,n1,n2,n3,n4,z0,z1,z3,y3,x0,x1,x3,No,Wm,au,aB,seval])<;>(try omega))))
 ·exact⟨ih,We _,⟨r,hvd1⟩,rfl,by simp,by simp only[hll];omega⟩
 ·rintro ⟨R,c,q,Lx⟩ ⟨i1,i2,⟨r',i3⟩,i4,i5,i6⟩
  dsimp only at i1 i2 i3 i4 i5 i6 ⊢
  cases R with
  | nil =>
   simp only[Fo.size,Fo.count,Nat.add_zero]at i4 i2
   subst i4;subst i2
   simp only[Fo.bare,WR]at i5
   rw[<- i5]
   have q1:=pK k.count k.count
   have q2:decide (k.count<k.count)=false:=aL
   repeat' first|simp only[results72,ntmps72,aF,au,seval]
   all_goals ((refine Fin.give [(ob,none),(pb,none),(b0+1,some 0)] [lk] ?_ ?_ ?_ ?_ ?_ (bc ho (by simp[ba,tgt]))<;>(try simp only[aF,hob,hpb,g1,g2,aa,n1,n4,z0,z1,z3,x0,x1,x3,No,hH,au,seval])<;>(try simp only[aB])<;>(try omega)))
  | cons u2 j2 R2 =>
   obtain⟨hp2,hr2⟩:=i1
   have hd2:v.drop q=u2::(j2.flat++(R2.flat++r')):=by rw[i3];simp[Fo.flat]
   have hb2:(Fo.cons u2 j2 R2).bare n.space=(Fo.cons u2 j2 .nil).bare n.space++R2.bare n.space:=by simp[Fo.bare]
   rw[hb2,<- WV]at i5
   simp only[Fo.size,Fo.count]at i4 i2 i6
   have q1:=AW c k.count
   have q2:decide (c<k.count)=true:=bz
   have hcs:=k.cnt_size
   have hwc:=eX c
   have hcall:=fun (M':ah) a1 a2 a3 a4 (m:Nat) l1 l2 l3=>hp2 q n.space (R2.flat++r') Lx (b0+1) M' m hd2 Y6 Y6 Y6 a1 a2 a3 a4 l1 l2 l3
   unfold Ua at hcall
   have hd3:v.drop (q+1+j2.size)=R2.flat++r':=by
    have:=oY (v:=v) (p:=q) (a:=u2::j2.flat) (r:=R2.flat++r') (by rw[hd2];simp)
    rw[List.length_cons,Fo.flat_length]at this
    rw[show q+1+j2.size=q+(j2.size+1) by omega];exact this
   have hTl:(Lx++(Fo.cons u2 j2 .nil).bare n.space).length+R2.size<=600:=by
    have:=Fo.bare_len (.cons u2 j2 .nil) n.space
    simp only[Fo.size]at this
    rw[List.length_append];omega
   generalize hT:Lx++(Fo.cons u2 j2 .nil).bare n.space=T at hcall i5 hTl
   repeat' first|simp only[aK,aF,q2,aC,aD,n1,n4,z0,z1,z2,z3,x0,x1,x2,x3,au,aH,seval]|exact rfl|((refine cL (caps:=?_) ?_ ?_ [ob,b0+1,pb] (hcall _ ?_ ?_ ?_ ac _ Y6 Y6 Y6) ?_ ?_);rotate_left 1)
   all_goals ((refine pX (BrSt.mk R2 (c+1) (q+1+j2.size) T) [some b0,some ob,some (b0+96),some pb] ?_ ?_ ?_;(focus (refine⟨?_,?_⟩<;>(try simp only[bL,hwc,aa,aj,n1,n4,z0,z1,z2,z3,x0,x1,x2,x3,No,Wm,au,aB,seval])<;>(try omega)))))
   all_goals (first|(show R2.size<j2.size+R2.size+1;omega)|exact⟨hr2,by show c+1+R2.count=_;omega,⟨r',hd3⟩,by show q+1+j2.size+R2.size=_;omega,i5,hTl⟩ )
def u9 (v:List Nd)(hv:v.length<=512)(hok:∀ n∈v,n.okTo 1000000/\n.i64)(ob pb:Nat)(d1:ob≠pb):∀(F:Fo) (d last:Nat),F.good d last=true->(∀ n∈F.flat,n∈v)->Ep (uL v ob pb) F
 | .nil,_,_,_,_=>trivial
 | .cons n k r,d,last,h,hin=>by
  obtain⟨h1,h2,h3,h4,h5,h6⟩:=Fo.good_cons.1 h
  have hno:=hok n (hin n (by simp[Fo.flat]))
  refine⟨?_,u9 v hv hok ob pb d1 r d n.kind h6 (fun x hx=>hin x (by simp[Fo.flat,hx]))⟩
  by_cases hk:n.kind=2
  ·have:=Fo.text_leaf h hk
   subst this
   exact H4 v hv ob pb d1 n hk
  ·exact H2 v hv ob pb d1 n k hno.1 (ia h1).1 hk h2 (u9 v hv hok ob pb d1 k (d-1) 1 h5 (fun x hx=>hin x (by simp[Fo.flat,hx])))
def apart {a b:Nat}(h:a≠b):((a=b)=False)/\((b=a)=False):=⟨IT h,IT (WU h)⟩
def under {a b0:Nat}(h:a<b0):((a=b0)=False)/\(∀ c,(a=b0+c)=False)/\((b0=a)=False)/\(∀ c,(b0+c=a)=False):=⟨aE h,ak h,ay h,ae h⟩
def Da {K:kw}{r:Bool}{l:List At}{k:Nat}{a:At}(h:l[k]? = some a):iy K r (l.take (k+1))=C9 (iy K r (l.take k)) a:=by
 obtain⟨hk,rfl⟩:=AS.1 h
 unfold iy
 rw[WF hk,Yi];rfl
def vT:∀(l:List At) (K:kw) (b r:Bool),l.foldl C9 (K,b&&r)=((l.foldl C9 (K,r)).1,b&&(l.foldl C9 (K,r)).2)
 | [],_,_,_=>rfl
 | a::l,K,b,r=>by
  rw[List.foldl_cons,List.foldl_cons]
  unfold C9
  cases dp a.name with
  | none=>exact vT l K b r
  | some p=>simp only;rw[YT];exact vT l _ b _
def R1 (K:kw)(b:Bool)(l:List At):iy K b l=((iy K true l).1,b&&(iy K true l).2):=by
 have:=vT l K b true
 rwa[Wz]at this
def Ue (v:List Nd)(ob rb pb:Nat):V:=.fn 54 [.rp [.sl false 6 (v.map aC)],.ptr ob 0 0,.ptr rb 0 0,.ptr pb 0 0]
def BJ (v:List Nd)(ob rb pb:Nat)(n:Nd)(k:Fo):Prop :=
  ∀(p:Nat) (K:kw) (r:List Nd) (L:List Nd) (b:Bool) (lk mk:Nat) (M:ah) (nm:Nat),v.drop p=n::(k.flat++r)->L.length+k.size+1<=600 ->
    ob≠lk->rb≠lk->pb≠lk->mk≠lk->mk≠ob->mk≠rb->mk≠pb->M mk=some (fE (tI K))->M rb=some ⟨1,[[.bool b]]⟩->M ob=some ⟨1,[[.own lk 0 L.length]]⟩->M lk=some ⟨6,L.map aC⟩->M pb=some ⟨1,[[Ue v ob rb pb]]⟩ ->
    (∀ z,(M z).isSome=true->z∈[mk,rb,ob,lk,pb])->mk<nm->rb<nm->ob<nm->lk<nm->pb<nm ->
    Ev cx 54 nm [.int .i64 p,.mp mk,.rp [.sl false 6 (v.map aC)],.ptr ob 0 0,.ptr rb 0 0,.ptr pb 0 0] M (.int .i64 ((p+1+k.size:Nat):Int))
      [(lk,none),(mk,some (fE (tI K))),(rb,some ⟨1,[[.bool (b&&((Fo.cons n k .nil).res K).2)]]⟩),(ob,some ⟨1,[[.own nm 0 (L++((Fo.cons n k .nil).res K).1).length]]⟩),(pb,some ⟨1,[[Ue v ob rb pb]]⟩),(nm,some ⟨6,(L++((Fo.cons n k .nil).res K).1).map aC⟩)]
def Oa (v:List Nd)(hv:v.length<=512)(ob rb pb:Nat)(d1:ob≠pb)(d2:ob≠rb)(d3:rb≠pb)(n:Nd)(hk:n.kind=2):BJ v ob rb pb n .nil:=by
 intro p K r L b lk mk M nm hvd hL e1 e2 e3 e4 e5 e6 e7 hmk hrb hob hlk hpb ho l1 l2 l3 l4 l5
 obtain⟨hx,_,hp⟩:=fC hvd
 have hat:=dv hx
 have hpi:=lV p v.length
 have hkb:((n.kind:Int)==2)=true:=by rw[hk];rfl
 have hres:(Fo.cons n .nil .nil).res K=([n],true):=by simp[Fo.res,hk]
 have hw1:=eX p
 rw[hres]
 simp only[Fo.size,Nat.add_zero,Wz]at hL ⊢
 have hsn:=uC L n
 have hll:(L++[n]).length=L.length+1:=by simp
 rw[hll]
 have G:=Ai (apart (show nm≠ob by omega)) (Ai (apart (show nm≠pb by omega)) (Ai (apart (show nm≠rb by omega)) (apart (show nm≠mk by omega))))
 unfold Ue at hpb ⊢
 have Z:=Ai (apart d1) (Ai (apart d2) (Ai (apart d3) (Ai (apart e1) (Ai (apart e2) (Ai (apart e3) (Ai (apart e4) (Ai (apart e5) (Ai (apart e6) (apart e7)))))))))
 refine aG call54 func54 results54 ntmps54 ?_;intro b0 hb0 zN
 have U:=Ai (under (ga hb0 (by rw[hob];rfl))) (Ai (under (ga hb0 (by rw[hlk];rfl))) (Ai (under (ga hb0 (by rw[hpb];rfl))) (Ai (under (ga hb0 (by rw[hrb];rfl))) (under (ga hb0 (by rw[hmk];rfl))))))
 (refine xR (a9 hat @aC.eq_1 hkb hp hpi hob hlk hpb (a9 hrb hmk hw1 hsn @qG @aa @aj Z U)) trivial ?_)
 all_goals ((have zF:=a3 hob hlk (a9 hpb hrb hmk G Z U @aa @b8 @bg);refine jW [(mk,none),(rb,none),(ob,none),(pb,none),(b0+208,some 0)] [lk] ho))
structure ReSt where
 R:Fo
 c:Nat
 q:Nat
 L:List Nd
 b:Bool
def Fo.res_len:∀(F:Fo) (K:kw),(F.res K).1.length<=F.size
 | .nil,_=>IS _
 | .cons n k r,K=>by
  have h1:=k.res_len (iy K true n.attrs).1;have h2:=r.res_len K
  simp only[Fo.res,Fo.size]
  split
  ·simp only[List.length_cons];omega
  ·simp only[List.length_cons,List.length_append];omega
def N8 (v:List Nd)(hv:v.length<=512)(ob rb pb:Nat)(d1:ob≠pb)(d2:ob≠rb)(d3:rb≠pb)(n:Nd)(k:Fo)(hn:n.okTo 1000000)(ha16:n.attrs.length<=16)(hk:n.kind≠2)(hm:n.many=(k.count:Int))(ih:Ep (BJ v ob rb pb) k):BJ v ob rb pb n k:=by
 intro p K r L b lk mk M nm hvd hL e1 e2 e3 e4 e5 e6 e7 hmk hrb hob hlk hpb ho l1 l2 l3 l4 l5
 obtain⟨hx,hvd1,hp⟩:=fC hvd
 have hat:=dv hx
 have hpi:=lV p v.length
 have hkb:((n.kind:Int)==2)=false:=If Y6
 have hw1:=eX p
 have hrF:(b&&((Fo.cons n k .nil).res K).2)=(((iy K b n.attrs).2&&(fP (iy K b n.attrs).1 n).2)&&(k.res (iy K b n.attrs).1).2):=by rw[R1];simp[Fo.res,hk,YT]
 have hrT:((Fo.cons n k .nil).res K).1=(fP (iy K b n.attrs).1 n).1::(k.res (iy K b n.attrs).1).1:=by rw[R1];simp[Fo.res,hk]
 rw[hrF,hrT]
 clear hrF hrT
 have hcs:=k.cnt_size
 have G:=Ai (apart (show nm≠ob by omega)) (Ai (apart (show nm≠pb by omega)) (Ai (apart (show nm≠rb by omega)) (apart (show nm≠mk by omega))))
 unfold Ue at hpb ⊢
 have Z:=Ai (apart d1) (Ai (apart d2) (Ai (apart d3) (Ai (apart e1) (Ai (apart e2) (Ai (apart e3) (Ai (apart e4) (Ai (apart e5) (Ai (apart e6) (apart e7)))))))))
 refine aG call54 func54 results54 ntmps54 ?_;intro b0 hb0 zN
 have U:=Ai (under (ga hb0 (by rw[hob];rfl))) (Ai (under (ga hb0 (by rw[hlk];rfl))) (Ai (under (ga hb0 (by rw[hpb];rfl))) (Ai (under (ga hb0 (by rw[hrb];rfl))) (under (ga hb0 (by rw[hmk];rfl))))))
 have k5:=aq hb0 hmk
 have k1:=aq hb0 hob
 have k2:=aq hb0 hrb
 have k3:=aq hb0 hpb
 have k4:=aq hb0 hlk
 (have zF:=a8 hat @aC.eq_1 hkb hp hpi hob hlk (a9 hpb hrb hmk @qG @aa @aj Z U @aD);repeat' first|refine wS ?_ | refine ab wM [mk] (FR _ K _ _ wM ac Y6) wM ?_)
 (have zF:=a6 @aC.eq_1 hob hlk hpb hrb (a9 hmk @iy.eq_1 @aa @aj @b8 @bg @am Z U);refine fu (fun x:Nat=>n.attrs.length-x) (fun x=>x<=n.attrs.length) (b0+16) (fun x=>[(0,.int .i64 p),(1,.mp (b0+1)),(3,.ptr ob 0 0),(4,.ptr rb 0 0),(5,.ptr pb 0 0),(9,.ptr b0 0 0),(33,.sl false 3 (n.attrs.map bi)),(34,.int .i64 n.attrs.length),(35,.int .i64 x)]) (fun x=>[(b0,⟨6,[aC n]⟩),(b0+1,fE (tI (iy K b (n.attrs.take x)).1)),(rb,⟨1,[[.bool (iy K b (n.attrs.take x)).2]]⟩),(ob,⟨1,[[.own lk 0 L.length]]⟩),(lk,⟨6,L.map aC⟩),(pb,⟨1,[[.fn 54 [.rp [.sl false 6 (v.map aC)],.ptr ob 0 0,.ptr rb 0 0,.ptr pb 0 0]]]⟩),(mk,fE (tI K))]) (0) [some (b0+80),some (b0+176),some rb,some ob,some lk,some pb,some mk] ?_ ?_)
 ·exact WB _
 ·intro i hi
  by_cases hlt:i<n.attrs.length
  ·obtain⟨a,ha⟩:=js hlt
   have haa:=iG ha
   have hok:=hn.2.2.2.2 a (By ha)
   have q1:=AW i n.attrs.length
   have q2:=AI hlt
   have hwk:=eX i
   have hst:=Da (K:=K) (r:=b) ha
   have hde:=fun nm=>tC a (by have:=hok.2.1;unfold aN;omega) nm
   rw[Cl]at hde
   unfold bi at hde
   generalize hA:iy K b (n.attrs.take i)=acc at hst
   obtain⟨K2,b2⟩:=acc
   unfold C9 at hst
   cases hd:dp a.name with
   | none =>
    rw[hd]at hst hde
    (refine xR (a3 haa @bi.eq_1 (a9 hlt q1 q2 hwk hA Z U @aa @aj)) hde ?_)
    all_goals ((have zF:=a3 hst hA (a9 hwk @aC.eq_1 Z U @aa @aj @b8 @bg @am);refine c7 (i+1) [some b0,some (b0+1),some rb,some ob,some lk,some pb,some mk] ?_ ?_))
    all_goals (first|(show n.attrs.length-(i+1)<n.attrs.length-i;omega)|exact hlt)
   | some pf =>
    rw[hd]at hst hde
    simp only at hst
    have hmy:=fun nm=>QO pf a.value nm
    generalize Dk pf a.value=my at hst hmy
    (have zF:=a3 haa @bi.eq_1 (a9 hlt q1 q2 hwk hA Z U @aa @aj);have cF:=a2 hde hmy;repeat' first|refine wS ?_|(refine KZ (b0+1) K2 (p:=?_) (v:=?_) ?_ ?_ ?_ ?_ ?_;rotate_left 2;iterate 4 (focus (simp only[zF,aF,au,seval]<;>exact rfl))))
    all_goals ((have zF:=a3 hst hA (a9 hwk @aC.eq_1 Z U @aa @aj @b8 @bg @am);refine c7 (i+1) [some b0,some (b0+1),some rb,some ob,some lk,some pb,some mk] ?_ ?_))
    all_goals (first|(show n.attrs.length-(i+1)<n.attrs.length-i;omega)|exact hlt)
  ·have hie:i=n.attrs.length:=Y6
   subst hie
   have q1:=pK n.attrs.length n.attrs.length
   have q2:decide (n.attrs.length<n.attrs.length)=false:=aL
   simp only[WJ]
   generalize iy K b n.attrs=KB
   obtain⟨K2,b1⟩:=KB
   have hnm:=fun (M':ah) (m:Nat) h1 h2 h3=>TB n K2 hn Y6 (b0+1) M' m h1 h2 h3
   generalize fP K2 n=N at hnm ⊢
   obtain⟨n1,b2⟩:=N
   dsimp only at hnm ⊢
   have hsn:=uC L n1
   have hll:(L++[n1]).length=L.length+1:=by simp
   unfold aC at hnm
   (have zF:=a3 q1 q2 (a9 @aC.eq_1 hw1 hm hsn @qG @aa @aj Z U);repeat' first|refine wS ?_ | refine ab wM [b0+1] (hnm _ _ wM ac Y6) wM ?_ | refine Ai Y6 ?_)
   (have zF:=a9 hll @aC.eq_1 @aa @aj @b8 @bg @am Z U;refine fu (fun x:ReSt=>x.R.size) (fun x=>Ep (BJ v ob rb pb) x.R/\x.c+x.R.count=k.count/\(∃ r',v.drop x.q=x.R.flat++r')/\x.q+x.R.size=p+1+k.size/\x.L++(x.R.res K2).1=L++n1::(k.res K2).1/\x.L.length+x.R.size<=600/\(x.b&&(x.R.res K2).2)=((b1&&b2)&&(k.res K2).2)) (b0+16) (fun x=>[(1,.mp b0),(5,.ptr pb 0 0),(16,.int .i64 x.q),(75,.int .i64 k.count),(76,.int .i64 x.c)]) (fun x=>[(b0,fE (tI K2)),(rb,⟨1,[[.bool x.b]]⟩),(ob,⟨1,[[.own (b0+1) 0 x.L.length]]⟩),(b0+1,⟨6,x.L.map aC⟩),(pb,⟨1,[[.fn 54 [.rp [.sl false 6 (v.map aC)],.ptr ob 0 0,.ptr rb 0 0,.ptr pb 0 0]]]⟩),(mk,fE (tI K))]) (⟨k,0,p+1,L++[n1],b1&&b2⟩) [some (b0+1),some rb,some ob,some (b0+288),some pb,some mk] ?_ ?_)
   ·exact⟨ih,We _,⟨r,hvd1⟩,rfl,by simp,by simp only[hll];omega,rfl⟩
   ·rintro ⟨R,c,q,Lx,bx⟩ ⟨i1,i2,⟨r',i3⟩,i4,i5,i6,i7⟩
    dsimp only at i1 i2 i3 i4 i5 i6 i7 ⊢
    cases R with
    | nil =>
     simp only[Fo.size,Fo.count,Nat.add_zero]at i4 i2
     subst i4;subst i2
     simp only[Fo.res,WR,Wz]at i5 i7
     rw[<- i5,<- i7]
     have q1:=pK k.count k.count
     have q2:decide (k.count<k.count)=false:=aL
     (refine xR (a6 q1 q2 @aa @aj Z U) trivial ?_)
     all_goals ((have zF:=a3 hob hlk (a9 hpb hrb hmk G Z U @aa @b8 @bg);refine jW [(mk,none),(rb,none),(ob,none),(pb,none),(b0+1,some 0)] [lk] ho))
    | cons u2 j2 R2 =>
     obtain⟨hp2,hr2⟩:=i1
     have hd2:v.drop q=u2::(j2.flat++(R2.flat++r')):=by rw[i3];simp[Fo.flat]
     have hb2:((Fo.cons u2 j2 R2).res K2).1=((Fo.cons u2 j2 .nil).res K2).1++(R2.res K2).1:=by
      simp only[Fo.res]
      split<;>simp
     have hb3:((Fo.cons u2 j2 R2).res K2).2=(((Fo.cons u2 j2 .nil).res K2).2&&(R2.res K2).2):=by
      simp only[Fo.res]
      split<;>simp
     rw[hb2,<- WV]at i5
     rw[hb3,<- YT]at i7
     simp only[Fo.size,Fo.count]at i4 i2 i6
     have q1:=AW c k.count
     have q2:decide (c<k.count)=true:=bz
     have hwc:=eX c
     have hcall:=fun (M':ah) a0 a1 a2 a3 a4 a5 (m:Nat) l1 l2 l3 l4 l5=>hp2 q K2 (R2.flat++r') Lx bx (b0+1) b0 M' m hd2 Y6 Y6 Y6 Y6 Y6 Y6 Y6 Y6 a0 a1 a2 a3 a4 a5 l1 l2 l3 l4 l5
     unfold Ue at hcall
     have hd3:v.drop (q+1+j2.size)=R2.flat++r':=by
      have:=oY (v:=v) (p:=q) (a:=u2::j2.flat) (r:=R2.flat++r') (by rw[hd2];simp)
      rw[List.length_cons,Fo.flat_length]at this
      rw[show q+1+j2.size=q+(j2.size+1) by omega];exact this
     have hTl:(Lx++((Fo.cons u2 j2 .nil).res K2).1).length+R2.size<=600:=by
      have:=Fo.res_len (.cons u2 j2 .nil) K2
      simp only[Fo.size]at this
      rw[List.length_append];omega
     generalize hT:Lx++((Fo.cons u2 j2 .nil).res K2).1=T at hcall i5 hTl
     generalize hS:(bx&&((Fo.cons u2 j2 .nil).res K2).2)=S2 at hcall i7
     repeat' first|simp only[aK,aF,q2,aD,Z,U,au,aH,seval]|exact rfl|((refine cL (caps:=?_) ?_ ?_ [b0,rb,ob,b0+1,pb] (hcall _ ?_ ?_ ?_ ?_ ?_ ac _ Y6 Y6 Y6 Y6 Y6) ?_ ?_);rotate_left 1)
     all_goals ((have zF:=a9 hwc @aC.eq_1 Z U @aa @aj @b8 @bg @am;refine c7 (ReSt.mk R2 (c+1) (q+1+j2.size) T S2) [some b0,some rb,some ob,some (b0+80),some pb,some mk] ?_ ?_))
     all_goals (first|(show R2.size<j2.size+R2.size+1;omega)|exact⟨hr2,by show c+1+R2.count=_;omega,⟨r',hd3⟩,by show q+1+j2.size+R2.size=_;omega,i5,hTl,i7⟩ )
def Bp (v:List Nd)(hv:v.length<=512)(hok:∀ n∈v,n.okTo 1000000/\n.i64)(ob rb pb:Nat)(d1:ob≠pb)(d2:ob≠rb)(d3:rb≠pb):∀(F:Fo) (d last:Nat),F.good d last=true->(∀ n∈F.flat,n∈v)->Ep (BJ v ob rb pb) F
 | .nil,_,_,_,_=>trivial
 | .cons n k r,d,last,h,hin=>by
  obtain⟨h1,h2,h3,h4,h5,h6⟩:=Fo.good_cons.1 h
  have hno:=hok n (hin n (by simp[Fo.flat]))
  refine⟨?_,Bp v hv hok ob rb pb d1 d2 d3 r d n.kind h6 (fun x hx=>hin x (by simp[Fo.flat,hx]))⟩
  by_cases hk:n.kind=2
  ·have:=Fo.text_leaf h hk
   subst this
   exact Oa v hv ob rb pb d1 d2 d3 n hk
  ·exact N8 v hv ob rb pb d1 d2 d3 n k hno.1 (ia h1).1 hk h2 (Bp v hv hok ob rb pb d1 d2 d3 k (d-1) 1 h5 (fun x hx=>hin x (by simp[Fo.flat,hx])))
def Uf (n:Nd):Bool:=decide (16<n.attrs.length)
def LN (v:List Nd)(sp:ZA)(hv:v.length<=aN)(hok:∀ n∈v,n.okTo aN/\n.i64)(hs:sp.length<=aN)(h:dO v≠0\/az sp≠0\/dY sp=true)(nm:Nat) :
  Ev cx 33 nm [.sl false 6 (v.map aC),.str sp] ah.nil (.tup [.nils,.int .i64 (if dO v≠0 then dO v else 8)]) []:=by
 have hc:=yy v hv hok
 have ht:=dD sp hs
 have hg:=rl sp
 by_cases h1:dO v=0
 ·have e1:(dO v != 0)=false:=by rw[h1];rfl
  rw[if_neg (by simpa using h1)]
  by_cases h2:az sp=0
  ·have e2:(az sp != 0)=false:=by rw[h2];rfl
   have h3:dY sp=true:=by rcases h with h|h|h;exact absurd h1 h;exact absurd h2 h;exact h
   rw[h3]at hg
   refine aG call33 func33 results33 ntmps33 ?_;intro b0 hb0 zN
   (have zF:=a3 e1 e2 @aa;have cF:=a2 ht hg;repeat' first|refine wS ?_|exact wE|refine bl [b0] wM wF wF rfl (hc _) ?_|((first|apply b7|apply cM)<;>intro hb)|refine Ai Y6 ?_|(apply Ai<;>intro hb)|apply Fin.pure|simp only[aB])
  ·have e2:(az sp != 0)=true:=by simpa using h2
   refine aG call33 func33 results33 ntmps33 ?_;intro b0 hb0 zN
   (have zF:=a3 e1 e2 @aa;have cF:=a2 ht hg;repeat' first|refine wS ?_|exact wE|refine bl [b0] wM wF wF rfl (hc _) ?_|((first|apply b7|apply cM)<;>intro hb)|refine Ai Y6 ?_|(apply Ai<;>intro hb)|apply Fin.pure|simp only[aB])
 ·have e1:(dO v != 0)=true:=by simpa using h1
  rw[if_pos h1]
  refine aG call33 func33 results33 ntmps33 ?_;intro b0 hb0 zN
  (have zF:=a2 e1 @aa;repeat' first|refine wS ?_|exact wE|refine bl [b0] wM wF wF rfl (hc _) ?_|((first|apply b7|apply cM)<;>intro hb)|refine Ai Y6 ?_|(apply Ai<;>intro hb)|apply Fin.pure|simp only[aB])
def H3 (n:Nd)(k:Fo)(sp:ZA)(hk1:n.kind=1)(hg:(Fo.cons n k .nil).good 12 0=true)(hl:k.size+1<=512)(hok:∀ x∈n::k.flat,x.okTo 1000000/\x.i64)(hs:sp.length<=aN)(hc0:dO (n::k.flat)=0)(ht0:az sp=0)(hg0:dY sp=false)(r:V)(eff:List (Nat×Option Blk))(nm:Nat)
  (hr:(nG ((Fo.cons n k .nil).bare sp)=true/\r = .tup [.nils,.int .i64 4]/\eff=[])\/(nG ((Fo.cons n k .nil).bare sp)=false/\r = .tup [.own nm 0 ((Fo.cons n k .nil).bare sp).length,.int .i64 0]/\eff=[(nm,some ⟨6,((Fo.cons n k .nil).bare sp).map aC⟩)])) :
  Ev cx 33 nm [.sl false 6 ((n::k.flat).map aC),.str sp] ah.nil r eff:=by
 have hlen:(n::k.flat).length<=512:=by simp[Fo.flat_length];omega
 have hc:=yy (n::k.flat) (by unfold aN;omega) (fun x hx=>⟨fF (hok x hx).1 ZI,(hok x hx).2⟩)
 have ht:=dD sp hs
 have hgv:=rl sp
 rw[hc0]at hc;rw[ht0]at ht;rw[hg0]at hgv
 have hbl:=Fo.bare_len (.cons n k .nil) sp
 simp only[Fo.size]at hbl
 have hcall:=fun (ob pb lk:Nat) (d1:ob≠pb) (M:ah) (m:Nat) e1 e2 a1 a2 a3 a4 l1 l2 l3=>(u9 (n::k.flat) hlen hok ob pb d1 (.cons n k .nil) 12 0 hg (fun x hx=>by simpa [Fo.flat] using hx)).1 0 sp [] [] lk M m ZH ZK e1 e2 a1 a2 a3 a4 l1 l2 l3
 have hcon:=fun (L:List Nd) (hL:L.length<=aN) nm=>jq L 74 [] Uf (fun x _ nm=>LL x nm) hL rfl nm
 simp only[List.nil_append,List.length_nil,Lo]at hcall
 unfold Ua at hcall
 generalize (Fo.cons n k .nil).bare sp=T at hcall hr hbl
 generalize n::k.flat=v at hc hcall ⊢
 have hcon:=hcon T (by unfold aN;omega)
 have hcw:(T.any Uf)=nG T:=rfl
 rw[hcw]at hcon
 have htt:(T.map aC).take T.length=T.map aC:=bF _ _
 refine mW rfl call33 func33 rfl mixed (by kernel_rfl) rfl ?_;intro b0 hb0;have zN:=Ai results33 ntmps33
 (refine xR trivial trivial ?_)
 (refine kR qc (b0+16) ([(1,.str sp),(2,.rp [.sl false 6 (v.map aC)]),(4,.ptr b0 0 0)]) ([(b0,⟨1,[[.nils]]⟩)]) [some (b0+16)] ?_ ?_ ?_;(focus (show b0<=_;omega));(focus (refine⟨?_,?_⟩<;>(try simp only[bL,kD,aa,am,aS,au,aH,aB,seval])<;>(try omega))))
 (refine xR @aa hc ?_)
 refine eI ?_
 (refine xR @aa (a2 ht hgv) ?_)
 refine eI ?_
 (refine xR @aa trivial ?_)
 refine eI ?_
 (refine xR @aa trivial ?_)
 (refine nb qc (b0+16) ([(1,.str sp),(4,.ptr b0 0 0),(7,.ptr (b0+1) 0 0)]) ([(b0,⟨1,[[.own (b0+2) 0 0]]⟩),(b0+1,⟨1,[[.fn 72 [.rp [.sl false 6 (v.map aC)],.ptr b0 0 0,.ptr (b0+1) 0 0]]]⟩),(b0+2,⟨6,[]⟩)]) [some b0,some (b0+208),none] ?_ ?_ ?_;(focus (show b0<=_;omega));(focus (refine⟨?_,?_⟩<;>(try simp only[bL,aa,am,aS,No,Wm,Wy,Lm,au,aH,aB,seval])<;>(try omega))))
 cases hw:nG T with
 | true =>
  have hre:r = .tup [.nils,.int .i64 4]/\eff=[]:=by
   rcases hr with ⟨_,h⟩|⟨h,_⟩
   ·exact h
   ·rw[hw]at h;cases h
  obtain⟨rfl,rfl⟩:=hre
  rw[hw]at hcon
  repeat' first|simp only[cC,aK,results33,ntmps33,aF,htt,aa,aD,Lm,au,aH,seval]|exact rfl|refine ao (v:=.any) ?_|((refine bl (xs:=?_) [b0,b0+48] ?_ ?_ ?_ rfl (hcon _) ?_);rotate_left 1)|((refine cL (caps:=?_) ?_ ?_ [b0,b0+2,b0+1] (hcall b0 (b0+1) (b0+2) Y6 _ _ Y6 Y6 ?_ ?_ ?_ ac Y6 Y6 Y6) ?_ ?_);rotate_left 1)|refine eI ?_|omega|((first|apply b7|apply cM)<;>intro hb)|refine Ai Y6 ?_|(apply Ai<;>intro hb)
  all_goals ((apply Fin.pure<;>simp only[aF,aa,results33,ntmps33,au,aH,seval]))
 | false =>
  have hre:r = .tup [.own nm 0 T.length,.int .i64 0]/\eff=[(nm,some ⟨6,T.map aC⟩)]:=by
   rcases hr with ⟨h,_⟩|⟨_,h⟩
   ·rw[hw]at h;cases h
   ·exact h
  obtain⟨rfl,rfl⟩:=hre
  rw[hw]at hcon
  repeat' first|simp only[cC,aK,results33,ntmps33,aF,htt,aa,aD,Lm,au,aH,seval]|exact rfl|refine ao (v:=.any) ?_|((refine bl (xs:=?_) [b0,b0+48] ?_ ?_ ?_ rfl (hcon _) ?_);rotate_left 1)|((refine cL (caps:=?_) ?_ ?_ [b0,b0+2,b0+1] (hcall b0 (b0+1) (b0+2) Y6 _ _ Y6 Y6 ?_ ?_ ?_ ac Y6 Y6 Y6) ?_ ?_);rotate_left 1)|refine eI ?_|omega|((first|apply b7|apply cM)<;>intro hb)|refine Ai Y6 ?_|(apply Ai<;>intro hb)
  all_goals ((have zF:=@aa;refine jW [(b0+48,some 0)] [] lB))
def LM (v:List Nd)(sp:ZA)(hv:v.length<=aN)(hok:∀ n∈v,n.okTo 1000000/\n.i64)(hs:sp.length<=aN)(nm:Nat) :
  Ev cx 33 nm [.sl false 6 (v.map aC),.str sp] ah.nil (eN (bM v sp).1 (bM v sp).2) []:=by
 by_cases hbad:dO v≠0\/az sp≠0\/dY sp=true
 ·have hb:bM v sp=([],if dO v≠0 then dO v else 8):=by
   unfold bM
   by_cases h1:dO v≠0
   ·rw[if_pos h1,if_pos h1]
   ·rw[if_neg h1,if_neg h1,if_pos (hbad.resolve_left h1)]
  rw[hb]
  refine Ev.res_le (LN v sp hv (fun x hx=>⟨fF (hok x hx).1 ZI,(hok x hx).2⟩) hs hbad nm) ?_
  unfold eN
  simp only[m9,cS,dQ,bR,jh,Lo,XJ]
 ·have h1:dO v=0:=X6.1 fun h=>hbad (.inl h)
  have h2:az sp=0:=X6.1 fun h=>hbad (.inr (.inl h))
  have h3:dY sp=false:=by
   cases h:dY sp with
   | false=>rfl
   | true=>exact absurd (.inr (.inr h)) hbad
  obtain⟨n,k,hk,rfl,hg,hl⟩:=lc (yA h1).2
  have hb:bM (n::k.flat) sp=if nG ((Fo.cons n k .nil).bare sp)=true then ([],4) else ((Fo.cons n k .nil).bare sp,0):=by
   unfold bM
   rw[if_neg (by simpa using h1),if_neg (by rw[h2,h3];simp),pc hg]
  rw[hb]
  have hgood:=H3 n k sp hk hg hl hok hs h1 h2 h3
  generalize (Fo.cons n k .nil).bare sp=T at hgood ⊢
  cases hw:nG T with
  | true =>
   rw[if_pos rfl]
   refine Ev.res_le (hgood _ _ nm (.inl ⟨hw,rfl,rfl⟩)) ?_
   unfold eN
   simp only[m9,cS,dQ,bR,jh,Lo,XJ]
  | false =>
   rw[if_neg ZI]
   have hpl:=aa T
   have htk:(T.map aC).take T.length=T.map aC:=bF _ _
   refine Ev.freeze (hgood _ _ nm (.inr ⟨hw,rfl,rfl⟩)) ?_ ?_
   ·simp only[cC,aK,aF,hpl,htk,Lm,au,aH,seval]<;>omega
   ·unfold eN
    simp only[cC,aK,aF,hpl,htk,Lm,au,aH,seval]
def Ro (v:List Nd)(hv:v.length<=aN)(hok:∀ n∈v,n.okTo aN/\n.i64)(h:dN v≠0\/v.any nE=true)(nm:Nat) :
  Ev cx 25 nm [.sl false 6 (v.map aC)] ah.nil (.tup [.nils,.int .i64 8]) []:=by
 have hc:=sk v hv hok
 have hs:=jq v 53 [] nE (fun n hn nm=>zL n (hok n hn).1.1 nm) hv rfl
 by_cases h1:dN v=0
 ·rw[h1]at hc
  rw[h.resolve_left (fun h=>h h1)]at hs
  refine aG call25 func25 results25 ntmps25 ?_;intro b0 hb0 zN
  (have zF:=@aa;repeat' first|refine wS ?_|exact wE|refine bl [b0] wM wF wF rfl (hc _) ?_|refine bl [b0] wM wF wF rfl (hs _) ?_ | apply Fin.pure)
 ·have h8:dN v=8:=by
   unfold dN at h1 ⊢
   split
   ·rfl
   ·rename_i g;rw[if_neg g]at h1;exact absurd rfl h1
  rw[h8]at hc
  refine aG call25 func25 results25 ntmps25 ?_;intro b0 hb0 zN
  (have zF:=@aa;repeat' first|refine wS ?_|exact wE|refine bl [b0] wM wF wF rfl (hc _) ?_ | apply Fin.pure)
def UG:tI xF=[(.str [],.agg [.str []]),(.str [120,109,108],.agg [.str [104,116,116,112,58,47,47,119,119,119,46,119,51,46,111,114,103,47,88,77,76,47,49,57,57,56,47,110,97,109,101,115,112,97,99,101]])]:=rfl
def N9 (n:Nd)(k:Fo)(hk1:n.kind=1)(hg:(Fo.cons n k .nil).good 12 0=true)(hl:k.size+1<=512)(hok:∀ x∈n::k.flat,x.okTo 1000000/\x.i64)(hs0:(n::k.flat).any nE=false)(r:V)(eff:List (Nat×Option Blk))(nm:Nat)
  (hr:(((Fo.cons n k .nil).res xF).2=false/\r = .tup [.nils,.int .i64 110]/\eff=[])\/(((Fo.cons n k .nil).res xF).2=true/\r = .tup [.own nm 0 ((Fo.cons n k .nil).res xF).1.length,.int .i64 0]/\eff=[(nm,some ⟨6,((Fo.cons n k .nil).res xF).1.map aC⟩)])) :
  Ev cx 25 nm [.sl false 6 ((n::k.flat).map aC)] ah.nil r eff:=by
 have hlen:(n::k.flat).length<=512:=by simp[Fo.flat_length];omega
 have hokL:∀ x∈n::k.flat,x.okTo aN/\x.i64:=fun x hx=>⟨fF (hok x hx).1 ZI,(hok x hx).2⟩
 have hc:=sk (n::k.flat) (by unfold aN;omega) hokL
 rw[sj hk1 hg hl]at hc
 have hs:=jq (n::k.flat) 53 [] nE (fun n hn nm=>zL n (hokL n hn).1.1 nm) (by unfold aN;omega) rfl
 rw[hs0]at hs
 have hbl:=Fo.res_len (.cons n k .nil) xF
 simp only[Fo.size]at hbl
 have hcall:=fun (ob rb pb lk mk:Nat) (d1:ob≠pb) (d2:ob≠rb) (d3:rb≠pb) (M:ah) (m:Nat) e1 e2 e3 e4 e5 e6 e7 a0 a1 a2 a3 a4 a5 l1 l2 l3 l4 l5=>(Bp (n::k.flat) hlen hok ob rb pb d1 d2 d3 (.cons n k .nil) 12 0 hg (fun x hx=>by simpa [Fo.flat] using hx)).1 0 xF [] [] true lk mk M m ZH ZK e1 e2 e3 e4 e5 e6 e7 a0 a1 a2 a3 a4 a5 l1 l2 l3 l4 l5
 simp only[List.nil_append,List.length_nil,Lo,Wq]at hcall
 unfold Ue at hcall
 generalize (Fo.cons n k .nil).res xF=T at hcall hr hbl
 obtain⟨T,bT⟩:=T
 generalize n::k.flat=v at hc hs hcall ⊢
 dsimp only at hcall hr hbl
 have htt:(T.map aC).take T.length=T.map aC:=bF _ _
 refine mW rfl call25 func25 rfl mixed (by kernel_rfl) rfl ?_;intro b0 hb0;have zN:=Ai results25 ntmps25
 (refine xR trivial trivial ?_)
 (refine kR qc (b0+16) ([(1,.rp [.sl false 6 (v.map aC)]),(2,.ptr b0 0 0)]) ([(b0,⟨1,[[.nils]]⟩)]) [some (b0+16)] ?_ ?_ ?_;(focus (show b0<=_;omega));(focus (refine⟨?_,?_⟩<;>(try simp only[bL,kD,aa,am,au,aB,seval])<;>(try omega))))
 (refine xR @aa hc ?_)
 refine eI ?_
 (refine xR @aa hs ?_)
 refine eI ?_
 (refine xR @aa trivial ?_)
 refine eI ?_
 (refine xR @aa trivial ?_)
 refine eI ?_
 (refine xR @aa trivial ?_)
 (refine nb qc (b0+16) ([(2,.ptr b0 0 0),(5,.ptr (b0+1) 0 0),(6,.ptr (b0+2) 0 0)]) ([(b0,⟨1,[[.own (b0+3) 0 0]]⟩),(b0+1,⟨1,[[.bool true]]⟩),(b0+2,⟨1,[[.fn 54 [.rp [.sl false 6 (v.map aC)],.ptr b0 0 0,.ptr (b0+1) 0 0,.ptr (b0+2) 0 0]]]⟩),(b0+3,⟨6,[]⟩)]) [some b0,some (b0+128),some (b0+160),none] ?_ ?_ ?_;(focus (show b0<=_;omega));(focus (refine⟨?_,?_⟩<;>(try simp only[bL,aa,am,No,Wm,au,aB,seval])<;>(try omega))))
 have hcl:=fun (M:ah) (m:Nat) a0 a1 a2 a3 a4 a5 l1 l2 l3 l4 l5=>hcall b0 (b0+1) (b0+2) (b0+3) (b0+32) Y6 Y6 Y6 M m Y6 Y6 Y6 Y6 Y6 Y6 Y6 a0 a1 a2 a3 a4 a5 l1 l2 l3 l4 l5
 cases bT with
 | false =>
  have hre:r = .tup [.nils,.int .i64 110]/\eff=[]:=by
   rcases hr with ⟨_,h⟩|⟨h,_⟩
   ·exact h
   ·cases h
  obtain⟨rfl,rfl⟩:=hre
  repeat' first|simp only[aK,results25,ntmps25,aF,UG,aD,Bf,au,aH,seval]|exact rfl|((refine cL (caps:=?_) ?_ ?_ [b0+32,b0+1,b0,b0+3,b0+2] (hcl _ _ ?_ ?_ ?_ ?_ ?_ ac Y6 Y6 Y6 Y6 Y6) ?_ ?_);rotate_left 1)|refine jD ?_|(refine kJ (y:=?_) (kv:=?_) (xv:=?_) (kvs:=?_) ?_ ?_ ?_ ?_ Vi ?_ ?_ ?_ ?_ ?_;rotate_left 4;(iterate 4 (focus (simp only[aF,au,seval]<;>exact rfl)));(focus (kernel_rfl));(iterate 3 (focus (exact rfl))))
  all_goals ((apply Fin.pure<;>simp only[aF,au,aH,seval]))
 | true =>
  have hre:r = .tup [.own nm 0 T.length,.int .i64 0]/\eff=[(nm,some ⟨6,T.map aC⟩)]:=by
   rcases hr with ⟨h,_⟩|⟨_,h⟩
   ·cases h
   ·exact h
  obtain⟨rfl,rfl⟩:=hre
  repeat' first|simp only[aK,results25,ntmps25,aF,UG,aD,Bt,au,aH,seval]|exact rfl|((refine cL (caps:=?_) ?_ ?_ [b0+32,b0+1,b0,b0+3,b0+2] (hcl _ _ ?_ ?_ ?_ ?_ ?_ ac Y6 Y6 Y6 Y6 Y6) ?_ ?_);rotate_left 1)|refine jD ?_|(refine kJ (y:=?_) (kv:=?_) (xv:=?_) (kvs:=?_) ?_ ?_ ?_ ?_ Vi ?_ ?_ ?_ ?_ ?_;rotate_left 4;(iterate 4 (focus (simp only[aF,au,seval]<;>exact rfl)));(focus (kernel_rfl));(iterate 3 (focus (exact rfl))))
  all_goals ((have zF:=@aa;refine jW [(b0+128,some 0)] [] lB))
def DQ (v:List Nd)(hv:v.length<=aN)(hok:∀ n∈v,n.okTo 1000000/\n.i64)(nm:Nat) :
  Ev cx 25 nm [.sl false 6 (v.map aC)] ah.nil (eN (bX v).1 (bX v).2) []:=by
 by_cases hbad:dN v≠0\/v.any nE=true
 ·have hb:bX v=([],8):=by
   unfold bX
   by_cases h1:dN v≠0
   ·rw[if_pos h1]
   ·rw[if_neg h1,if_pos (hbad.resolve_left h1)]
  rw[hb]
  refine Ev.res_le (Ro v hv (fun x hx=>⟨fF (hok x hx).1 ZI,(hok x hx).2⟩) hbad nm) ?_
  unfold eN
  simp only[m9,cS,dQ,bR,jh,Lo,XJ]
 ·have h1:dN v=0:=X6.1 fun h=>hbad (.inl h)
  have h2:v.any nE=false:=by
   cases h:v.any nE with
   | false=>rfl
   | true=>exact absurd (.inr h) hbad
  obtain⟨n,k,hk,rfl,hg,hl⟩:=lc h1
  have hb:bX (n::k.flat)=if ((Fo.cons n k .nil).res xF).2=true then (((Fo.cons n k .nil).res xF).1,0) else ([],110):=by
   unfold bX
   rw[if_neg (by simpa using h1),if_neg (by rw[h2];decide),pc hg]
  rw[hb]
  have hgood:=N9 n k hk hg hl hok h2
  generalize (Fo.cons n k .nil).res xF=T at hgood ⊢
  obtain⟨T,bT⟩:=T
  dsimp only at hgood ⊢
  cases bT with
  | false =>
   rw[if_neg ZI]
   refine Ev.res_le (hgood _ _ nm (.inl ⟨rfl,rfl,rfl⟩)) ?_
   unfold eN
   simp only[m9,cS,dQ,bR,jh,Lo,XJ]
  | true =>
   rw[if_pos rfl]
   have hpl:=aa T
   have htk:(T.map aC).take T.length=T.map aC:=bF _ _
   refine Ev.freeze (hgood _ _ nm (.inr ⟨rfl,rfl,rfl⟩)) ?_ ?_
   ·simp only[hpl,htk,Lm,au]<;>omega
   ·unfold eN
    simp only[htk,au]
def AB:∀(f c:Nat) (v:List Nd),(∀ x∈(ub f c v).1.flat,x∈v) /\ ∀ x∈(ub f c v).2,x∈v
 | 0,_,v=>⟨fun x hx=>by simp[ub,Fo.flat]at hx,fun x hx=>by simpa [ub] using hx⟩
 | _+1,0,v=>⟨fun x hx=>by simp[ub,Fo.flat]at hx,fun x hx=>by simpa [ub] using hx⟩
 | _+1,_+1,[]=>⟨fun x hx=>by simp[ub,Fo.flat]at hx,fun x hx=>by simp[ub]at hx⟩
 | f+1,c+1,n::v=>by
  obtain⟨a1,a2⟩:=AB f n.many.toNat v
  obtain⟨b1,b2⟩:=AB f c (ub f n.many.toNat v).2
  simp only[ub,Fo.flat,Lk,Wf]
  refine⟨fun x hx=>?_,fun x hx=>.inr (a2 x (b2 x hx))⟩
  rcases hx with h|h|h
  ·exact .inl h
  ·exact .inr (a1 x h)
  ·exact .inr (a2 x (b1 x h))
def CH (v:List Nd):∀ x∈(oo v).flat,x∈v:=(AB _ _ v).1
def Er (B:Nat)(K:kw):Prop:=∀ p v,fD p K=some v->v.length<=B
def Jd {B:Nat}(hB:100<=B):Er B xF:=fun p v h=>by
 unfold xF at h
 simp only[fD]at h
 split at h
 ·cases h;simp
 ·split at h
  ·cases h;exact W4 ZI hB
  ·cases h
def yZ {B:Nat} : ∀(l:List At) (K:kw) (r:Bool),Er B K->(∀ a∈l,a.value.length<=B)->Er B (iy K r l).1
 | [],_,_,h,_=>h
 | a::l,K,r,h,hl=>by
  unfold iy
  rw[List.foldl_cons]
  have hK:Er B (C9 (K,r) a).1:=by
   unfold C9
   cases dp a.name with
   | none=>exact h
   | some p =>
    intro q v hq
    rw[get_put]at hq
    split at hq
    ·cases hq;exact hl a (Yf ..)
    ·exact h q v hq
  exact yZ l _ (C9 (K,r) a).2 hK (fun b hb=>hl b (Xj _ hb))
def zO (s:ZA):(dK s).2.length<=s.length:=by
 unfold dK
 cases h:df 58 s with
 | none=>exact IS _
 | some p=>obtain⟨a,b⟩:=p;have:=(eB h).1;rw[this];simp;omega
def CJ {B:Nat}{K:kw}(h:Er B K)(p:ZA):((fD p K).getD []).length<=B:=by
 cases hg:fD p K with
 | none=>simp
 | some v=>simpa using h p v hg
def Nm {B:Nat}{K:kw}(hK:Er B K):∀(l:List At) (s:List At×Bool),(∀ a∈s.1,a.space.length<=B/\a.name.length<=B/\a.value.length<=B)->(∀ a∈l,a.space.length<=B/\a.name.length<=B/\a.value.length<=B) ->
  ∀ a∈(l.foldl (Pk K) s).1,a.space.length<=B/\a.name.length<=B/\a.value.length<=B
 | [],_,hs,_=>hs
 | x::l,s,hs,hl=>by
  rw[List.foldl_cons]
  refine Nm hK l _ ?_ (fun b hb=>hl b (Xj _ hb))
  unfold Pk
  cases dp x.name with
  | some p=>exact hs
  | none =>
   intro a ha
   rcases Wf.1 ha with h|h
   ·exact hs a h
   ·have:=WW.1 h;subst this
    obtain⟨q1,q2,q3⟩:=hl x (Yf ..)
    unfold oI
    split
    ·exact⟨CJ hK _,W4 (zO _) q2,q3⟩
    ·exact⟨by simp,q2,q3⟩
def Fo.res_fit {B:Nat}(hB:100<=B):∀(F:Fo) (K:kw),Er B K->(∀ n∈F.flat,n.okTo B/\n.i64) -> ∀ x∈(F.res K).1,x.okTo B/\x.i64
 | .nil,_,_,_=>fun x hx=>by simp[Fo.res]at hx
 | .cons n k r,K,hK,hok=>by
  simp only[Fo.flat,Lk,Wf]at hok
  have hr:=Fo.res_fit hB r K hK (fun x hx=>hok x (.inr (.inr hx)))
  simp only[Fo.res]
  split
  ·intro x hx
   rcases WZ.1 hx with e|hx
   ·subst e;exact hok _ (.inl rfl)
   ·exact hr x hx
  ·have hn:=hok n (.inl rfl)
   have hK2:=yZ n.attrs K true hK (fun a ha=>(hn.1.2.2.2.2 a ha).2.2)
   have hk:=Fo.res_fit hB k _ hK2 (fun x hx=>hok x (.inr (.inl hx)))
   intro x hx
   rcases WZ.1 hx with e|hx
   ·subst e
    have hlen:=uD (iy K true n.attrs).1 n.attrs ([],(fD (dK n.name).1 (iy K true n.attrs).1).isSome)
    refine⟨⟨?_,CJ hK2 _,W4 (zO _) hn.1.2.2.1,by simp[fP],fun a ha=>?_⟩,hn.2⟩
    ·have:=hn.1.1
     unfold fP xG;simp only[List.length_nil]at hlen;simp only;omega
    ·exact Nm hK2 n.attrs _ ZH (fun a ha=>hn.1.2.2.2.2 a ha) a ha
   ·rcases Wf.1 hx with hx|hx
    ·exact hk x hx
    ·exact hr x hx
def res_fit {v:List Nd}{B:Nat}(hB:100<=B)(hok:∀ n∈v,n.okTo B/\n.i64):∀ x∈(bX v).1,x.okTo B/\x.i64:=by
 unfold bX
 split
 ·intro x hx;cases hx
 ·split
  ·intro x hx;cases hx
  ·split
   ·exact Fo.res_fit hB _ _ (Jd hB) (fun x hx=>hok x (CH v x hx))
   ·intro x hx;cases hx
def mc (n:Nat):(gI n).length<=2:=by unfold gI;split<;>simp
def OR {n:Nd}{sp:ZA}{B:Nat}(hok:n.okTo B/\n.i64):(eu n sp).space=[]/\(eu n sp).name.length<=B+50/\(eu n sp).text=[]/\(eu n sp).i64 /\ ∀ a∈(eu n sp).attrs,a.space.length<=B+50/\a.name.length<=B+50/\a.value.length<=B+50:=by
 obtain⟨⟨_,h2,h3,_,h5⟩,h6⟩:=hok
 refine⟨rfl,by show n.name.length<=_;omega,rfl,h6,fun a ha=>?_⟩
 unfold eu at ha
 rcases Wf.1 ha with ha|ha
 ·rcases Wf.1 ha with ha|ha
  ·unfold CY at ha
   split at ha
   ·cases ha
   ·have:=WW.1 ha;subst this;exact⟨by simp,by simp,by show n.space.length<=_;omega⟩
  ·unfold cE at ha
   obtain⟨i,hi,rfl⟩:=List.mem_mapIdx.1 ha
   have hs:((bh n.attrs)[i]).length<=B:=by
    rcases Rr _ (Xi hi) with h|⟨b,hb,e,_⟩
    ·cases h
    ·rw[<- e];exact(h5 b hb).1
   have:=mc (i+1)
   exact⟨by simp[qd],by simp only[qd,List.length_append,List.length_cons,List.length_nil];omega,by simp only[qd];omega⟩
 ·obtain⟨b,hb,rfl⟩:=Wn.1 ha
  obtain⟨q1,q2,q3⟩:=h5 b hb
  refine⟨by simp[fG],?_,by show b.value.length<=_;omega⟩
  unfold fG
  split
  ·exact W4 q2 Y6
  ·have:(yg (bh n.attrs) b.space).length<=3:=by
    unfold yg
    split
    ·simp
    ·have:=mc (En (bh n.attrs) b.space+1);simp only[List.length_cons];omega
   simp only[List.length_append,List.length_cons];omega
def Fo.bare_fit {B:Nat} : ∀(F:Fo) (sp:ZA),(∀ n∈F.flat,n.okTo B/\n.i64) -> ∀ x∈F.bare sp,x.space.length<=B+50/\x.name.length<=B+50/\x.text.length<=B+50/\x.i64 /\ ∀ a∈x.attrs,a.space.length<=B+50/\a.name.length<=B+50/\a.value.length<=B+50
 | .nil,_,_=>fun x hx=>by simp[Fo.bare]at hx
 | .cons n k r,sp,hok=>by
  simp only[Fo.flat,Lk,Wf]at hok
  have hr:=Fo.bare_fit r sp (fun x hx=>hok x (.inr (.inr hx)))
  have hk:=Fo.bare_fit k n.space (fun x hx=>hok x (.inr (.inl hx)))
  have hn:=hok n (.inl rfl)
  simp only[Fo.bare]
  intro x hx
  rcases Wf.1 hx with hx|hx
  ·split at hx
   ·have:=WW.1 hx;subst this
    obtain⟨⟨_,h2,h3,h4,h5⟩,h6⟩:=hn
    exact⟨by omega,by omega,by omega,h6,fun a ha=>by obtain⟨q1,q2,q3⟩:=h5 a ha;exact⟨by omega,by omega,by omega⟩⟩
   ·rcases WZ.1 hx with e|hx
    ·subst e
     obtain⟨t1,t2,t3,t4,t5⟩:=OR (sp:=sp) hn
     exact⟨by rw[t1];simp,t2,by rw[t3];simp,t4,t5⟩
    ·exact hk x hx
  ·exact hr x hx
def bare_fit {v:List Nd}{sp:ZA}{B:Nat}(hok:∀ n∈v,n.okTo B/\n.i64):∀ x∈(bM v sp).1,x.okTo (B+50)/\x.i64:=by
 unfold bM
 split
 ·intro x hx;cases hx
 ·split
  ·intro x hx;cases hx
  ·split
   ·intro x hx;cases hx
   ·rename_i h3
    intro x hx
    obtain⟨h4,h5,h6,h7,h8⟩:=Fo.bare_fit (oo v) sp (fun x hx=>hok x (CH v x hx)) x hx
    have h16:=Xz.1 (Yn _ ▸ h3:nG _=false) x hx
    simp only[WD]at h16
    exact⟨⟨by omega,h4,h5,h6,h8⟩,h7⟩
def uy:∀(f c:Nat) (v:List Nd),(ub f c v).1.size+(ub f c v).2.length<=v.length
 | 0,_,v=>by simp[ub,Fo.size]
 | _+1,0,v=>by simp[ub,Fo.size]
 | _+1,_+1,[]=>by simp[ub,Fo.size]
 | f+1,c+1,n::v=>by
  have a:=uy f n.many.toNat v
  have b:=uy f c (ub f n.many.toNat v).2
  simp only[ub,Fo.size,List.length_cons]
  omega
def Gw (v:List Nd):(bX v).1.length<=v.length:=by
 unfold bX
 split
 ·simp
 ·split
  ·simp
  ·split
   ·have h1:=Fo.res_len (oo v) xF
    have h2:=uy (v.length+1) 1 v
    unfold oo at h1 ⊢
    simp only;omega
   ·simp
def tz (v:List Nd)(sp:ZA):(bM v sp).1.length<=v.length:=by
 unfold bM
 split
 ·simp
 ·split
  ·simp
  ·split
   ·simp
   ·have h1:=Fo.bare_len (oo v) sp
    have h2:=uy (v.length+1) 1 v
    unfold oo at h1 ⊢
    simp only;omega
end Go.Proofs.YtgboofebldgdjaaGreatDoor
