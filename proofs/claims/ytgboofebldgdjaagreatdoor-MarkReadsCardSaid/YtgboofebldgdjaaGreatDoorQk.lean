/-
 Texts joined: XEl,XEm,XLt,XNc,XNd,XNe,XNf,XNg,XNh,XNi,XNj,XNk,XNl,XNm,XNn,XNo,XPa,XPb,XNp.
-/
import Derived.Test.YtgboofebldgdjaaGreatDoorQg
set_option linter.all false
namespace Go.Proofs.YtgboofebldgdjaaGreatDoor
set_option maxRecDepth 100000
set_option maxHeartbeats 32000000
open Go Go.RowKit Vm Go.Lib Tryz
def rR:∀ l z a b p8 p9:Bool,(l=true)\/(l=false/\z=true)\/(l=false/\z=false/\a=true/\p8=true)\/(l=false/\z=false/\a=true/\p8=false/\p9=true)\/(l=false/\z=false/\a=true/\p8=false/\p9=false) \/
  (l=false/\z=false/\a=false/\b=true/\p8=true)\/(l=false/\z=false/\a=false/\b=true/\p8=false/\p9=true)\/(l=false/\z=false/\a=false/\b=true/\p8=false/\p9=false)\/(l=false/\z=false/\a=false/\b=false):=by
 intro l z a b p8 p9;cases l<;>cases z<;>cases a<;>cases b<;>cases p8<;>cases p9<;>simp
def JD {c:UInt8}{f l a b p8 p9:Bool}(h1:A2 c=l)(h2:decide ((c.toNat:Int)<48)=a)(h3:decide ((57:Int)<c.toNat)=b)(h8:decide (c=46)=p8)(h9:decide (c=45)=p9):ja f c=(l||(!f&&((!a && !b)||p8||p9))):=by
 unfold ja
 rw[h1,<- h2,<- h3,<- h8,<- h9]
 have e1:decide (48<=c.toNat) = !decide ((c.toNat:Int)<48):=by rw[WL];simp;omega
 have e2:decide (c.toNat<=57) = !decide ((57:Int)<c.toNat):=by rw[WL];simp;omega
 rw[e1,e2]
def rI {s:ZA}{k:Nat}{c:UInt8}(h:rH s k)(hc:s[k]? = some c)(hp:ja (k==0) c=true):rH s (k+1):=by
 intro i x hi hx
 by_cases e:i=k
 ·subst e;rw[hc]at hx;cases hx;exact hp
 ·exact h i x Y6 hx
def El (k:Nat):((k:Int)==0)=(k==0):=by
 rw[WL,W3,W3];omega
def oG (s:ZA)(hs:s.length<=aN)(nm:Nat):Ev cx 120 nm [.str s] ah.nil (.bool (eV s)) []:=by
 unfold aN at hs
 refine aG call120 func120 results120 ntmps120 ?_;intro b0 hb0 zN
 (refine xR trivial trivial ?_)
 (have zF:=trivial;refine fu (fun x:Nat=>s.length-x) (fun x=>x<=s.length/\rH s x) (b0+16) (fun x=>[(0,.str s),(3,.int .i64 x)]) (fun x=>[]) (0) [] ?_ ?_)
 ·exact⟨WB _,fun i c hi=>by omega⟩
 ·rintro k ⟨hk,hn⟩
  by_cases hlt:k<s.length
  ·obtain⟨c,hc⟩:=js hlt
   have hd:=AI hlt
   have hwk:=eX k
   have hle:=wA c
   have q8:((c.toNat:Int) != 46) = !decide (c=46):=congrArg not (aW c 46)
   have q9:((c.toNat:Int) != 45) = !decide (c=45):=congrArg not (aW c 45)
   have qz:=El k
   generalize h1:A2 c=l at hle
   generalize h2:decide ((c.toNat:Int)<48)=a
   generalize h3:decide ((57:Int)<c.toNat)=b
   generalize h8:decide (c=46)=p8
   generalize h9:decide (c=45)=p9
   have he:=JD (f:=k==0) h1 h2 h3 h8 h9
   cases hp:ja (k==0) c with
   | false =>
    have hnf:=tK hc hp
    rw[hp]at he
    generalize hz:(k==0)=z at he qz
    rcases rR l z a b p8 p9 with rfl|⟨rfl,rfl⟩|⟨rfl,rfl,rfl,rfl⟩|⟨rfl,rfl,rfl,rfl,rfl⟩|⟨rfl,rfl,rfl,rfl,rfl⟩|⟨rfl,rfl,rfl,rfl,rfl⟩|⟨rfl,rfl,rfl,rfl,rfl,rfl⟩|⟨rfl,rfl,rfl,rfl,rfl,rfl⟩|⟨rfl,rfl,rfl,rfl⟩
    all_goals (try (exfalso;simp at he;done))
    all_goals (exact xP (a3 hc hd (a9 hlt hnf q8 q9 qz h2 h3 h8 h9)) hle)
   | true =>
    have hn':=rI hn hc hp
    rw[hp]at he
    generalize hz:(k==0)=z at he qz
    rcases rR l z a b p8 p9 with rfl|⟨rfl,rfl⟩|⟨rfl,rfl,rfl,rfl⟩|⟨rfl,rfl,rfl,rfl,rfl⟩|⟨rfl,rfl,rfl,rfl,rfl⟩|⟨rfl,rfl,rfl,rfl,rfl⟩|⟨rfl,rfl,rfl,rfl,rfl,rfl⟩|⟨rfl,rfl,rfl,rfl,rfl,rfl⟩|⟨rfl,rfl,rfl,rfl⟩
    all_goals (try (exfalso;simp at he;done))
    all_goals ((refine xR (a3 hc hd (a9 hlt hwk q8 q9 qz h2 h3 h8 h9)) hle ?_))
    all_goals ((have zF:=hwk;refine c7 (k+1) [] ?_ ?_))
    all_goals (first|(show s.length-(k+1)<s.length-k;omega)|exact⟨hlt,hn'⟩|skip)
  ·have hke:k=s.length:=Y6
   subst hke
   have hd:decide (s.length<s.length)=false:=aL
   by_cases hne:s=[]
   ·subst hne
    have hb:(([]:ZA)==[])=true:=rfl
    have e:eV []=false:=rfl
    exact xP (a3 hd hb e) trivial
   ·have hb:(s==[])=false:=If hne
    have e:=wg hne hn
    exact xP (a3 hd hb e) trivial
def G8 {s:ZA}(h:s≠[]):s.isEmpty=false:=by cases s with|nil=>exact absurd rfl h|cons=>rfl
def rG (s:ZA)(hs:s.length<=aN)(nm:Nat):Ev cx 127 nm [.str s] ah.nil (.bool (eV s)) []:=by
 unfold aN at hs
 have hb:(s==[])=s.isEmpty:=by cases s<;>rfl
 refine aG call127 func127 results127 ntmps127 ?_;intro b0 hb0 zN
 (refine xR hb trivial ?_)
 (have zF:=trivial;refine fu (fun x:Nat=>s.length-x) (fun x=>x<=s.length/\rH s x) (b0+16) (fun x=>[(0,.str s),(3,.bool (!s.isEmpty)),(8,.int .i64 s.length),(9,.int .i64 x)]) (fun x=>[]) (0) [] ?_ ?_)
 ·exact⟨WB _,fun i c hi=>by omega⟩
 ·rintro k ⟨hk,hn⟩
  by_cases hlt:k<s.length
  ·obtain⟨c,hc⟩:=js hlt
   have hne:s≠[]:=by rintro rfl;simp at hlt
   have hie:=G8 hne
   have hd:=AI hlt
   have hwk:=eX k
   have hle:=Bg c (k==0)
   have qz:=El k
   cases hp:ja (k==0) c with
   | false =>
    have hnf:=tK hc hp
    rw[hp]at hle
    exact xP (a6 hc hd hlt hie hnf qz) hle
   | true =>
    have hn':=rI hn hc hp
    rw[hp]at hle
    (refine xR (a6 hc hd hlt hwk hie qz) hle ?_)
    all_goals ((have zF:=a2 hwk hie;refine c7 (k+1) [] ?_ ?_))
    all_goals (first|(show s.length-(k+1)<s.length-k;omega)|exact⟨hlt,hn'⟩|skip)
  ·have hke:k=s.length:=Y6
   subst hke
   have hd:decide (s.length<s.length)=false:=aL
   by_cases hne:s=[]
   ·subst hne
    have e:eV []=false:=rfl
    exact xP (a2 hd e) trivial
   ·have hie:=G8 hne
    have e:=wg hne hn
    exact xP (a3 hd hie e) trivial
def kc (s:ZA)(hs:s.length<=aN)(nm:Nat):Ev cx 100 nm [.str s] ah.nil (.bool (bI s)) []:=by
 have hev:=qb s 58 hs
 cases hc:df 58 s with
 | none =>
  have ev:jc 58 s = .tup [.str s,.str [],.bool false]:=by unfold jc;rw[hc]
  have hf:bI s=eV s:=by unfold bI;rw[hc]
  have hn:=rG s hs
  rw[ev]at hev
  rw[hf]
  cases h:eV s<;>rw[h]at hn<;>(
   refine aG call100 func100 results100 ntmps100 ?_;intro b0 hb0 zN
   (have zF:=trivial;have cF:=a2 hev hn;repeat' first|refine wS ?_|exact wE|refine ao (v:=.any) ?_|((first|apply b7|apply cM)<;>intro hb)|refine Ai Y6 ?_|(apply Ai<;>intro hb)|apply Fin.pure|simp only[aB]))
 | some p =>
  obtain⟨a,b⟩:=p
  obtain⟨_,_,_,e3⟩:=jL hc
  have ev:jc 58 s = .tup [.str a,.str b,.bool true]:=by unfold jc;rw[hc]
  have hf:bI s=(eV a&&eV b):=by unfold bI;rw[hc]
  have hn1:=rG a Y6
  have hn2:=rG b Y6
  rw[ev]at hev
  rw[hf]
  cases h1:eV a<;>rw[h1]at hn1<;>(
   refine aG call100 func100 results100 ntmps100 ?_;intro b0 hb0 zN
   (have zF:=trivial;have cF:=a3 hev hn1 hn2;repeat' first|refine wS ?_|exact wE|refine ao (v:=.any) ?_|((first|apply b7|apply cM)<;>intro hb)|refine Ai Y6 ?_|(apply Ai<;>intro hb)|apply Fin.pure|simp only[aB]))
def dH (d:UInt8)(s:ZA):V:=match df d s with
 | none=>.tup [.str [],.str s,.bool false]
 | some (a,b)=>.tup [.str a,.str b,.bool true]
def FZ {d:UInt8}{s:ZA}{k:Nat}{c:UInt8}(h:d ∉ s.take k)(hc:s[k]? = some c)(hne:c≠d):d ∉ s.take (k+1):=by
 obtain⟨hk,rfl⟩:=AS.1 hc
 rw[WF hk]
 simp only[Wf,WW,not_or]
 exact⟨h,fun e=>hne e.symm⟩
def pq (s:ZA)(hs:s.length<=aN)(nm:Nat):Ev cx 119 nm [.str s] ah.nil (dH 58 s) []:=by
 unfold aN at hs
 refine aG call119 func119 results119 ntmps119 ?_;intro b0 hb0 zN
 (refine xR trivial trivial ?_)
 (have zF:=trivial;refine fu (fun x:Nat=>s.length-x) (fun x=>x<=s.length/\(58:UInt8) ∉ s.take x) (b0+16) (fun x=>[(0,.str s),(5,.int .i64 x)]) (fun x=>[]) (0) [] ?_ ?_)
 ·exact⟨WB _,by simp⟩
 ·rintro k ⟨hk,hn⟩
  by_cases hlt:k<s.length
  ·obtain⟨c,hc⟩:=js hlt
   have hd:=AI hlt
   have hwk:=eX k
   have q8:((c.toNat:Int)==58)=decide (c=58):=aW c 58
   by_cases h8:c=58
   ·have h8':decide (c=58)=true:=AI h8
    subst h8
    have ev:dH 58 s = .tup [.str (s.take k),.str (s.drop (k+1)),.bool true]:=by unfold dH;rw[ut hn hc]
    have h3:((k+1:Nat):Int)<=s.length:=Y6
    have h5:k+1<=s.length:=Y6
    exact xP (a2 hc (a9 hd hlt hwk q8 h8' ev h3 h5 hk)) trivial
   ·have h8':decide (c=58)=false:=WA h8
    (refine xR (a6 hc hd hlt hwk q8 h8') trivial ?_)
    all_goals ((have zF:=hwk;refine c7 (k+1) [] ?_ ?_))
    all_goals (first|(show s.length-(k+1)<s.length-k;omega)|exact⟨hlt,FZ hn hc h8⟩|skip)
  ·have hke:k=s.length:=Y6
   subst hke
   rw[WJ]at hn
   have hd:decide (s.length<s.length)=false:=aL
   have ev:dH 58 s = .tup [.str [],.str s,.bool false]:=by unfold dH;rw[eA.2 hn]
   exact xP (a2 hd ev) trivial
def oF (s:ZA)(hs:s.length<=aN)(nm:Nat):Ev cx 62 nm [.str s] ah.nil (.bool (bI s)) []:=by
 have hev:=pq s hs
 cases hc:df 58 s with
 | none =>
  have ev:dH 58 s = .tup [.str [],.str s,.bool false]:=by unfold dH;rw[hc]
  have hf:bI s=eV s:=by unfold bI;rw[hc]
  have hn:=oG s hs
  rw[ev]at hev
  rw[hf]
  cases h:eV s<;>rw[h]at hn<;>(
   refine aG call62 func62 results62 ntmps62 ?_;intro b0 hb0 zN
   (have zF:=trivial;have cF:=a2 hev hn;repeat' first|refine wS ?_|exact wE|refine ao (v:=.any) ?_|((first|apply b7|apply cM)<;>intro hb)|refine Ai Y6 ?_|(apply Ai<;>intro hb)|apply Fin.pure|simp only[aB]))
 | some p =>
  obtain⟨a,b⟩:=p
  obtain⟨_,_,_,e3⟩:=jL hc
  have ev:dH 58 s = .tup [.str a,.str b,.bool true]:=by unfold dH;rw[hc]
  have hf:bI s=(eV b&&eV a):=by unfold bI;rw[hc,Bool.and_comm]
  have hn1:=oG a Y6
  have hn2:=oG b Y6
  rw[ev]at hev
  rw[hf]
  cases h1:eV b<;>rw[h1]at hn2<;>(
   refine aG call62 func62 results62 ntmps62 ?_;intro b0 hb0 zN
   (have zF:=trivial;have cF:=a3 hev hn1 hn2;repeat' first|refine wS ?_|exact wE|refine ao (v:=.any) ?_|((first|apply b7|apply cM)<;>intro hb)|refine Ai Y6 ?_|(apply Ai<;>intro hb)|apply Fin.pure|simp only[aB]))
def cZ (a:Pr):List V:=[.str a.name,.str a.value]
def aY (t:Tk):List V:=[.int .u8 t.kind,.str t.name,.sl false 2 (t.attrs.map cZ),.str t.text]
def wx {l:List Pr}{k:Nat}{a:Pr}(h:l[k]? = some a):(l.map cZ)[k]? = some (cZ a):=by rw[WG,h];rfl
def gO {l:List Tk}{k:Nat}{a:Tk}(h:l[k]? = some a):(l.map aY)[k]? = some (aY a):=by rw[WG,h];rfl
def aA (l:List Pr):plainLL (l.map cZ)=true:=cq _ (fun _=>rfl) l
def ax (l:List Tk):plainLL (l.map aY)=true:=cq _ (fun t=>by simp[aY,plainL,V.plain,aA]) l
def eK {α:Type}{p:α->Bool}{l:List α}{k:Nat}{x:α}(h:(l.take k).any p=false)(hc:l[k]? = some x)(hx:p x=false):(l.take (k+1)).any p=false:=by
 obtain⟨hk,rfl⟩:=AS.1 hc
 rw[WF hk,Yw,h]
 simp[hx]
def MG (l:List Pr)(s:ZA)(hl:l.length<=aN)(nm:Nat):Ev cx 117 nm [.sl false 2 (l.map cZ),.str s] ah.nil (.bool (l.any fun b=>s==b.name)) []:=by
 unfold aN at hl
 refine aG call117 func117 results117 ntmps117 ?_;intro b0 hb0 zN
 (refine xR trivial trivial ?_)
 (have zF:=@aA;refine fu (fun x:Nat=>l.length-x) (fun x=>x<=l.length/\((l.take x).any fun b=>s==b.name)=false) (b0+16) (fun x=>[(0,.sl false 2 (l.map cZ)),(1,.str s),(5,.int .i64 x)]) (fun x=>[]) (0) [] ?_ ?_)
 ·exact⟨WB _,by simp⟩
 ·rintro k ⟨hk,hn⟩
  by_cases hlt:k<l.length
  ·obtain⟨a,ha⟩:=js hlt
   have hat:=wx ha
   have hd:=AI hlt
   have hwk:=eX k
   cases hp:(a.name==s) with
   | true =>
    have hr:(l.any fun b=>s==b.name)=true:=Xa.2 ⟨a,By ha,by rw[W3]at hp ⊢;exact hp.symm⟩
    exact xP (a6 hat @cZ.eq_1 hd hlt hp hr) trivial
   | false =>
    have hx:(s==a.name)=false:=by
     rw[Wb]at hp ⊢;exact fun e=>hp e.symm
    have hn':=eK (p:=fun b:Pr=>s==b.name) hn ha hx
    (refine xR (a6 hat @cZ.eq_1 hd hlt hp hwk) trivial ?_)
    all_goals ((have zF:=a2 @aA hwk;refine c7 (k+1) [] ?_ ?_))
    all_goals (first|(show l.length-(k+1)<l.length-k;omega)|exact⟨hlt,hn'⟩|skip)
  ·have hke:k=l.length:=Y6
   subst hke
   rw[WJ]at hn
   have hd:decide (l.length<l.length)=false:=aL
   exact xP (a2 hd hn) trivial
def qO {l:List Pr}{k:Nat}{a:Pr}(h:jp l k)(ha:l[k]? = some a)(ho:Pl (l.take k) a=true):jp l (k+1):=by
 intro i b hi hb
 by_cases e:i=k
 ·subst e;rw[ha]at hb;cases hb;exact ho
 ·exact h i b Y6 hb
def tx {l:List Pr}{k:Nat}{a:Pr}(ha:l[k]? = some a)(ho:Pl (l.take k) a=false):gC l=false:=by
 cases h:gC l with
 | false=>rfl
 | true =>
  have:=(gq.1 h).2 k a (AS.1 ha).1 ha
  rw[ho]at this;cases this
def Tp (n:Nat)(hn:n<=281474976710656)(M:ah)(nm:Nat)(hM:M nm=none):Ev cx 229 nm [.int .i64 n] M (.own nm 0 n) [(nm,some (rK []))] :=
 Ev.makeNoZero (ps:=Tryz.f229.params) (t:=139) func229 (by kernel_rfl) (by kernel_rfl) (by kernel_rfl) (by kernel_rfl) HQ n hn M nm hM
def DR (z:Int)(h0:0<=z)(h1:z<=127)(nm:Nat):Ev cx 199 nm [.int .i32 z] ah.nil (.int .i64 1) []:=by
 have d0:decide (z<0)=false:=aL
 have d1:decide (z<=127)=true:=AI h1
 refine aG call199 func199 results199 ntmps199 ?_;intro b0 hb0 zN
 exact xP (a2 d0 d1) trivial
def R3 (s:Nat)(r:List (List V))(o:Ob):(@Blk.mk s r o).ob=o:=rfl
def DO (σ:Y8)(t:TypeId):Blk.ren σ (@Blk.mk 1 [] (.typed t)) = @Blk.mk 1 [] (.typed t):=aP σ [] t
def wO (σ:Y8)(t:TypeId):Blk.renOk σ (@Blk.mk 1 [] (.typed t))=true:=aI σ [] t
def MF (q n:Nat)(hn:n<=1000000)(M:ah)(nm:Nat)(hq:M q=some (bK true q .nils))(ho:∀ z,(M z).isSome=true->z∈[q])(hqn:q<nm) :
  Ev cx 219 nm [.ptr q 0 0,.int .i64 n] M (.tup []) [(q,some (bK true q (.own nm 0 0))),(nm,some (rK []))]:=by
 have hw:IntKind.i64.wrap 0=0:=by decide
 have hw2:IntKind.i64.wrap (0+(n:Int))=(n:Int):=by rw[aX];omega
 have hw3:IntKind.i64.wrap (n:Int)=(n:Int):=aX
 have nq:=IT (show ¬ nm=q by omega)
 refine aG call219 func219 results219 ntmps219 ?_;intro b0 hb0 zN
 have lq:=aq hb0 hq
 have z0:=aE lq;have z1:=ak lq;have z2:=ay lq;have z3:=ae lq
 (have zF:=a5 @fZ hq z0 z1 (a9 z2 z3 hw hw2 hw3 @bd @aD @cg @bw.eq_1);repeat' first|refine wS ?_ | refine ag wH (Tp n Y6 ah.nil _ rfl) cX ?_|refine gR [(8,12)] ?_)
 all_goals ((have zF:=a3 @R3 @DO (a9 @wO nq @fZ @bd hq z0 z1 z2 z3);refine jW [(q,none),(b0+128,some 0)] [] ho))
def LH (u:Bool)(q n:Nat)(h0:0<n)(hn:n<=1000000)(M:ah)(nm:Nat)(hq:M q=some (bK u q .nils))(ho:∀ z,(M z).isSome=true->z∈[q])(hqn:q<nm) :
  Ev cx 200 nm [.ptr q 0 0,.int .i64 n] M (.tup []) [(q,some (bK true q (.own nm 0 0))),(nm,some (rK []))]:=by
 have d0:decide ((n:Int)<0)=false:=aL
 have hw:IntKind.i64.wrap 0=0:=by decide
 have hw1:IntKind.i64.wrap (0-0)=0:=by decide
 have d1:decide ((0:Int)<(n:Int))=true:=bz
 have nq:=IT (show ¬ nm=q by omega)
 refine aG call200 func200 results200 ntmps200 ?_;intro b0 hb0 zN
 have lq:=aq hb0 hq
 have z0:=aE lq;have z1:=ak lq;have z2:=ay lq;have z3:=ae lq
 (have zF:=a3 @fZ hq (a9 z0 z1 z2 z3 d0 d1 hw hw1 @aD);repeat' first|refine wS ?_ | refine ab wM [q] (vf u q _ _ wM ac Y6) wM ?_|refine ab wM [q] (MF q n hn _ _ wM ac Y6) wM ?_)
 all_goals ((have zF:=a5 @R3 @DO @wO nq (a9 @fZ @bd @fg @dx hq z0 z1 z2 z3);refine jW [(q,none),(b0+304,some 0)] [] ho))
def Ec (z:Int)(hm:hY z=true)(q y:Nat)(bs:ZA)(hbs:bs.length<=1000000)(M:ah)(nm:Nat)(hqy:q≠y)(hq:M q=some (bK true q (.own y 0 bs.length)))(hy:M y=some (rK bs))(ho:∀ z,(M z).isSome=true->z∈[q,y])(hqn:q<nm)(hyn:y<nm) :
  Ev cx 201 nm [.ptr q 0 0,.int .i32 z] M (.tup [.int .i64 (encodeRune z).length,.val .nilIface]) [(y,none),(q,some (bK true q (.own nm 0 (bs.length+(encodeRune z).length)))),(nm,some (rK (bs++encodeRune z)))]:=by
 have hel:=be z
 have hw:IntKind.i64.wrap (((bs.length:Int)+((encodeRune z).length:Int))-(bs.length:Int))=((encodeRune z).length:Int):=by rw[aX];omega
 have hw':IntKind.i64.wrap (((bs.length+(encodeRune z).length:Nat):Int)-(bs.length:Int))=((encodeRune z).length:Int):=by rw[aX];omega
 refine aG call201 func201 results201 ntmps201 ?_;intro b0 hb0 zN
 have lq:=aq hb0 hq
 have ly:=aq hb0 hy
 have y0:=aE ly;have y1:=ak ly;have y2:=ay ly;have y3:=ae ly
 have z0:=aE lq;have z1:=ak lq;have z2:=ay lq;have z3:=ae lq
 have n1:=IT hqy;have n4:=IT (WU hqy)
 repeat' first|simp only[aK,results201,ntmps201,aF,fZ,hq,hy,n1,n4,y3,z1,z3,hw',aD,au,aH,seval]|refine ab ?_ [q,y] (vg true q y bs.length bs _ _ hqy ?_ ?_ ac Y6 Y6) ?_ ?_|refine ab ?_ [y] (HG z hm y bs hbs _ _ ?_ ac Y6) ?_ ?_
 all_goals ((refine Fin.give [(q,none),(b0+256,some 0)] [y] ?_ ?_ ?_ ?_ ?_ (bc ho (by simp[ba,tgt]))<;>(try simp only[aF,fZ,bd,fg,dx,hq,n1,y3,z1,z3,hH,au,seval])<;>(try simp only[aB])<;>(try omega)))
def LF (q y n c:Nat)(bs:ZA)(M:ah)(nm:Nat)(hqy:q≠y)(hq:M q=some ⟨2,[[.ptr q 0 0,.ownc y 0 n c]]⟩)(hy:M y=some (rK bs))(ho:∀ z,(M z).isSome=true->z∈[q,y])(hqn:q<nm)(hyn:y<nm) :
  Ev cx 202 nm [.ptr q 0 0] M (.int .i64 c) [(q,some ⟨2,[[.ptr q 0 0,.own y 0 n]]⟩),(y,some (rK bs))]:=by
 refine aG call202 func202 results202 ntmps202 ?_;intro b0 hb0 zN
 have lq:=aq hb0 hq
 have ly:=aq hb0 hy
 have y0:=fR ly
 have z0:=fR lq
 have n1:=IT hqy;have n4:=IT (WU hqy)
 repeat' first|simp only[results202,ntmps202,hq,au,aH,seval]
 all_goals ((refine Fin.give [(q,none),(y,none)] [] ?_ ?_ ?_ ?_ ?_ (bc ho (by simp[ba,tgt]))<;>(try simp only[aF,bd,fg,dx,hq,hy,n1,n4,hH,au,seval])<;>(try simp only[aB])<;>(try omega)))
def H1 (q y:Nat)(bs:ZA)(M:ah)(nm:Nat)(hqy:q≠y)(hq:M q=some (bK true q (.own y 0 bs.length)))(hy:M y=some (rK bs))(ho:∀ z,(M z).isSome=true->z∈[q,y])(hqn:q<nm)(hyn:y<nm) :
  Sa cx 202 nm [.ptr q 0 0] M (fun u=>∃ c:Nat,bs.length<=c/\u = .int .i64 c) [(q,some (bK true q (.own y 0 bs.length))),(y,some (rK bs))]:=by
 refine Sa.cell (v:=fun c=>.int .i64 c) q 1 y 0 bs.length 2 [.ptr q 0 0,.own y 0 bs.length] instCells hq rfl rfl (by simp[al]) (fun c hc=>?_)
 exact LF q y bs.length c bs _ nm hqy (ah.put_same _ _ _) (by rw[ah.put_ne _ _ (WU hqy)];exact hy) (fun z hz=>by
  by_cases e:z=q
  ·simp[e]
  ·rw[ah.put_ne _ _ e]at hz;exact ho z hz) hqn hyn
def LG (u:Bool)(q:Nat)(M:ah)(nm:Nat)(hq:M q=some (bK u q .nils))(ho:∀ z,(M z).isSome=true->z∈[q])(hqn:q<nm) :
  Ev cx 202 nm [.ptr q 0 0] M (.int .i64 0) [(q,some (bK u q .nils))]:=by
 cases u
 all_goals (
  first|rw[kB]at hq ⊢ | rw[fZ]at hq ⊢
  refine aG call202 func202 results202 ntmps202 ?_;intro b0 hb0 zN
  have lq:=aq hb0 hq
  have z0:=aE lq;have z1:=ak lq;have z2:=ay lq;have z3:=ae lq
  (refine xR (a5 hq z0 z1 z2 z3) trivial ?_)
  all_goals ((have zF:=a7 hq @gU @eC z0 z1 z2 z3;refine jW [(q,none)] [] ho)))
def vF {z:Int}(hm:hY z=true):(encodeRune z).map bO=encodeRune (iq z):=by
 have hr:=gw hm
 by_cases h:z<128
 ·have key:∀ n:Fin 128,(encodeRune (n.val:Int)).map bO=encodeRune (iq (n.val:Int)):=ZJ
  have:=key ⟨z.toNat,by omega⟩
  have e:((z.toNat:Nat):Int)=z:=Y6
  simpa only[e] using this
 ·have hf:iq z=z:=by
   unfold iq
   rw[if_neg]
   unfold nP
   simp only[WD];omega
  rw[hf]
  have hh:=rc (z:=z) Y6
  rw[show(encodeRune z).map bO=(encodeRune z).map id from W7 (fun c hc=>?_),Y4]
  have:=hh c hc
  have hb:cG c=false:=by
   unfold cG
   have hne:∀ d:UInt8,d.toNat<128->(c==d)=false:=fun d hd=>If (fun e=>by subst e;omega)
   rw[hne 32 ZI,hne 9 ZI,hne 10 ZI,hne 13 ZI];rfl
  unfold bO
  rw[hb];rfl
def CG {z:Int}(hm:hY z=true):hY (iq z)=true:=by
 unfold iq
 split
 ·decide
 ·exact hm
def Mb (zs:List Int)(h:zs.all hY=true):(enc zs).map bO=enc (zs.map iq):=by
 induction zs with
 | nil=>rfl
 | cons z zs ih =>
  simp only[List.all_cons,In]at h
  have e:enc (z::zs)=encodeRune z++enc zs:=by simp[enc]
  have e2:enc ((z::zs).map iq)=encodeRune (iq z)++enc (zs.map iq):=by simp[enc]
  rw[e,e2,WM,vF h.1,ih h.2]
def Cj {s:ZA}(h:(dn s).isSome=true):(dn (s.map bO)).isSome=true:=by
 obtain⟨zs,hz⟩:=OF.1 h
 obtain⟨hm,rfl⟩:=(mU s zs).1 hz
 rw[Mb zs hm,gQ]
 ·rfl
 ·rw[Y2,WI]
  intro z hz
  exact CG (WI.1 hm z hz)
def zJ {s:ZA}{p:Nat}(hp:p<s.length)(h:(dn (s.drop p)).isSome=true):∃ z:Int,((br s p).1:Int)=z/\hY z=true/\encodeRune z=(s.drop p).take (br s p).2/\1<=(br s p).2/\p+(br s p).2<=s.length/\(dn (s.drop (p+(br s p).2))).isSome=true/\(br s p).2=(encodeRune z).length:=by
 have ho:=Ns hp
 have hne:s.drop p≠[]:=by
  intro h
  have:=congrArg List.length h
  simp at this;omega
 split at ho
 ·rw[uv hne ho]at h;cases h
 ·obtain⟨_,hm,he,h1,h2⟩:=kT ho
  have hd:=lX ho
  rw[hd,List.drop_drop]at h
  simp only[Wd]at h2
  refine⟨_,rfl,hm,he,h1,by omega,by simpa using h,?_⟩
  rw[he,WK,Wd];omega
def zP {s:ZA}{p k:Nat}{z:Int}(hm:hY z=true)(he:encodeRune z=(s.drop p).take k):(s.take (p+k)).map bO=(s.take p).map bO++encodeRune (iq z):=by
 rw[List.take_add,WM,<- he,vF hm]
def vC:List V:=Lib.firstTab.map fun z=>.int .u8 z
def Sc:List V:=(List.range 16).flatMap fun i=>[V.int .u8 (Lib.accLo i),.int .u8 (Lib.accHi i)]
def Qq:cx.G 2 = .rp vC:=by show rX 2=_;unfold rX;rw[if_pos rfl];rfl
def UE:cx.G 3 = .rp Sc:=by show rX 3=_;unfold rX;rw[if_neg ZI,if_pos rfl];rfl
def On (t:ZA)(ht:t.length<=1000000)(nm:Nat):Ev cx 208 nm [.str (239::191::189::t)] ah.nil (.tup [.int .i32 65533,.int .i64 3]) []:=by
 have hf:(vC.drop 239)[0]? = some (.int .u8 3):=Y7
 have hf':239<vC.length:=ZJ
 have hf2:vC.length=256:=ZJ
 have hl:(239::191::189::t).length=t.length+3:=rfl
 have d1:decide (((t.length+3:Nat):Int)<1)=false:=aL
 have d2:decide ((t.length:Int)+3<1)=false:=aL
 have g0:(239::191::189::t)[0]? = some (239:UInt8):=rfl
 have g1:(239::191::189::t)[1]? = some (191:UInt8):=rfl
 have g2:(239::191::189::t)[2]? = some (189:UInt8):=rfl
 have l0:0<t.length+3:=Y6
 have l1:1<t.length+3:=Y6
 have l2:2<t.length+3:=Y6
 have t1:(239:UInt8).toNat=239:=rfl
 have t2:(191:UInt8).toNat=191:=rfl
 have t3:(189:UInt8).toNat=189:=rfl
 have p1:0<(vC.drop 239).length:=ZJ
 have s1:Int.fdiv 3 (2 ^ min 4 IntKind.u8.bits)=0:=ZJ
 have a1:List.take 2 Sc=[V.int .u8 128,V.int .u8 191]:=Y7
 have p2:2<=Sc.length:=ZJ
 have w1:IntKind.u8.wrap ((BitVec.ofInt IntKind.u8.bits 3 &&& BitVec.ofInt IntKind.u8.bits 7).toNat:Int)=3:=ZJ
 have w2:IntKind.i64.wrap 3=3:=by decide
 have d3:decide (((t.length+3:Nat):Int)<3)=false:=aL
 have d4:decide ((t.length:Int)+3<3)=false:=aL
 have x1:IntKind.u8.wrap ((BitVec.ofInt IntKind.u8.bits 239 &&& BitVec.ofInt IntKind.u8.bits 15).toNat:Int)=15:=ZJ
 have x2:IntKind.u8.wrap ((BitVec.ofInt IntKind.u8.bits 191 &&& BitVec.ofInt IntKind.u8.bits 63).toNat:Int)=63:=ZJ
 have x3:IntKind.u8.wrap ((BitVec.ofInt IntKind.u8.bits 189 &&& BitVec.ofInt IntKind.u8.bits 63).toNat:Int)=61:=ZJ
 have w3:IntKind.i32.wrap 15=15:=by decide
 have w4:IntKind.i32.wrap 63=63:=by decide
 have w5:IntKind.i32.wrap 61=61:=by decide
 have y1:IntKind.i32.wrap (15*2 ^ min 12 IntKind.i32.bits)=61440:=ZJ
 have y2:IntKind.i32.wrap (63*2 ^ min 6 IntKind.i32.bits)=4032:=ZJ
 have v1:IntKind.i32.wrap ((BitVec.ofInt IntKind.i32.bits 61440 ||| BitVec.ofInt IntKind.i32.bits 4032).toNat:Int)=65472:=ZJ
 have v2:IntKind.i32.wrap ((BitVec.ofInt IntKind.i32.bits 65472 ||| BitVec.ofInt IntKind.i32.bits 61).toNat:Int)=65533:=ZJ
 refine aG call208 func208 results208 ntmps208 ?_;intro b0 hb0 zN
 exact xP (a3 @Qq @UE (a9 hf hf' hf2 hl d1 d2 g0 g1 (a9 g2 l0 l1 l2 t1 t2 t3 @p1 (a9 @p2 s1 a1 w1 w2 w3 w4 w5 (a9 d3 d4 x1 x2 x3 y1 y2 v1 v2))))) trivial
def Q2 (t:ZA)(ht:t.length<=1000000)(nm:Nat):Ev cx 185 nm [.str (239::191::189::t)] ah.nil (.tup [.int .i32 65533,.int .i64 3]) []:=by
 have e0:(!((239::191::189::t)==([]:ZA)))=true:=rfl
 have e0':((239::191::189::t) !=([]:ZA))=true:=rfl
 have hl:(239::191::189::t).length=t.length+3:=rfl
 have g0:(239::191::189::t)[0]? = some (239:UInt8):=rfl
 have l0:0<t.length+3:=Y6
 have t1:(239:UInt8).toNat=239:=rfl
 refine aG call185 func185 results185 ntmps185 ?_;intro b0 hb0 zN
 exact xP (a6 e0 e0' hl g0 l0 t1) (On t ht)
def Hc:V:=.fn 176 []
def yk {s:ZA}{p:Nat}(h:(s.take p).map bO=s.take p)(hp:p=s.length):s.map bO=s:=by
 subst hp;rwa[WJ]at h
def Nl {z:Int}(h:z=9\/z=10\/z=13\/z=32):encodeRune z=[z.toNat.toUInt8]/\0<=z/\z<=127:=by
 refine⟨?_,by omega,by omega⟩
 rcases h with rfl|rfl|rfl|rfl<;>decide +kernel
def Hq {z:Int}(h0:0<=z)(h:z<128):encodeRune z=[z.toNat.toUInt8]:=by
 have key:∀ n:Fin 128,encodeRune (n.val:Int)=[(n.val:Int).toNat.toUInt8]:=ZJ
 have:=key ⟨z.toNat,by omega⟩
 have e:((z.toNat:Nat):Int)=z:=Y6
 simpa only[e] using this
def MY {z:Int}(h0:0<=z)(h:z<128):IntKind.u8.wrap z=((z.toNat.toUInt8).toNat:Int):=by
 have key:∀ n:Fin 128,IntKind.u8.wrap (n.val:Int)=(((n.val:Int).toNat.toUInt8).toNat:Int):=ZJ
 have:=key ⟨z.toNat,by omega⟩
 have e:((z.toNat:Nat):Int)=z:=Y6
 simpa only[e] using this
def Gu (σ:Y8)(q y a b:Nat):Blk.ren σ (bK true q (.own y a b))=bK true ((aO σ q).getD q) (.own ((aO σ y).getD y) a b):=by
 simp[bK,Blk.ren,j8,renL,V.ren,plainLL,plainL,V.plain,Ob.ren,instCells]
def wN (σ:Y8)(q y a b:Nat)(h1:(aO σ q).isSome=true)(h2:(aO σ y).isSome=true):Blk.renOk σ (bK true q (.own y a b))=true:=by
 simp[bK,Blk.renOk,gA,renOkL,V.renOk,h1,h2,Ob.renOk,instCells]
def M3 (s:ZA)(hs:s.length<=20000)(hdec:(dn s).isSome=true)(nm:Nat):Ev cx 175 nm [Hc,.str s] ah.nil (.str (s.map bO)) []:=by
  unfold Hc
  refine aG call175 func175 results175 ntmps175 ?_;intro b0 hb0 zN
  repeat' first|simp only[au,aH,seval]|(refine o8 (s:=?_) ?_ ?_ ?_;rotate_left 1;(iterate 2 (focus (simp only[au,aH,seval]<;>exact rfl))))
  (refine v8 (fun x:Nat=>s.length-x) (fun x=>x<=s.length/\(dn (s.drop x)).isSome=true/\(s.take x).map bO=s.take x) (b0+16) (fun x=>[(0,.fn 176 []),(1,.str s),(5,.ptr (b0+1) 0 0),(14,.ptr b0 0 0)]) (fun x=>[(b0,mb s x),(b0+1,bK false (b0+1) .nils)]) (0) [some (b0+48),some (b0+16)] ?_ ?_ ?_;(focus (refine⟨?_,?_⟩<;>(try simp only[bL,gM,eS,kB,gU,eC,au,aB,seval])<;>(try omega))))
  · exact⟨WB _,by rw[WP];exact hdec,rfl⟩
  · rintro p ⟨h1,h2,h3⟩
    by_cases hp:p<s.length
    · obtain ⟨z,hz,hm,he,hk1,hk2,hd2,hk3⟩:=zJ hp h2
      have hmz:=(fU z).1 hm
      have hfe:=Hd z hm
      have htf:=zP hm he
      by_cases hfz:iq z=z
      · have q1:(iq z==z)=true:=by rw[hfz];simp
        have hnx:(s.take (p+(br s p).2)).map bO=s.take (p+(br s p).2):=by
          rw[htf,h3,hfz,List.take_add,<- he]
        by_cases h65:z=65533
        · subst h65
          have hk3':(br s p).2=3:=by rw[hk3];decide +kernel
          have hdr:s.drop p=239::191::189::s.drop (p+3):=by
            rw[hk3']at he
            have h4:=List.take_append_drop 3 (s.drop p)
            rw[<- he,show encodeRune 65533=[239,191,189] by decide +kernel,List.drop_drop]at h4
            exact h4.symm
          have hodd:=Q2 (s.drop (p+3)) ZK
          have q3:(iq 65533==65533)=true:=q1
          have hpi:(p:Int)<=(s.length:Int):=Y6
          rw[hfz]at hfe
          repeat' first|simp only[aF,h1,hz,hdr,kB,au,aH,seval]|(first|(refine ad ?_ (hfe _) ?_)|(refine ad ?_ (hodd _) ?_))|(refine jE (s:=?_) (y:=?_) (p:=?_) ?_ ?_ ?_ ?_;rotate_left 3;(iterate 2 (focus (simp only[aF,au,seval]<;>exact rfl)));(focus (simp only[hp]<;>omega)))|((refine aU (g:=?_) ?_ ?_);rotate_left 1;(focus (simp only[aF,au,seval]<;>exact rfl)))
          all_goals ((refine pX (p+(br s p).2) [some b0,some (b0+1)] ?_ ?_ ?_;(focus (refine⟨?_,?_⟩<;>(try simp only[bL,gM,eS,gU,eC,au,aB,seval])<;>(try omega)))))
          all_goals (first|(show s.length-(p+(br s p).2)<s.length-p;omega)|exact⟨hk2,hd2,hnx⟩ )
        · have q2:(!(z==65533))=true:=by rw[If h65];rfl
          have q2':(z != 65533)=true:=q2
          repeat' first|simp only[aF,hz,q1,q2',kB,au,seval]|refine ad ?_ (hfe _) ?_|(refine jE (s:=?_) (y:=?_) (p:=?_) ?_ ?_ ?_ ?_;rotate_left 3;(iterate 2 (focus (simp only[aF,au,seval]<;>exact rfl)));(focus (simp only[hp]<;>omega)))|((refine aU (g:=?_) ?_ ?_);rotate_left 1;(focus (simp only[aF,au,seval]<;>exact rfl)))
          all_goals ((refine pX (p+(br s p).2) [some b0,some (b0+1)] ?_ ?_ ?_;(focus (refine⟨?_,?_⟩<;>(try simp only[bL,gM,eS,gU,eC,au,aB,seval])<;>(try omega)))))
          all_goals (first|(show s.length-(p+(br s p).2)<s.length-p;omega)|exact⟨hk2,hd2,hnx⟩ )
      · have hz4:z=9\/z=10\/z=13:=by
          unfold iq nP at hfz
          split at hfz
          · rename_i h;simp only[WD]at h;omega
          · exact absurd rfl hfz
        have hf32:iq z=32:=by
          unfold iq nP
          rw[if_pos (by simp only[WD];omega)]
        have hen:=Nl (z:=z) Y6
        have hk1':(br s p).2=1:=by rw[hk3,hen.1];rfl
        have q1:((32:Int)==z)=false:=If Y6
        have q65:(z==65533)=false:=If Y6
        have hrl:=DR z hen.2.1 hen.2.2
        have hpi:(p:Int)<=(s.length:Int):=Y6
        have hw1:IntKind.i64.wrap ((s.length:Int)+4)=((s.length+4:Nat):Int):=aX
        have hw2:=eX p
        have hpi2:((p+1:Nat):Int)<=(s.length:Int):=Y6
        have hp1:p+1<=s.length:=Y6
        have htl:(s.take p).length=p:=by rw[WK];omega
        rw[hf32]at hfe
        have hm32:hY 32=true:=by decide
        have hws:=fun (M':ah) (n':Nat) (a:M' (b0+1)=some (bK true (b0+1) (.own (b0+432) 0 0))) (b:M' (b0+432)=some (rK [])) (d:∀ z,(M' z).isSome=true->z∈[b0+1,b0+432]) (hn1:b0+1<n') (hn2:b0+432<n')=>Ee true (b0+1) (b0+432) [] (s.take p) (by unfold aN;simp;omega) M' n' Y6 a b d hn1 hn2
        simp only[List.nil_append,List.length_nil,We,htl]at hws
        have hwr:=fun (M':ah) (n':Nat) (a:M' (b0+1)=some (bK true (b0+1) (.own (b0+496) 0 (s.take p).length))) (b:M' (b0+496)=some (rK (s.take p))) (d:∀ z,(M' z).isSome=true->z∈[b0+1,b0+496]) (hn1:b0+1<n') (hn2:b0+496<n')=>Ec 32 hm32 (b0+1) (b0+496) (s.take p) Y6 M' n' Y6 a b d hn1 hn2
        have he32:encodeRune 32=[32]:=ZJ
        simp only[htl,he32,List.length_cons,List.length_nil,We]at hwr
        have hlo:(s.take p++[32]).length=p+1:=by simp;omega
        repeat' first|simp only[aK,aF,h1,hp1,hz,q1,q65,hw1,hw2,kB,aD,au,aH,seval]|(first|(refine ad ?_ (hfe _) ?_)|(refine ad ?_ (hrl _) ?_))|refine ab ?_ [b0+1] (LH false (b0+1) (s.length+4) Y6 Y6 _ _ ?_ ac Y6) ?_ ?_|refine ab ?_ [b0+1,b0+432] (hws _ _ ?_ ?_ ac Y6 Y6) ?_ ?_|refine ab ?_ [b0+1,b0+496] (hwr _ _ ?_ ?_ ac Y6 Y6) ?_ ?_|(refine jE (s:=?_) (y:=?_) (p:=?_) ?_ ?_ ?_ ?_;rotate_left 3;(iterate 2 (focus (simp only[aF,au,seval]<;>exact rfl)));(focus (simp only[hp]<;>omega)))|((refine aU (g:=?_) ?_ ?_);rotate_left 1;(focus (simp only[aF,au,seval]<;>exact rfl)))
        have hcap:=fun (M':ah) (n':Nat) (a:M' (b0+1)=some (bK true (b0+1) (.own (b0+560) 0 (s.take p++[32]).length))) (b:M' (b0+560)=some (rK (s.take p++[32]))) (d:∀ z,(M' z).isSome=true->z∈[b0+1,b0+560]) (hn1:b0+1<n') (hn2:b0+560<n')=>H1 (b0+1) (b0+560) (s.take p++[32]) M' n' Y6 a b d hn1 hn2
        simp only[hlo]at hcap
        refine Ie ?_ [b0+1,b0+560] (hcap _ _ ?_ ?_ ac Y6 Y6) ?_ ?_
        iterate 4 (focus (simp only[aK,aF,au,seval]<;>exact rfl))
        rintro v ⟨c,hc,rfl⟩
        have hc0:((c:Int)==0)=false:=If Y6
        repeat' first|simp only[aF,hc0,au,seval]|(refine o8 (s:=?_) ?_ ?_ ?_;rotate_left 1;(iterate 2 (focus (simp only[aF,au,aH,seval]<;>exact rfl))))
        obtain⟨r,hr⟩:∃ r,r=s.drop (p+1):=⟨_,rfl⟩
        obtain⟨pre,hpre⟩:∃ u,u=s.take p++[32]:=⟨_,rfl⟩
        rw[h3,hf32,he32,hk1']at htf
        have hfl:s.map bO=pre++r.map bO:=by rw[hpre,hr,<- htf,<- WM,List.take_append_drop]
        rw[hk1',<- hr]at hd2
        rw[<- hpre]at hlo
        have hrn:p+1+r.length=s.length:=by rw[hr,Wd];omega
        rw[<- hr,<- hpre,hfl]
        clear hcap hwr hws hfl hfe htf
        obtain⟨P,hP⟩:∃ P,P=p+1:=⟨_,rfl⟩
        rw[<- hP]at hlo hrn
        rw[<- hP]
        (refine v8 (fun x:Nat=>r.length-x) (fun x=>x<=r.length/\(dn (r.drop x)).isSome=true) (b0+16) (fun x=>[(0,.fn 176 []),(5,.ptr (b0+1) 0 0),(68,.ptr b0 0 0)]) (fun x=>[(b0,mb r x),(b0+1,bK true (b0+1) (.own (b0+2) 0 (P+x))),(b0+2,rK (pre++(r.take x).map bO))]) (0) [some (b0+720),some (b0+1),some (b0+560)] ?_ ?_ ?_;(focus (refine⟨?_,?_⟩<;>(try simp only[bL,gM,eS,Gu,wN,ib,ed,List.take_zero,Lo,WR,Nat.add_zero,au,aB,seval])<;>(try omega))))
        · exact⟨WB _,by rw[WP];exact hd2⟩
        · rintro x ⟨g1,g2⟩
          by_cases gx:x<r.length
          · obtain⟨z',gz,gm,ge,gk1,gk2,gd2,gk3⟩:=zJ gx g2
            have gfe:=Hd z' gm
            have gtf:=zP gm ge
            have gfm:=CG gm
            obtain⟨w,hw⟩:∃ w,w=iq z':=⟨_,rfl⟩
            rw[<- hw]at gfe gtf gfm
            have gwr:=gw gfm
            have gw0:decide (0<=w)=true:=bz
            have glo:(pre++(r.take x).map bO).length=P+x:=by rw[List.length_append,Lm,WK,hlo];omega
            have gnx:pre++(r.take x).map bO++encodeRune w=pre++(r.take (x+(br r x).2)).map bO:=by rw[gtf,WV]
            have gkk:(br r x).2=(encodeRune w).length:=by rw[gk3,hw,<- vF gm,Lm]
            rw[gkk]at gnx gd2 gk2 gk1
            by_cases g128:w<128
            · have gd:decide (w<128)=true:=AI g128
              have gen:=Hq (z:=w) Y6 g128
              have gu:IntKind.u8.wrap w=((w.toNat.toUInt8).toNat:Int):=MY Y6 g128
              have gl1:(encodeRune w).length=1:=by rw[gen];rfl
              rw[gl1]at gnx gd2 gk2 gkk
              rw[gen]at gnx
              have hwb:=fun (M':ah) (n':Nat) (a:M' (b0+1)=some (bK true (b0+1) (.own (b0+2) 0 (pre++(r.take x).map bO).length))) (b:M' (b0+2)=some (rK (pre++(r.take x).map bO))) (d:∀ z,(M' z).isSome=true->z∈[b0+1,b0+2]) (hn1:b0+1<n') (hn2:b0+2<n')=>z7 true (b0+1) (b0+2) (pre++(r.take x).map bO) w.toNat.toUInt8 (by unfold aN;omega) M' n' Y6 a b d hn1 hn2
              simp only[glo,gnx,<- gu]at hwb
              repeat' first|simp only[aK,aF,gz,gw0,gd,gkk,au,aH,seval]|refine ad ?_ (gfe _) ?_|refine ab ?_ [b0+1,b0+2] (hwb _ _ ?_ ?_ ac Y6 Y6) ?_ ?_|(refine jE (s:=?_) (y:=?_) (p:=?_) ?_ ?_ ?_ ?_;rotate_left 3;(iterate 2 (focus (simp only[aF,au,seval]<;>exact rfl)));(focus (simp only[gx]<;>omega)))|((refine aU (g:=?_) ?_ ?_);rotate_left 1;(focus (simp only[aF,au,seval]<;>exact rfl)))|refine Ai Y6 ?_
              all_goals (first|omega|skip)
              all_goals ((refine pX (x+1) [some b0,some (b0+1),some (b0+240)] ?_ ?_ ?_;(focus (refine⟨?_,?_⟩<;>(try simp only[bL,gM,eS,Gu,wN,ib,ed,au,aB,seval])<;>(try omega)))))
              all_goals (first|(show r.length-(x+1)<r.length-x;omega)|exact⟨gk2,gd2⟩ )
            · have gd:decide (w<128)=false:=WA g128
              have hwb:=fun (M':ah) (n':Nat) (a:M' (b0+1)=some (bK true (b0+1) (.own (b0+2) 0 (pre++(r.take x).map bO).length))) (b:M' (b0+2)=some (rK (pre++(r.take x).map bO))) (d:∀ z,(M' z).isSome=true->z∈[b0+1,b0+2]) (hn1:b0+1<n') (hn2:b0+2<n')=>Ec w gfm (b0+1) (b0+2) (pre++(r.take x).map bO) Y6 M' n' Y6 a b d hn1 hn2
              simp only[glo,gnx]at hwb
              repeat' first|simp only[aK,aF,gz,gw0,gd,gkk,au,seval]|refine ad ?_ (gfe _) ?_|refine ab ?_ [b0+1,b0+2] (hwb _ _ ?_ ?_ ac Y6 Y6) ?_ ?_|(refine jE (s:=?_) (y:=?_) (p:=?_) ?_ ?_ ?_ ?_;rotate_left 3;(iterate 2 (focus (simp only[aF,au,seval]<;>exact rfl)));(focus (simp only[gx]<;>omega)))|((refine aU (g:=?_) ?_ ?_);rotate_left 1;(focus (simp only[aF,au,seval]<;>exact rfl)))|refine Ai Y6 ?_
              all_goals (first|omega|skip)
              all_goals ((refine pX (x+(encodeRune w).length) [some b0,some (b0+1),some (b0+224)] ?_ ?_ ?_;(focus (refine⟨?_,?_⟩<;>(try simp only[bL,gM,eS,Gu,wN,ib,ed,au,aB,seval])<;>(try omega)))))
              all_goals (first|(show r.length-(x+(encodeRune w).length)<r.length-x;omega)|exact⟨gk2,gd2⟩ )
          · have gxe:x=r.length:=Y6
            have gtk:(r.take x)=r:=by rw[gxe,WJ]
            have glo:(pre++r.map bO).length=P+x:=by rw[List.length_append,Lm,hlo,gxe]
            rw[gtk]
            have hbs:=fun (M':ah) (n':Nat) (a:M' (b0+1)=some (bK true (b0+1) (.own (b0+2) 0 (pre++r.map bO).length))) (b:M' (b0+2)=some (rK (pre++r.map bO))) (d:∀ z,(M' z).isSome=true->z∈[b0+1,b0+2]) (hn1:b0+1<n') (hn2:b0+2<n')=>B6 true (b0+1) (b0+2) (pre++r.map bO) (by intro h;rw[h]at glo;simp at glo;omega) (by unfold aN;omega) M' n' Y6 a b d hn1 hn2
            simp only[glo]at hbs
            (repeat' first|simp only[aK,results175,ntmps175,aF,au,seval]|refine ab ?_ [b0+1,b0+2] (hbs _ _ ?_ ?_ ac Y6 Y6) ?_ ?_|(refine re (s:=?_) (y:=?_) (p:=?_) ?_ ?_ ?_ ?_;rotate_left 3;(iterate 2 (focus (simp only[aF,au,seval]<;>exact rfl)));(focus (simp only[gx,au]<;>omega))) | apply Fin.pure)
    · have hpe:p=s.length:=Y6
      have hr:=yk h3 hpe
      have hd0:decide ((0:Int)=0)=true:=rfl
      rw[hr]
      (repeat' first|simp only[aK,results175,ntmps175,aF,kB,au,seval]|refine ab ?_ [b0+1] (LG false (b0+1) _ _ ?_ ac Y6) ?_ ?_|(refine re (s:=?_) (y:=?_) (p:=?_) ?_ ?_ ?_ ?_;rotate_left 3;(iterate 2 (focus (simp only[aF,au,seval]<;>exact rfl)));(focus (simp only[hp,au]<;>omega))) | apply Fin.pure)
def cm (s:ZA):Blk:=⟨1,[[.str s]]⟩
def E2 (s p:ZA)(hs:s.length<=aN)(hp:p.length<=aN)(q:Nat)(M:ah)(nm:Nat)(hq:M q=some (cm s))(ho:∀ z,(M z).isSome=true->z∈[q])(hqn:q<nm) :
  Ev cx 94 nm [.ptr q 0 0,.str p] M (.bool (preB s p)) [(q,some (cm (if preB s p=true then s.drop p.length else s)))]:=by
 have h:=oX s p hs hp
 cases hb:preB s p with
 | true =>
  rw[oE hb]at h
  simp only[WQ]
  unfold cm at hq ⊢
  refine aG call94 func94 results94 ntmps94 ?_;intro b0 hb0 zN
  have lq:=aq hb0 hq
  have z0:=aE lq;have z1:=ak lq;have z2:=ay lq;have z3:=ae lq
  (refine xR (a5 hq z0 z1 z2 z3) h ?_)
  all_goals ((have zF:=a5 hq z0 z1 z2 z3;refine jW [(q,none)] [] ho))
 | false =>
  rw[rM hb]at h
  simp only[WH,WS]
  unfold cm at hq ⊢
  refine aG call94 func94 results94 ntmps94 ?_;intro b0 hb0 zN
  have lq:=aq hb0 hq
  have z0:=aE lq;have z1:=ak lq;have z2:=ay lq;have z3:=ae lq
  (refine xR (a5 hq z0 z1 z2 z3) h ?_)
  all_goals ((have zF:=a5 hq z0 z1 z2 z3;refine jW [(q,none)] [] ho))
def lE (s:ZA)(hs:s.length<=aN)(q:Nat)(M:ah)(nm:Nat)(hq:M q=some (cm s))(ho:∀ z,(M z).isSome=true->z∈[q])(hqn:q<nm) :
  Ev cx 143 nm [.ptr q 0 0] M (.bool (decide ((aT s).length<s.length))) [(q,some (cm (aT s)))]:=by
 have h:=BA gP s ZI ZI ZI hs
 rw[zY]at h
 change ∀ nm,Ev cx _ nm _ ah.nil (.str (aT s)) []at h
 unfold gP at h
 have hd:decide (((aT s).length:Int)<(s.length:Int))=decide ((aT s).length<s.length):=Ym.2 Y6
 unfold cm at hq ⊢
 refine aG call143 func143 results143 ntmps143 ?_;intro b0 hb0 zN
 have lq:=aq hb0 hq
 have z0:=aE lq;have z1:=ak lq;have z2:=ay lq;have z3:=ae lq
 (refine xR (a6 hq z0 z1 z2 z3 hd) h ?_)
 all_goals ((have zF:=a6 hq z0 z1 z2 z3 hd;refine jW [(q,none)] [] ho))
section
variable {cx:Cx} {Q:Post} {st:List Frm} {nm:Nat} {e:Env} {M:ah} {d:Bool} {fs:Y9} {ops r:ZD} {dst:Option Tmp} {t:TypeId} {pos:String} {af:Array Edge} {gd:Option (Nat×Bool)} {i:Nat}
def Ia (P:Program)(t:TypeId):Bool:=match P.underlying t with
 | some (.interface _)|none=>false
 | some _=>true
def Rp {P:Program}{w:World}{t:TypeId}(x:Value)(h:Ia P t=true):(Instr.makeInterface t x).run P w = .ok (.iface t x) w:=by
 unfold Ia at h
 cases hu:P.underlying t with
 | none=>rw[hu]at h;cases h
 | some u =>
  rw[hu]at h
  simp only[Instr.makeInterface,Sem.run_bind,run_underlying hu w,Result.andThen_ok]
  cases u<;>first|rfl|cases h
def lY {ty:TypeId}{x:Operand}{u:V}(hx:ap cx.G true e x=u)(ht:Ia cx.P ty=true)
  (h:bb cx Q st nm (e.putD dst (.iface ty u)) M d (fs++[[]]) ops r (i+1)):eH cx Q st nm e M d fs ops ⟨dst,.makeInterface ty x,t,pos,af,gd⟩ r i:=by
 refine⟨_,[],_,⟨fun x hx=>by simp[al]at hx,fun x hx=>by simp[al]at hx,fun h=>absurd rfl h,fun h=>absurd rfl h,?_⟩,h⟩
 intro N X w0 I ρ e' M' a w hr he hin hev hMM hf
 have hxi:=he.eval hr (c:=true) rfl (hin x (by simp[Op.operands]))
 rw[hev x (by simp[Op.operands]),hx]at hxi
 exact⟨_,w,(db.still (nm:=nm+16*i) hr (.iface (t:=ty) hxi)).n,iX (s:=Instr.makeInterface ty (a.eval x)) rfl (Rp _ ht)⟩
end
def FY:V:=.iface 23 (.int .i64 80)
def jj (q:Nat)(M:ah)(nm:Nat):BI cx 98 nm [.ptr q 0 0] M FY:=by
 unfold FY
 refine kH rfl qc rfl call98 func98 rfl mixed (by kernel_rfl) rfl ?_;intro b0 hb0
 repeat' first|simp only[cC,aK,results98,ntmps98,aF,dS,dT,aQ,bv,fV,au,aH,seval]|exact rfl|refine ao (v:=.any) ?_|refine lY rfl (by kernel_rfl) ?_|((first|apply b7|apply cM)<;>intro hb)|refine Ai Y6 ?_|(apply Ai<;>intro hb)
def uJ {s:ZA}{x:Nat}(h:∀ c∈s.take x,fm c=true)(h2:∀ c,s[x]? = some c->fm c=false):gp s=s.take x/\xw s=s.drop x:=by
 have e:s=s.take x++s.drop x:=(List.take_append_drop x s).symm
 have hd:(s.drop x).takeWhile fm=[]/\(s.drop x).dropWhile fm=s.drop x:=by
  cases hc:s.drop x with
  | nil=>exact⟨rfl,rfl⟩
  | cons c t =>
   have:s[x]? = some c:=by
    have:=congrArg List.head? hc
    simpa [List.head?_drop] using this
   rw[X1,Xe,h2 c this]
   exact⟨rfl,rfl⟩
 unfold gp xw
 constructor
 ·conv=>lhs;rw[e]
  rw[List.takeWhile_append_of_pos h,hd.1,WR]
 ·conv=>lhs;rw[e]
  rw[List.dropWhile_append_of_pos h,hd.2]
def z8 {s:ZA}{x:Nat}{c:UInt8}(h:∀ c∈s.take x,fm c=true)(hc:s[x]? = some c)(hw:fm c=true):∀ c∈s.take (x+1),fm c=true:=by
 intro d hd
 rw[List.take_add_one,hc]at hd
 rcases Wf.1 hd with hd|hd
 ·exact h d hd
 ·simp at hd;rw[hd];exact hw
def sN {s n r:ZA}(h:ep s=some (n,r)):gp s=n/\xw s=r/\bI n=true:=by
 unfold ep at h
 split at h
 ·rename_i hf;cases h;exact⟨rfl,rfl,hf⟩
 ·cases h
def zf {s:ZA}(h:ep s=none):bI (gp s)=false:=by
 unfold ep at h
 split at h
 ·cases h
 ·rename_i hf;simpa using hf
def mG (s n r:ZA)(hs:s.length<=1000000)(hn:ep s=some (n,r))(q:Nat)(M:ah)(nm:Nat)(hq:M q=some (cm s))(ho:∀ z,(M z).isSome=true->z∈[q])(hqn:q<nm) :
  Ev cx 142 nm [.ptr q 0 0] M (.str n) [(q,some (cm r))]:=by
 obtain⟨hw1,hw2,hfl⟩:=sN hn
 unfold cm at hq ⊢
 refine aG call142 func142 results142 ntmps142 ?_;intro b0 hb0 zN
 have lq:=aq hb0 hq
 have z0:=aE lq;have z1:=ak lq;have z2:=ay lq;have z3:=ae lq
 (refine xR trivial trivial ?_)
 (have zF:=a5 hq z0 z1 z2 z3;refine fu (fun x:Nat=>s.length-x) (fun x=>x<=s.length/\(∀ c∈s.take x,fm c=true)) (b0+16) (fun x=>[(0,.ptr q 0 0),(3,.int .i64 x)]) (fun x=>[(q,⟨1,[[.str s]]⟩)]) (0) [some q] ?_ ?_)
 ·exact⟨WB _,by simp⟩
 ·rintro x ⟨h1,h2⟩
  have hend:∀(hx:∀ c,s[x]? = some c->fm c=false),s.take x=gp s/\s.drop x=xw s:=fun hx=>⟨(uJ h2 hx).1.symm,(uJ h2 hx).2.symm⟩
  have h1':(x:Int)<=(s.length:Int):=Y6
  by_cases hx:x<s.length
  ·obtain⟨c,hc⟩:=js hx
   have hx':=AW x s.length
   have hpe:=Bg c false
   have q58:((c.toNat:Int)==58)=decide (c=58):=aW c 58
   have hwx:=eX x
   have hwc:fm c=(ja false c||decide (c=58)):=by unfold fm;congr 1
   have hgo:∀(hp:fm c=true),x+1<=s.length /\ ∀ c∈s.take (x+1),fm c=true:=fun hp=>⟨by omega,z8 h2 hc hp⟩
   cases hp:ja false c<;>cases h58:decide (c=58)<;>rw[hp,h58]at hwc<;>rw[hp]at hpe<;>rw[h58]at q58
   ·have he:=hend (fun d hd=>by rw[hc]at hd;cases hd;exact hwc)
    have hfe:=kc (gp s) (by unfold aN;rw[<- he.1,WK];omega)
    rw[hw1,hfl]at hfe
    have e1:s.take x=n:=by rw[he.1,hw1]
    have e2:s.drop x=r:=by rw[he.2,hw2]
    (have zF:=a8 hc hx' h1 h1' hx q58 e1 e2;have cF:=a2 hfe hpe;repeat' first|refine wS ?_|exact wE|refine ao (v:=.any) ?_|refine Ai Y6 ?_)
    all_goals ((have zF:=a5 hq z0 z1 z2 z3;refine jW [(q,none)] [] ho))
   ·(have zF:=a7 hc hx' h1 h1' hx q58 hwx;have cF:=hpe;repeat' first|refine wS ?_|exact wE|refine ao (v:=.any) ?_|refine Ai Y6 ?_)
    all_goals ((have zF:=a5 hq z0 z1 z2 z3;refine c7 (x+1) [some q] ?_ ?_))
    all_goals (first|(show s.length-(x+1)<s.length-x;omega)|exact hgo hwc|skip)
   ·(have zF:=a7 hc hx' h1 h1' hx q58 hwx;have cF:=hpe;repeat' first|refine wS ?_|exact wE|refine ao (v:=.any) ?_|refine Ai Y6 ?_)
    all_goals ((have zF:=a5 hq z0 z1 z2 z3;refine c7 (x+1) [some q] ?_ ?_))
    all_goals (first|(show s.length-(x+1)<s.length-x;omega)|exact hgo hwc|skip)
   ·(have zF:=a7 hc hx' h1 h1' hx q58 hwx;have cF:=hpe;repeat' first|refine wS ?_|exact wE|refine ao (v:=.any) ?_|refine Ai Y6 ?_)
    all_goals ((have zF:=a5 hq z0 z1 z2 z3;refine c7 (x+1) [some q] ?_ ?_))
    all_goals (first|(show s.length-(x+1)<s.length-x;omega)|exact hgo hwc|skip)
  ·have hx':=pK x s.length
   have hxe:s[x]? = none:=W0 Y6
   have he:=hend (fun d hd=>by rw[hxe]at hd;cases hd)
   have hfe:=kc (gp s) (by unfold aN;rw[<- he.1,WK];omega)
   rw[hw1,hfl]at hfe
   have e1:s.take x=n:=by rw[he.1,hw1]
   have e2:s.drop x=r:=by rw[he.2,hw2]
   (have zF:=a7 hxe hx' h1 h1' hx e1 e2;have cF:=hfe;repeat' first|refine wT ?_|exact wU|refine ao (v:=.bool false) ?_|refine Ai Y6 ?_)
   all_goals ((have zF:=a5 hq z0 z1 z2 z3;refine jW [(q,none)] [] ho))
def s8 (s:ZA)(hs:s.length<=1000000)(hn:ep s=none)(q:Nat)(M:ah)(nm:Nat)(hq:M q=some (cm s))(ho:∀ z,(M z).isSome=true->z∈[q])(hqn:q<nm) :
  BI cx 142 nm [.ptr q 0 0] M FY:=by
 have hfl:=zf hn
 unfold cm at hq
 refine kH rfl qc rfl call142 func142 rfl mixed (by kernel_rfl) rfl ?_;intro b0 hb0;have zF:=Ai results142 ntmps142
 have lq:=aq hb0 hq
 have z0:=fR lq
 repeat' first|simp only[cC,aK,zF,aF,au,aH,seval]|exact rfl|refine ao (v:=.any) ?_|((first|apply b7|apply cM)<;>intro hb)|refine Ai Y6 ?_|(apply Ai<;>intro hb)
 (refine v8 (fun x:Nat=>s.length-x) (fun x=>x<=s.length/\(∀ c∈s.take x,fm c=true)) (b0+16) (fun x=>[(0,.ptr q 0 0),(3,.int .i64 x)]) (fun x=>[(q,⟨1,[[.str s]]⟩)]) (0) [some q] ?_ ?_ ?_;(focus (refine⟨?_,?_⟩<;>(try simp only[bL,hq,z0,au,aH,aB,seval])<;>(try omega))))
 ·exact⟨WB _,by simp⟩
 ·rintro x ⟨h1,h2⟩
  have hend:∀(hx:∀ c,s[x]? = some c->fm c=false),s.take x=gp s/\s.drop x=xw s:=fun hx=>⟨(uJ h2 hx).1.symm,(uJ h2 hx).2.symm⟩
  have h1':(x:Int)<=(s.length:Int):=Y6
  by_cases hx:x<s.length
  ·obtain⟨c,hc⟩:=js hx
   have hx':=AW x s.length
   have hpe:=Bg c false
   have q58:((c.toNat:Int)==58)=decide (c=58):=aW c 58
   have hwx:=eX x
   have hwc:fm c=(ja false c||decide (c=58)):=by unfold fm;congr 1
   have hgo:∀(hp:fm c=true),x+1<=s.length /\ ∀ c∈s.take (x+1),fm c=true:=fun hp=>⟨by omega,z8 h2 hc hp⟩
   cases hp:ja false c<;>cases h58:decide (c=58)<;>rw[hp,h58]at hwc<;>rw[hp]at hpe<;>rw[h58]at q58
   ·have he:=hend (fun d hd=>by rw[hc]at hd;cases hd;exact hwc)
    have hfe:=kc (gp s) (by unfold aN;rw[<- he.1,WK];omega)
    rw[hfl]at hfe
    have e1:s.take x=gp s:=he.1
    repeat' first|simp only[cC,aK,zF,aF,hc,hx',h1,h1',hx,q58,e1,dS,dT,aQ,bv,bf,fV,au,aH,seval]|exact rfl|refine ao (v:=.any) ?_|(first|(refine ad ?_ (hfe _) ?_)|(refine ai ?_ (fun _=>hfe _) ?_)|(refine ad ?_ (hpe _) ?_)|(refine ai ?_ (fun _=>hpe _) ?_))|refine ao (v:=.any) ?_|refine c8 rfl [q] (jj q _ _) ?_|refine Ai Y6 ?_
   ·repeat' first|simp only[cC,aK,zF,aF,hc,hx',h1,h1',hx,q58,hwx,au,aH,seval]|exact rfl|refine ao (v:=.any) ?_|(first|(refine ad ?_ (hpe _) ?_)|(refine ai ?_ (fun _=>hpe _) ?_))|refine ao (v:=.any) ?_|refine Ai Y6 ?_
    all_goals ((refine pX (x+1) [some q] ?_ ?_ ?_;(focus (refine⟨?_,?_⟩<;>(try simp only[bL,hq,z0,au,aH,aB,seval])<;>(try omega)))))
    all_goals (first|(show s.length-(x+1)<s.length-x;omega)|exact hgo hwc|skip)
   ·repeat' first|simp only[cC,aK,zF,aF,hc,hx',h1,h1',hx,q58,hwx,au,aH,seval]|exact rfl|refine ao (v:=.any) ?_|(first|(refine ad ?_ (hpe _) ?_)|(refine ai ?_ (fun _=>hpe _) ?_))|refine ao (v:=.any) ?_|refine Ai Y6 ?_
    all_goals ((refine pX (x+1) [some q] ?_ ?_ ?_;(focus (refine⟨?_,?_⟩<;>(try simp only[bL,hq,z0,au,aH,aB,seval])<;>(try omega)))))
    all_goals (first|(show s.length-(x+1)<s.length-x;omega)|exact hgo hwc|skip)
   ·repeat' first|simp only[cC,aK,zF,aF,hc,hx',h1,h1',hx,q58,hwx,au,aH,seval]|exact rfl|refine ao (v:=.any) ?_|(first|(refine ad ?_ (hpe _) ?_)|(refine ai ?_ (fun _=>hpe _) ?_))|refine ao (v:=.any) ?_|refine Ai Y6 ?_
    all_goals ((refine pX (x+1) [some q] ?_ ?_ ?_;(focus (refine⟨?_,?_⟩<;>(try simp only[bL,hq,z0,au,aH,aB,seval])<;>(try omega)))))
    all_goals (first|(show s.length-(x+1)<s.length-x;omega)|exact hgo hwc|skip)
  ·have hx':=pK x s.length
   have hxe:s[x]? = none:=W0 Y6
   have he:=hend (fun d hd=>by rw[hxe]at hd;cases hd)
   have hfe:=kc (gp s) (by unfold aN;rw[<- he.1,WK];omega)
   rw[hfl]at hfe
   have e1:s.take x=gp s:=he.1
   repeat' first|simp only[cC,aK,zF,aF,hxe,hx',h1,h1',hx,e1,dS,dT,aQ,bv,bf,fV,au,aH,seval]|exact rfl|refine ao (v:=.bool false) ?_|(first|(refine ad ?_ (hfe _) ?_)|(refine ai ?_ (fun _=>hfe _) ?_))|refine c8 rfl [q] (jj q _ _) ?_|refine Ai Y6 ?_
def Ap {d:UInt8}(hd:d.toNat<128):∀(zs:List Int) (a b:ZA),zs.all hY=true->enc zs=a++d::b->(dn a).isSome=true/\(dn b).isSome=true
 | [],a,b,_,h=>by
  have:=congrArg List.length h
  simp[enc]at this
 | z::zs,a,b,hm,h=>by
  simp only[List.all_cons,In]at hm
  have e:enc (z::zs)=encodeRune z++enc zs:=by simp[enc]
  have e1:enc [z]=encodeRune z:=by simp[enc]
  have d1:dn (encodeRune z)=some [z]:=by rw[<- e1];exact gQ [z] (by simp[hm.1])
  rw[e]at h
  rcases List.append_eq_append_iff.1 h with ⟨a',h1,h2⟩|⟨c',h1,h2⟩
  ·obtain⟨k1,k2⟩:=Ap hd zs a' b hm.2 h2
   obtain⟨y,hy⟩:=OF.1 k1
   refine⟨?_,k2⟩
   rw[h1,vj d1 hy];rfl
  ·cases c' with
   | nil =>
    simp only[WR,List.nil_append]at h1 h2
    obtain⟨_,k2⟩:=Ap hd zs [] b hm.2 (by rw[<- h2];rfl)
    refine⟨?_,k2⟩
    rw[<- h1,d1];rfl
   | cons c t =>
    simp only[List.cons_append,Yu]at h2
    obtain⟨h2,h3⟩:=h2
    by_cases hz:z<128
    ·have hr:=gw hm.1
     rw[Hq Y6 hz]at h1
     cases a with
     | nil =>
      simp only[List.nil_append,Yu]at h1
      rw[<- h1.2,List.nil_append]at h3
      exact⟨rfl,by rw[h3,gQ zs hm.2];rfl⟩
     | cons a0 a1 =>
      have:=congrArg List.length h1
      simp at this
    ·have:=rc (z:=z) Y6 d (by rw[h1,h2];simp)
     omega
def cp {d:UInt8}(hd:d.toNat<128){s a b:ZA}(h:(dn s).isSome=true)(he:s=a++d::b):(dn a).isSome=true/\(dn b).isSome=true:=by
 obtain⟨zs,hz⟩:=OF.1 h
 obtain⟨hm,h2⟩:=(mU s zs).1 hz
 exact Ap hd zs a b hm (by rw[h2,he])
def ei (c d:UInt8)(t:ZA):preB (c::t) [d]=(c==d):=by
 unfold preB;simp
def zC (s v r:ZA)(hs:s.length<=16384)(hd:(dn s).isSome=true)(hv:gn s=some (v,r))(q:Nat)(M:ah)(nm:Nat)(hq:M q=some (cm s))(ho:∀ z,(M z).isSome=true->z∈[q])(hqn:q<nm) :
  Ev cx 145 nm [.ptr q 0 0] M (.str v) [(q,some (cm r))]:=by
 obtain⟨a,h1,h2⟩:=lf hv
 obtain⟨k,hk,rfl,hka⟩:=kW h1
 have e1:∀(k:UInt8) (t:ZA) (y:Bool),t.length<=20000->preB t [k]=y -> ∀(M':ah) (n':Nat),M' q=some ⟨1,[[.str t]]⟩->(∀ z,(M' z).isSome=true->z∈[q])->q<n'->Ev cx 94 n' [.ptr q 0 0,.str [k]] M' (.bool y) [(q,some ⟨1,[[.str (if y then t.drop 1 else t)]]⟩)]:=by
  intro k t y ht hy M' n' h1 h2 h3
  have:=E2 t [k] (by unfold aN;omega) (by simp[aN]) q M' n' h1 h2 h3
  rw[hy]at this
  cases y<;>exact this
 have hla:a.length+r.length+2<=16384:=by simpa [XS,Nat.add_comm,Nat.add_left_comm] using hs
 have hk128:k.toNat<128:=by rcases hk with rfl|rfl<;>decide
 obtain⟨_,hd2⟩:=cp hk128 (a:=[]) hd rfl
 obtain⟨hda,hdr⟩:=cp hk128 hd2 rfl
 have hcv:=qb (a++k::r) k (by simp[aN];omega)
 have ecv:jc k (a++k::r) = .tup [.str a,.str r,.bool true]:=by unfold jc;rw[oW hka]
 rw[ecv]at hcv
 have hmp:=M3 a Y6 hda
 unfold Hc at hmp
 have hg:=uw (a.map bO) (by rw[Lm];unfold aN;omega)
 rw[sy (dJ.2 ⟨by rw[Lm];omega,Cj hda⟩) h2]at hg
 unfold cm at hq ⊢
 rcases hk with rfl|rfl
 ·have p1:=e1 39 (39::(a++39::r)) true ZK (ei _ _ _)
  simp only[WQ,WN,WP]at p1
  refine aG call145 func145 results145 ntmps145 ?_;intro b0 hb0 zN
  have lq:=aq hb0 hq
  have z0:=aE lq;have z1:=ak lq;have z2:=ay lq;have z3:=ae lq
  (have zF:=a5 hq z0 z1 z2 z3;have cF:=a3 hcv hmp hg;repeat' first|refine wS ?_ | refine ab wM [q] (p1 _ _ wM ac Y6) wM ?_)
  all_goals ((have zF:=a5 hq z0 z1 z2 z3;refine jW [(q,none)] [] ho))
 ·have p1:=e1 39 (34::(a++34::r)) false ZK (ei _ _ _)
  have p2:=e1 34 (34::(a++34::r)) true ZK (ei _ _ _)
  simp only[WQ,WH,WS,WN,WP]at p1 p2
  refine aG call145 func145 results145 ntmps145 ?_;intro b0 hb0 zN
  have lq:=aq hb0 hq
  have z0:=aE lq;have z1:=ak lq;have z2:=ay lq;have z3:=ae lq
  (have zF:=a5 hq z0 z1 z2 z3;have cF:=a3 hcv hmp hg;repeat' first|refine wS ?_ | refine ab wM [q] (p1 _ _ wM ac Y6) wM ?_|refine ab wM [q] (p2 _ _ wM ac Y6) wM ?_)
  all_goals ((have zF:=a5 hq z0 z1 z2 z3;refine jW [(q,none)] [] ho))
def Gl (s:ZA)(hs:s.length<=16384)(hd:(dn s).isSome=true)(hv:gn s=none)(q:Nat)(M:ah)(nm:Nat)(hq:M q=some (cm s))(ho:∀ z,(M z).isSome=true->z∈[q])(hqn:q<nm) :
  BI cx 145 nm [.ptr q 0 0] M FY:=by
 have e1:∀(k:UInt8) (t:ZA) (y:Bool),t.length<=20000->preB t [k]=y -> ∀(M':ah) (n':Nat),M' q=some ⟨1,[[.str t]]⟩->(∀ z,(M' z).isSome=true->z∈[q])->q<n'->Ev cx 94 n' [.ptr q 0 0,.str [k]] M' (.bool y) [(q,some ⟨1,[[.str (if y then t.drop 1 else t)]]⟩)]:=by
  intro k t y ht hy M' n' h1 h2 h3
  have:=E2 t [k] (by unfold aN;omega) (by simp[aN]) q M' n' h1 h2 h3
  rw[hy]at this
  cases y<;>exact this
 unfold cm at hq
 by_cases hk:∃ k t,s=k::t/\(k=39\/k=34)
 ·obtain⟨k,t,rfl,hk⟩:=hk
  have hk128:k.toNat<128:=by rcases hk with rfl|rfl<;>decide
  obtain⟨_,hd2⟩:=cp hk128 (a:=[]) hd rfl
  have hlt:t.length+1<=16384:=by simpa using hs
  have hcv:=qb t k (by unfold aN;omega)
  cases hc:df k t with
  | none =>
   have ecv:jc k t = .tup [.str t,.str [],.bool false]:=by unfold jc;rw[hc]
   rw[ecv]at hcv
   rcases hk with rfl|rfl
   ·have p1:=e1 39 (39::t) true ZK (ei _ _ _)
    simp only[WQ,WN,WP]at p1
    refine kH rfl qc rfl call145 func145 rfl mixed (by kernel_rfl) rfl ?_;intro b0 hb0
    have lq:=aq hb0 hq
    have z0:=fR lq
    repeat' first|simp only[aK,hq,aQ,au,aH,seval]|exact rfl|refine ad ?_ (hcv _) ?_|refine ab ?_ [q] (p1 _ _ ?_ ac Y6) ?_ ?_|refine c8 rfl [q] (jj q _ _) ?_
   ·have p1:=e1 39 (34::t) false ZK (ei _ _ _)
    have p2:=e1 34 (34::t) true ZK (ei _ _ _)
    simp only[WQ,WH,WS,WN,WP]at p1 p2
    refine kH rfl qc rfl call145 func145 rfl mixed (by kernel_rfl) rfl ?_;intro b0 hb0
    have lq:=aq hb0 hq
    have z0:=fR lq
    repeat' first|simp only[hq,aQ,au,aH,seval]|exact rfl|((refine ad ?_ (hcv _) ?_);(focus (simp only[au,seval]<;>exact rfl)))|((refine ab ?_ [q] (p1 _ _ ?_ ac Y6) ?_ ?_);iterate 3 (focus (simp only[aK,hq,au,seval]<;>exact rfl)))|((refine ab ?_ [q] (p2 _ _ ?_ ac Y6) ?_ ?_);iterate 3 (focus (simp only[aK,hq,au,seval]<;>exact rfl)))|refine c8 rfl [q] (jj q _ _) ?_
  | some p =>
   obtain⟨a,r⟩:=p
   have ecv:jc k t = .tup [.str a,.str r,.bool true]:=by unfold jc;rw[hc]
   rw[ecv]at hcv
   obtain⟨he,hka⟩:=eB hc
   obtain⟨hda,hdr⟩:=cp hk128 hd2 he
   have hla:a.length<=16384:=by
    have:=congrArg List.length he
    simp at this;omega
   have hto:bp (a.map bO)=none:=by
    unfold gn at hv
    rw[ng,if_pos hk,hc]at hv
    simpa [r5] using hv
   have hmp:=M3 a Y6 hda
   unfold Hc at hmp
   have hg:=uw (a.map bO) (by rw[Lm];unfold aN;omega)
   rw[l6 (dJ.2 ⟨by rw[Lm];omega,Cj hda⟩) hto]at hg
   rcases hk with rfl|rfl
   ·have p1:=e1 39 (39::t) true ZK (ei _ _ _)
    simp only[WQ,WN,WP]at p1
    refine kH rfl qc rfl call145 func145 rfl mixed (by kernel_rfl) rfl ?_;intro b0 hb0
    have lq:=aq hb0 hq
    have z0:=fR lq
    repeat' first|simp only[aK,aF,hq,aQ,au,aH,seval]|exact rfl|(first|(refine ad ?_ (hcv _) ?_)|(refine ad ?_ (hmp _) ?_)|(refine ad ?_ (hg _) ?_))|refine ab ?_ [q] (p1 _ _ ?_ ac Y6) ?_ ?_|refine c8 rfl [q] (jj q _ _) ?_
   ·have p1:=e1 39 (34::t) false ZK (ei _ _ _)
    have p2:=e1 34 (34::t) true ZK (ei _ _ _)
    simp only[WQ,WH,WS,WN,WP]at p1 p2
    refine kH rfl qc rfl call145 func145 rfl mixed (by kernel_rfl) rfl ?_;intro b0 hb0
    have lq:=aq hb0 hq
    have z0:=fR lq
    repeat' first|simp only[aF,hq,aQ,au,aH,seval]|exact rfl|((first|(refine ad ?_ (hcv _) ?_)|(refine ad ?_ (hmp _) ?_)|(refine ad ?_ (hg _) ?_));(focus (simp only[au,seval]<;>exact rfl)))|((refine ab ?_ [q] (p1 _ _ ?_ ac Y6) ?_ ?_);iterate 3 (focus (simp only[aK,hq,au,seval]<;>exact rfl)))|((refine ab ?_ [q] (p2 _ _ ?_ ac Y6) ?_ ?_);iterate 3 (focus (simp only[aK,hq,au,seval]<;>exact rfl)))|refine c8 rfl [q] (jj q _ _) ?_
 ·have hn:∀ k:UInt8,k=39\/k=34->preB s [k]=false:=by
   intro k hk2
   cases s with
   | nil=>rfl
   | cons c t =>
    rw[ei]
    refine If (fun e=>hk ⟨c,t,rfl,?_⟩)
    rw[e];exact hk2
  have p1:=e1 39 s false Y6 (hn 39 (.inl rfl))
  have p2:=e1 34 s false Y6 (hn 34 (.inr rfl))
  simp only[WH,WS]at p1 p2
  refine kH rfl qc rfl call145 func145 rfl mixed (by kernel_rfl) rfl ?_;intro b0 hb0
  have lq:=aq hb0 hq
  have z0:=fR lq
  repeat' first|simp only[aQ,au,aH,seval]|exact rfl|((refine ab ?_ [q] (p1 _ _ ?_ ac Y6) ?_ ?_);iterate 3 (focus (simp only[aK,hq,au,seval]<;>exact rfl)))|((refine ab ?_ [q] (p2 _ _ ?_ ac Y6) ?_ ?_);iterate 3 (focus (simp only[aK,hq,au,seval]<;>exact rfl)))|refine c8 rfl [q] (jj q _ _) ?_
set_option maxRecDepth 100000
set_option maxHeartbeats 32000000
open Go Go.RowKit Go.Lib
def vt {p:UInt8->Bool}(hp:∀ c,p c=true->c.toNat<128):∀ s:ZA,(dn s).isSome=true->(dn (s.dropWhile p)).isSome=true
 | [],h=>h
 | c::s,h=>by
  rw[Xe]
  by_cases hc:p c=true
  ·rw[if_pos hc]
   exact vt hp s (cp (hp c hc) (a:=[]) h rfl).2
  ·rw[if_neg hc];exact h
def H7:∀ c:UInt8,cG c=true->c.toNat<128:=by
 have key:∀ n:Fin 256,cG (UInt8.ofNat n.val)=true->n.val<128:=ZJ
 intro c hc
 have:=key ⟨c.toNat,c.toNat_lt⟩ (by simpa using hc)
 exact this
def OY:∀ c:UInt8,fm c=true->c.toNat<128:=by
 have key:∀ n:Fin 256,fm (UInt8.ofNat n.val)=true->n.val<128:=ZJ
 intro c hc
 have:=key ⟨c.toNat,c.toNat_lt⟩ (by simpa using hc)
 exact this
def eg {s:ZA}(h:(dn s).isSome=true):(dn (aT s)).isSome=true:=vt H7 s h
def jQ {s n r:ZA}(h:(dn s).isSome=true)(hn:ep s=some (n,r)):(dn r).isSome=true:=by
 rw[<-(sN hn).2.1]
 exact vt OY s h
def K1 {s v r:ZA}(h:(dn s).isSome=true)(hv:gn s=some (v,r)):(dn r).isSome=true:=by
 obtain⟨a,h1,_⟩:=lf hv
 obtain⟨k,hk,rfl,_⟩:=kW h1
 have hk128:k.toNat<128:=by rcases hk with rfl|rfl<;>decide
 exact(cp hk128 (a:=k::a) h rfl).2
def u0 {s r:ZA}{a:Pr}(h:(dn s).isSome=true)(ha:fY s=some (a,r)):(dn r).isSome=true:=by
 obtain⟨r1,t,h1,h2,h3⟩:=ko ha
 have d1:=eg (jQ h h1)
 rw[h2]at d1
 have d2:=(cp (d:=61) ZI (a:=[]) d1 rfl).2
 exact K1 (eg d2) h3
def xb {s:ZA}(h:(dn s).isSome=true):(dn (ct s)).isSome=true/\(dn (iF s)).isSome=true:=by
 have e:s=ct s++iF s:=(Wk).symm
 cases hr:iF s with
 | nil =>
  rw[hr,WR]at e
  rw[<- e];exact⟨h,rfl⟩
 | cons c t =>
  have hc:iE c=false:=by
   have:=List.head?_dropWhile_not iE s
   unfold iF at hr
   rw[hr]at this
   simpa using this
  have hc60:c=60:=by simpa [iE] using hc
  rw[hr]at e
  subst hc60
  obtain⟨h1,h2⟩:=cp (d:=60) ZI h e
  refine⟨h1,?_⟩
  have d60:dn [60]=some [60]:=ZJ
  obtain⟨y,hy⟩:=OF.1 h2
  rw[show(60:UInt8)::t=[60]++t from rfl,vj d60 hy];rfl
set_option maxRecDepth 100000
set_option maxHeartbeats 32000000
open Go Go.RowKit Vm Go.Lib Tryz
def dh (s p:ZA)(y:Bool)(hs:s.length<=20000)(hp:p.length<=100)(hy:preB s p=y)(q:Nat)(M:ah)(nm:Nat)(hq:M q=some ⟨1,[[.str s]]⟩)(ho:∀ z,(M z).isSome=true->z∈[q])(hqn:q<nm) :
  Ev cx 94 nm [.ptr q 0 0,.str p] M (.bool y) [(q,some ⟨1,[[.str (if y then s.drop p.length else s)]]⟩)]:=by
 have:=E2 s p (by unfold aN;omega) (by unfold aN;omega) q M nm hq ho hqn
 rw[hy]at this
 cases y<;>exact this
def fK {c:UInt8}{s:ZA} : preB s [c]=(bY c s).isSome:=by
 cases s with
 | nil=>rfl
 | cons d t =>
  rw[ei,dF]
  by_cases h:d=c
  ·rw[if_pos h,h];simp
  ·rw[if_neg h];simpa using h
def Rh (s t n r r2:ZA)(hs:s.length<=16384)(h1:bY 47 s=some t)(h2:ep t=some (n,r))(h3:bY 62 (aT r)=some r2)(q:Nat)(M:ah)(nm:Nat)(hq:M q=some (cm s))(ho:∀ z,(M z).isSome=true->z∈[q])(hqn:q<nm) :
  Ev cx 95 nm [.ptr q 0 0] M (.agg [.int .u8 2,.str n,.nils,.str []]) [(q,some (cm r2))]:=by
 obtain rfl:=bG h1
 have hk:=bG h3
 have l1:t.length+1<=16384:=by simpa using hs
 obtain⟨_,_,_,l2⟩:=e9 h2
 have l3:=dm r
 have p1:∀(M':ah) (n':Nat),M' q=some ⟨1,[[.str (47::t)]]⟩->(∀ z,(M' z).isSome=true->z∈[q])->q<n'->Ev cx 94 n' [.ptr q 0 0,.str [47]] M' (.bool true) [(q,some ⟨1,[[.str t]]⟩)]:=fun M' n' a b c=>by
  have:=dh (47::t) [47] true Y6 ZI (by rw[ei];rfl) q M' n' a b c
  exact this
 have p2:∀(M':ah) (n':Nat),M' q=some ⟨1,[[.str (aT r)]]⟩->(∀ z,(M' z).isSome=true->z∈[q])->q<n'->Ev cx 94 n' [.ptr q 0 0,.str [62]] M' (.bool true) [(q,some ⟨1,[[.str r2]]⟩)]:=fun M' n' a b c=>by
  rw[hk]at a l3
  have:=dh (62::r2) [62] true Y6 ZI (by rw[ei];rfl) q M' n' a b c
  exact this
 have hn:=mG t n r Y6 h2
 have hsk:=lE r (by unfold aN;omega)
 unfold cm at hq hn hsk ⊢
 refine aG call95 func95 results95 ntmps95 ?_;intro b0 hb0 zN
 have lq:=aq hb0 hq
 have z0:=aE lq;have z1:=ak lq;have z2:=ay lq;have z3:=ae lq
 (have zF:=a5 hq z0 z1 z2 z3;repeat' first|refine wS ?_|exact wE|refine ab wM [q] (p1 _ _ wM ac Y6) wM ?_|refine ab wM [q] (p2 _ _ wM ac Y6) wM ?_|refine ab wM [q] (hn q _ _ wM ac Y6) wM ?_|refine ab wM [q] (hsk q _ _ wM ac Y6) wM ?_|((first|apply b7|apply cM)<;>intro hb)|refine Ai Y6 ?_|(apply Ai<;>intro hb))
 all_goals ((have zF:=a5 hq z0 z1 z2 z3;refine jW [(q,none)] [] ho))
def NO (s t:ZA)(hs:s.length<=16384)(h1:bY 47 s=some t)(hno:j0 s=none)(q:Nat)(M:ah)(nm:Nat)(hq:M q=some (cm s))(ho:∀ z,(M z).isSome=true->z∈[q])(hqn:q<nm) :
  BI cx 95 nm [.ptr q 0 0] M FY:=by
 obtain rfl:=bG h1
 have l1:t.length+1<=16384:=by simpa using hs
 have p1:∀(M':ah) (n':Nat),M' q=some ⟨1,[[.str (47::t)]]⟩->(∀ z,(M' z).isSome=true->z∈[q])->q<n'->Ev cx 94 n' [.ptr q 0 0,.str [47]] M' (.bool true) [(q,some ⟨1,[[.str t]]⟩)]:=fun M' n' a b c=>by
  have:=dh (47::t) [47] true Y6 ZI (by rw[ei];rfl) q M' n' a b c
  exact this
 unfold cm at hq
 cases h2:ep t with
 | none =>
  have hn:=s8 t Y6 h2
  unfold cm at hn
  refine kH rfl qc rfl call95 func95 rfl mixed (by kernel_rfl) rfl ?_;intro b0 hb0
  have lq:=aq hb0 hq
  have z0:=fR lq
  repeat' first|simp only[results95,ntmps95,aF,hq,z0,dS,dT,aQ,bv,bf,fV,au,aH,seval]|exact rfl|((refine ab ?_ [q] (p1 _ _ ?_ ac Y6) ?_ ?_);iterate 3 (focus (simp only[aK,results95,ntmps95,aF,hq,z0,dS,dT,aQ,bv,bf,fV,au,aH,seval]<;>exact rfl)))|((first|apply b7|apply cM)<;>intro hb)|refine Ai Y6 ?_|(apply Ai<;>intro hb)
  refine c8 rfl [q] (hn q _ _ ?_ ac Y6) ?_
  ·simp only[aK,aF,hq,z0,au,aH,seval]<;>exact rfl
  ·simp only[aQ,bv,bf,fV,FY]
 | some p =>
  obtain⟨n,r⟩:=p
  obtain⟨_,_,_,l2⟩:=e9 h2
  have l3:=dm r
  have h3:bY 62 (aT r)=none:=by
   unfold j0 at hno
   rw[h1]at hno
   simp only[h2,Option.bind_some,Option.map_eq_none_iff]at hno
   exact hno
  have hn:=mG t n r Y6 h2
  have hsk:=lE r (by unfold aN;omega)
  have p2:=dh (aT r) [62] false Y6 ZI (by rw[fK,h3];rfl)
  simp only[WH,WS]at p2
  unfold cm at hn hsk
  refine kH rfl qc rfl call95 func95 rfl mixed (by kernel_rfl) rfl ?_;intro b0 hb0
  have lq:=aq hb0 hq
  have z0:=fR lq
  repeat' first|simp only[results95,ntmps95,aF,hq,z0,dS,dT,aQ,bv,bf,fV,au,aH,seval]|exact rfl|((first|(refine ab ?_ [q] (p1 _ _ ?_ ac Y6) ?_ ?_)|(refine ab ?_ [q] (hn q _ _ ?_ ac Y6) ?_ ?_)|(refine ab ?_ [q] (hsk q _ _ ?_ ac Y6) ?_ ?_));iterate 3 (focus (simp only[aK,results95,ntmps95,aF,hq,z0,dS,dT,aQ,bv,bf,fV,au,aH,seval]<;>exact rfl)))|((refine ab ?_ [q] (p2 q _ _ ?_ ac Y6) ?_ ?_);iterate 3 (focus (simp only[aK,results95,ntmps95,aF,hq,z0,dS,dT,aQ,bv,bf,fV,au,aH,seval]<;>exact rfl)))|refine c8 rfl [q] (jj q _ _) ?_|((first|apply b7|apply cM)<;>intro hb)|refine Ai Y6 ?_|(apply Ai<;>intro hb)
def Ja (o:ZC):Int:=match o with|some n=>n|none=>-1
def iv (n:Nat):Ja (some n)=n:=rfl
def iu:Ja none = -1:=rfl
def oh {α:Type}{p:α->Bool} : ∀ {l:List α} {k:Nat} {x:α},(l.take k).any p=false->l[k]? = some x->p x=true->l.findIdx? p=some k
 | [],k,x,_,h,_=>by simp at h
 | y::l,0,x,_,h,hp=>by simp at h;subst h;simp[YP,hp]
 | y::l,k+1,x,hn,h,hp=>by
  simp only[List.take_succ_cons,List.any_cons,XK]at hn
  rw[YP,hn.1]
  simp[oh (l:=l) (k:=k) (x:=x) hn.2 (by simpa using h) hp]
def kL {α:Type}{p:α->Bool}{l:List α}(h:l.any p=false):l.findIdx? p=none:=by
 simpa [XQ] using h
def uQ {α:Type}{p:α->Bool}{l:List α}(h:l.findIdx? p=none):l.any p=false:=by
 simpa [XQ] using h
def uS {α:Type}{p:α->Bool}{l:List α}{n:Nat}(h:l.findIdx? p=some n):l.any p=true:=by
 cases ha:l.any p with
 | true=>rfl
 | false=>rw[kL ha]at h;cases h
def kq {caps:List V}(h:plainL caps=true)(σ:Y8)(M:ah):finL σ M caps=caps:=(finL_plain σ M caps h).1
def io {caps:List V}(h:plainL caps=true)(σ:Y8)(M:ah):finLOk σ M caps=True:=X0 (finL_plain σ M caps h).2
def FH (l:List Pr)(f:Nat)(caps:List V)(p:Pr->Bool)(hf:∀ h∈l,∀ nm,Ev cx f nm (.agg (cZ h)::caps) ah.nil (.bool (p h)) [])(hn:l.length<=aN)(hpl:plainL caps=true)(nm:Nat):Ev cx 149 nm [.sl false 2 (l.map cZ),.fn f caps] ah.nil (.int .i64 (Ja (l.findIdx? p))) []:=by
 unfold aN at hn
 refine aG call149 func149 results149 ntmps149 ?_;intro b0 hb0 zN
 (have zF:=trivial;repeat' first|refine wS ?_|exact wE|((first|(refine aU (g:=?_) ?_ ?_)|(refine aZ (g:=?_) ?_ ?_));rotate_left 1;(focus (exact wH)))|((first|apply b7|apply cM)<;>intro hb)|refine Ai Y6 ?_|(apply Ai<;>intro hb))
 (have zF:=a3 @aA (kq hpl) (io hpl);refine fu (fun x:Nat=>l.length-x) (fun x=>x<=l.length/\(l.take x).any p=false) (b0+16) (fun x=>[(0,.sl false 2 (l.map cZ)),(1,.fn f caps),(7,.int .i64 l.length),(8,.int .i64 x)]) (fun x=>[]) (0) [] ?_ ?_)
 ·exact⟨WB _,by simp⟩
 ·rintro k ⟨hk,hno⟩
  by_cases hlt:k<l.length
  ·obtain⟨h,hh⟩:=js hlt
   have hat:(l.map cZ)[k]? = some (cZ h):=by rw[WG,hh];rfl
   have hd:=AI hlt
   have hwk:=eX k
   have hfh:=hf h (By hh)
   cases hp:p h with
   | true =>
    have hfd:=oh hno hh hp
    rw[hp]at hfh
    (have zF:=a7 hat @cZ.eq_1 hlt hd hwk hfd @iv;repeat' first|refine wS ?_|exact wE|refine ff (g:=f) (caps:=caps) (by simp only[zF,zN,aF,au,aH,seval]<;>exact rfl) (by simp only[zF,zN,aF,au,aH,seval]<;>exact rfl) (hfh _) ?_|((first|(refine aU (g:=?_) ?_ ?_)|(refine aZ (g:=?_) ?_ ?_));rotate_left 1;(focus (exact wH)))|((first|apply b7|apply cM)<;>intro hb)|refine Ai Y6 ?_|(apply Ai<;>intro hb)|apply Fin.pure|simp only[aB])
   | false =>
    have hn':=eK (p:=p) hno hh hp
    rw[hp]at hfh
    (have zF:=a5 hat @cZ.eq_1 hlt hd hwk;repeat' first|refine wS ?_|exact wE|refine ff (g:=f) (caps:=caps) (by simp only[zF,zN,aF,au,aH,seval]<;>exact rfl) (by simp only[zF,zN,aF,au,aH,seval]<;>exact rfl) (hfh _) ?_|((first|(refine aU (g:=?_) ?_ ?_)|(refine aZ (g:=?_) ?_ ?_));rotate_left 1;(focus (exact wH)))|((first|apply b7|apply cM)<;>intro hb)|refine Ai Y6 ?_|(apply Ai<;>intro hb))
    all_goals ((have zF:=a4 @aA (kq hpl) (io hpl) hwk;refine c7 (k+1) [] ?_ ?_))
    all_goals (first|(show l.length-(k+1)<l.length-k;omega)|exact⟨hlt,hn'⟩|skip)
  ·have hke:k=l.length:=Y6
   subst hke
   rw[WJ]at hno
   have hfd:=kL hno
   have hd:decide (l.length<l.length)=false:=aL
   (have zF:=a3 hd hfd @iu;repeat' first|refine wS ?_|exact wE|((first|(refine aU (g:=?_) ?_ ?_)|(refine aZ (g:=?_) ?_ ?_));rotate_left 1;(focus (exact wH)))|((first|apply b7|apply cM)<;>intro hb)|refine Ai Y6 ?_|(apply Ai<;>intro hb)|apply Fin.pure|simp only[aB])
def xM (l:List Pr)(f:Nat)(caps:List V)(p:Pr->Bool)(hf:∀ h∈l,∀ nm,Ev cx f nm (.agg (cZ h)::caps) ah.nil (.bool (p h)) [])(hn:l.length<=aN)(hpl:plainL caps=true)(nm:Nat):Ev cx 101 nm [.sl false 2 (l.map cZ),.fn f caps] ah.nil (.bool (l.any p)) []:=by
 have hi:=FH l f caps p hf hn hpl
 cases h:l.findIdx? p with
 | none =>
  have ha:l.any p=false:=uQ h
  rw[h]at hi
  refine aG call101 func101 results101 ntmps101 ?_;intro b0 hb0 zN
  exact xP (a2 ha @iu) hi
 | some n =>
  have ha:l.any p=true:=uS h
  rw[h]at hi
  have hz:decide ((0:Int)<=(n:Int))=true:=bz
  refine aG call101 func101 results101 ntmps101 ?_;intro b0 hb0 zN
  exact xP (a3 ha @iv hz) hi
def Rv (a b:Pr)(nm:Nat):Ev cx 144 nm [.agg (cZ b),.rp (cZ a)] ah.nil (.bool (a.name==b.name)) []:=by
 refine aG call144 func144 results144 ntmps144 ?_;intro b0 hb0 zN
 exact xP @cZ.eq_1 trivial
def D6 (l:List Pr)(a:Pr)(hn:l.length<=aN)(nm:Nat):Ev cx 101 nm [.sl false 2 (l.map cZ),.fn 144 [.rp (cZ a)]] ah.nil (.bool (l.any fun b=>a.name==b.name)) [] :=
 xM l 144 [.rp (cZ a)] (fun b=>a.name==b.name) (fun b _ nm=>Rv a b nm) hn rfl nm
set_option maxRecDepth 100000
set_option maxHeartbeats 32000000
open Go Go.RowKit Go.Lib
def Ha {s:ZA}(h:preB s [62]=true):∃ t,s=62::t/\jB s=some (1,t):=by
 cases s with
 | nil=>cases h
 | cons c t =>
  rw[ei]at h
  obtain rfl:=eq_of_beq h
  exact⟨t,rfl,rfl⟩
def yL {s:ZA}(h:preB s [47,62]=true):∃ t,s=47::62::t/\jB s=some (3,t):=by
 match s,h with
 | [],h=>cases h
 | [c],h=>simp[preB]at h
 | c::d::t,h =>
  simp[preB]at h
  obtain⟨rfl,rfl⟩:=h
  exact⟨t,rfl,rfl⟩
def Cq {s:ZA}(h1:preB s [62]=false)(h2:preB s [47,62]=false):jB s=none:=by
 unfold jB
 split
 ·rw[ei]at h1;simp at h1
 ·simp[preB]at h2
 ·rfl
set_option maxRecDepth 100000
set_option maxHeartbeats 32000000
open Go Go.RowKit Vm Go.Lib Tryz
structure TSt where
 l:List Pr
 rest:ZA
def Rk (s n r0 r:ZA)(k:Nat)(l:List Pr)(hs:s.length<=16384)(hd:(dn s).isSome=true)(h1:bY 47 s=none)(h2:ep s=some (n,r0))(h3:jV n [] r0=some (⟨k,n,l,[]⟩,r))(q:Nat)(M:ah)(nm:Nat)(hq:M q=some (cm s))(ho:∀ z,(M z).isSome=true->z∈[q])(hqn:q<nm) :
    Ev cx 95 nm [.ptr q 0 0] M (.agg [.int .u8 k,.str n,.own nm 0 l.length,.str []]) [(q,some (cm r)),(nm,some ⟨2,l.map cZ⟩)]:=by
  have p1:=dh s [47] false Y6 ZI (by rw[fK,h1];rfl)
  simp only[WH,WS]at p1
  have hn:=mG s n r0 Y6 h2
  obtain⟨_,_,_,l2⟩:=e9 h2
  have hd0:=jQ hd h2
  unfold cm at hq hn ⊢
  refine aG call95 func95 results95 ntmps95 ?_;intro b0 hb0 zN
  have lq:=aq hb0 hq
  have z0:=aE lq;have z1:=ak lq;have z2:=ay lq;have z3:=ae lq
  (have zF:=a5 hq z0 z1 z2 z3;repeat' first|refine wS ?_|exact wE|refine ab wM [q] (p1 q _ _ wM ac Y6) wM ?_|refine ab wM [q] (hn q _ _ wM ac Y6) wM ?_|((first|apply b7|apply cM)<;>intro hb)|refine Ai Y6 ?_|(apply Ai<;>intro hb))
  (have zF:=a6 hq z0 z1 z2 z3 @am;refine fu (fun x:TSt=>x.rest.length) (fun x=>jV n x.l x.rest=some (⟨k,n,l,[]⟩,r)/\(dn x.rest).isSome=true/\x.rest.length+x.l.length<=16384) (b0+16) (fun x=>[(0,.ptr q 0 0),(2,.ptr b0 0 0)]) (fun x=>[(q,⟨1,[[.str x.rest]]⟩),(b0,⟨4,[[.int .u8 0,.str n,.own (b0+1) 0 x.l.length,.str []]]⟩),(b0+1,⟨2,x.l.map cZ⟩)]) (⟨[],r0⟩) [some q,some b0,none] ?_ ?_)
  · exact⟨h3,hd0,by show r0.length+0<=16384;omega⟩
  · rintro ⟨xl,xr⟩ ⟨g1,g2,g3⟩
    dsimp only at g1 g2 g3 ⊢
    have gl:=dm xr
    have hsk:=lE xr (by unfold aN;omega)
    unfold cm at hsk
    have hnl:(xl.map cZ).length=xl.length:=Lm _
    by_cases e62:preB (aT xr) [62]=true
    · obtain⟨t,ht,hen⟩:=Ha e62
      rw[lG hen]at g1
      simp only[WO,W6,Tk.mk.injEq,true_and,Yx]at g1
      obtain⟨⟨rfl,rfl⟩,rfl⟩:=g1
      have p62:=dh (aT xr) [62] true Y6 ZI e62
      simp only[WQ,ht,WN,WP,List.length_cons,List.length_nil]at p62 hsk
      (have zF:=a5 hq z0 z1 z2 z3;repeat' first|refine wS ?_|exact wE|refine ab wM [q] (hsk q _ _ wM ac Y6) wM ?_|refine ab wM [q] (p62 q _ _ wM ac Y6) wM ?_|((first|apply b7|apply cM)<;>intro hb)|refine Ai Y6 ?_|(apply Ai<;>intro hb))
      all_goals ((have zF:=a6 hq @aA z0 z1 z2 z3;refine jW [(q,none),(b0+1,some 0)] [] ho))
    · have e62':preB (aT xr) [62]=false:=by simpa using e62
      have p62:=dh (aT xr) [62] false Y6 ZI e62'
      simp only[WH,WS]at p62
      by_cases e47:preB (aT xr) [47,62]=true
      · obtain⟨t,ht,hen⟩:=yL e47
        rw[lG hen]at g1
        simp only[WO,W6,Tk.mk.injEq,true_and,Yx]at g1
        obtain⟨⟨rfl,rfl⟩,rfl⟩:=g1
        have p63:=dh (aT xr) [47,62] true Y6 ZI e47
        simp only[WQ,ht,WN,WP,List.length_cons,List.length_nil]at p62 p63 hsk
        (have zF:=a5 hq z0 z1 z2 z3;repeat' first|refine wS ?_|exact wE|refine ab wM [q] (hsk q _ _ wM ac Y6) wM ?_|refine ab wM [q] (p62 q _ _ wM ac Y6) wM ?_|refine ab wM [q] (p63 q _ _ wM ac Y6) wM ?_|((first|apply b7|apply cM)<;>intro hb)|refine Ai Y6 ?_|(apply Ai<;>intro hb))
        all_goals ((have zF:=a6 hq @aA z0 z1 z2 z3;refine jW [(q,none),(b0+1,some 0)] [] ho))
      · have e47':preB (aT xr) [47,62]=false:=by simpa using e47
        have hen:=Cq e62' e47'
        have p63:=dh (aT xr) [47,62] false Y6 ZI e47'
        simp only[WH,WS]at p63
        by_cases hgap:(aT xr).length<xr.length
        · cases hat:fY (aT xr) with
          | none=>rw[pw hen hat]at g1;cases g1
          | some p =>
            obtain⟨a,r'⟩:=p
            cases hany:(xl.any fun b=>a.name==b.name) with
            | true=>rw[py hen hat hany]at g1;cases g1
            | false =>
              rw[oM hen hgap hat hany]at g1
              have hlt:=mQ hat
              have g2':=u0 (eg g2) hat
              obtain⟨r1,t,k1,k2,k3⟩:=ko hat
              have d1:=eg (jQ (eg g2) k1)
              rw[k2]at d1
              have d2:=eg (cp (d:=61) ZI (a:=[]) d1 rfl).2
              obtain⟨_,_,_,m1⟩:=e9 k1
              have m2:=dm r1
              have m3:=dm t
              rw[k2]at m2
              simp only[List.length_cons]at m2
              have hgd:decide ((aT xr).length<xr.length)=true:=AI hgap
              rw[hgd]at hsk
              have hn1:=mG (aT xr) a.name r1 Y6 k1
              have hsk1:=lE r1 (by unfold aN;omega)
              have hsk2:=lE t (by unfold aN;omega)
              rw[k2]at hsk1
              have p61:=dh (61::t) [61] true ZK ZI (by rw[ei];rfl)
              simp only[WQ,WN,WP,List.length_cons,List.length_nil]at p61
              have htw:=D6 xl ⟨a.name,[]⟩ (by unfold aN;omega)
              simp only[hany,cZ]at htw
              have hva:=zC (aT t) a.value r' Y6 d2 k3
              unfold cm at hn1 hsk1 hsk2 hva
              (have zF:=a7 @aA hq @cZ.eq_1 z0 z1 z2 z3;repeat' first|refine wS ?_|exact wE|refine ab wM [q] (hsk q _ _ wM ac Y6) wM ?_|refine ab wM [q] (p62 q _ _ wM ac Y6) wM ?_|refine ab wM [q] (p63 q _ _ wM ac Y6) wM ?_|refine ab wM [q] (hn1 q _ _ wM ac Y6) wM ?_|refine ab wM [q] (hsk1 q _ _ wM ac Y6) wM ?_|refine ab wM [q] (hsk2 q _ _ wM ac Y6) wM ?_|refine ab wM [q] (p61 q _ _ wM ac Y6) wM ?_|refine ab wM [q] (hva q _ _ wM ac Y6) wM ?_|refine fq [b0+1,b0+384] wM (fun _=>wF) (fun _=>wF) rfl (fun _=>htw _) ?_|((first|apply b7|apply cM)<;>intro hb)|refine Ai Y6 ?_|(apply Ai<;>intro hb))
              have hnx:xl.map cZ++[[.str a.name,.str a.value]]=(xl++[a]).map cZ:=by simp[cZ]
              have hnn:(xl++[a]).length=xl.length+1:=by simp
              rw[hnx]
              all_goals ((have zF:=a7 @aA hq z0 z1 z2 z3 hnn;refine c7 (⟨xl++[a],r'⟩) [some q,some b0,some (b0+848)] ?_ ?_))
              all_goals (first|exact⟨g1,g2',by show r'.length+(xl++[a]).length<=16384;omega⟩|(show r'.length<xr.length;omega)|skip)
        · rw[px hen hgap]at g1;cases g1
def JR (s:ZA)(hs:s.length<=16384)(h1:bY 47 s=none)(h2:ep s=none)(q:Nat)(M:ah)(nm:Nat)(hq:M q=some (cm s))(ho:∀ z,(M z).isSome=true->z∈[q])(hqn:q<nm) :
  BI cx 95 nm [.ptr q 0 0] M FY:=by
 have p1:=dh s [47] false Y6 ZI (by rw[fK,h1];rfl)
 simp only[WH,WS]at p1
 have hn:=s8 s Y6 h2
 unfold cm at hq hn
 refine kH rfl qc rfl call95 func95 rfl mixed (by kernel_rfl) rfl ?_;intro b0 hb0
 have lq:=aq hb0 hq
 have z0:=fR lq
 repeat' first|simp only[results95,ntmps95,aF,hq,z0,dS,dT,aQ,bv,bf,fV,au,aH,seval]|exact rfl|((refine ab ?_ [q] (p1 q _ _ ?_ ac Y6) ?_ ?_);iterate 3 (focus (simp only[aK,results95,ntmps95,aF,hq,z0,dS,dT,aQ,bv,bf,fV,au,aH,seval]<;>exact rfl)))|((first|apply b7|apply cM)<;>intro hb)|refine Ai Y6 ?_|(apply Ai<;>intro hb)
 refine c8 rfl [q] (hn q _ _ ?_ ac Y6) ?_
 ·simp only[aK,aF,hq,z0,au,aH,seval]<;>exact rfl
 ·simp only[aQ,bv,bf,fV,FY]
set_option maxRecDepth 100000
set_option maxHeartbeats 32000000
open Go Go.RowKit Go.Lib
def uu {a b:ZA}(ha:(dn a).isSome=true)(hb:(dn b).isSome=true):(dn (a++b)).isSome=true:=by
 obtain⟨x,hx⟩:=OF.1 ha
 obtain⟨y,hy⟩:=OF.1 hb
 simp_all[vj]
def yO:∀ {s:ZA},(∀ c∈s,c≠9/\c≠10/\c≠13)->s.map bO=s
 | [],_=>rfl
 | c::s,h=>by
  have h1:=h c ZH
  rw[Wc,yO fun x hx=>h x (by simp[hx])]
  congr 1
  unfold bO cG
  simp_all
def Ir (k:Nat):ZA:=if k=3 then [47,62] else [62]
def rY {n:ZA}{P:List Pr->ZA->Tk->ZA->Prop}
  (h1:∀ l s k t,jB (aT s)=some (k,t)->P l s ⟨k,n,l,[]⟩ t)
  (h2:∀ l s a r u v,jB (aT s)=none->(aT s).length<s.length->fY (aT s)=some (a,r)->(l.any fun b=>a.name==b.name)=false->jV n (l++[a]) r=some (u,v)->P (l++[a]) r u v->P l s u v) :
  ∀(m:Nat) (l:List Pr) (s:ZA) (u:Tk) (v:ZA),s.length<=m->jV n l s=some (u,v)->P l s u v:=by
 intro m
 induction m with
 | zero =>
  intro l s u v hm h
  obtain rfl:=XY.1 (YQ.1 hm)
  rw[px (by rfl) (by simp[aT])]at h;cases h
 | succ m ih =>
  intro l s u v hm h
  cases he:jB (aT s) with
  | some p =>
   obtain⟨k,t⟩:=p
   rw[lG he]at h
   cases h
   exact h1 _ _ _ _ he
  | none =>
   cases ha:fY (aT s) with
   | none=>rw[pw he ha]at h;cases h
   | some p =>
    obtain⟨a,r⟩:=p
    cases hd:l.any fun b=>a.name==b.name with
    | true=>rw[py he ha hd]at h;cases h
    | false =>
     by_cases hg:(aT s).length<s.length
     ·rw[oM he hg ha hd]at h
      have hl:=mQ ha
      have:=dm s
      exact h2 l s a r u v he hg ha hd h (ih _ _ _ _ Y6 h)
     ·rw[px he hg]at h;cases h
def Nt {s r:ZA}{t:Tk}(h:iT s=some (t,r))(h4:t.kind=4):bY 60 s=none/\bp (ct s)=some t.text/\r=iF s/\t=⟨4,[],[],t.text⟩:=by
 unfold iT at h
 split at h
 ·rename_i u hu
  exfalso
  unfold j0 at h
  split at h
  ·obtain⟨⟨n,r1⟩,h1,h2⟩:=WC.1 h
   obtain⟨r2,h3,e⟩:=BY.1 h2
   cases e
   cases h4
  ·obtain⟨⟨n,r1⟩,h1,h2⟩:=WC.1 h
   have:t.kind=1\/t.kind=3:=by
    refine rY (n:=n) (P:=fun l s u v=>u.kind=1\/u.kind=3) ?_ (fun _ _ _ _ _ _ _ _ _ _ _ ih=>ih) _ [] r1 t r (IS _) h2
    intro l s k t he
    unfold jB at he
    split at he
    ·cases he;exact .inl rfl
    ·cases he;exact .inr rfl
    ·cases he
   omega
 ·rename_i hu
  obtain⟨x,h1,h2⟩:=BY.1 h
  cases h2
  exact⟨hu,h1,rfl,rfl⟩
def pQ {p:UInt8->Bool} : ∀ {s:ZA} {c:UInt8},c∈s.takeWhile p->p c=true
 | [],c,h=>by simp at h
 | d::s,c,h=>by
  rw[X1]at h
  by_cases hd:p d=true
  ·rw[if_pos hd]at h
   rcases WZ.1 h with rfl|h
   ·exact hd
   ·exact pQ h
  ·rw[if_neg hd]at h;simp at h
def xa (s:ZA):∀ c,(iF s).head? = some c->c=60:=by
 intro c hc
 have:=List.head?_dropWhile_not iE s
 unfold iF at hc
 rw[hc]at this
 simpa [iE] using this
def zt {a:ZA}{x:ZA}(h:cA a=some x):x.length<=a.length+2/\(dn x).isSome=true:=by
 have hp:∀(o:ZC) (k:Nat),2<=k->eR o=some x->x.length<=k+2/\(dn x).isSome=true:=by
  intro o k hk ho
  unfold eR at ho
  obtain⟨n,_,hn⟩:=WC.1 ho
  split at hn
  ·rename_i hm
   cases hn
   have:=(be (n:Int)).2
   have hd:=gQ [(n:Int)] (by simp[hm])
   simp only[enc,Xk,YF,WR]at hd
   exact⟨by omega,by rw[hd];rfl⟩
  ·cases hn
 unfold cA at h
 repeat' split at h
 ·rename_i e;cases h;subst e;exact⟨by decide,by decide⟩
 ·rename_i e;cases h;subst e;exact⟨by decide,by decide⟩
 ·rename_i e;cases h;subst e;exact⟨by decide,by decide⟩
 ·rename_i e;cases h;subst e;exact⟨by decide,by decide⟩
 ·rename_i e;cases h;subst e;exact⟨by decide,by decide⟩
 ·rename_i e1 e2
  refine hp _ _ ?_ h
  cases a with
  | nil=>cases e1
  | cons c a =>
   cases a with
   | nil=>cases e2
   | cons d a=>simp
 ·rename_i e1 e2
  refine hp _ _ ?_ h
  cases a with
  | nil=>cases e1
  | cons c a =>
   cases a with
   | nil=>simp[eR,jA]at h
   | cons d a=>simp
 ·cases h
def ni:∀(n:Nat) (s x:ZA),s.length<=n->bp s=some x->x.length<=s.length
 | n,[],x,_,h=>by rw[mw]at h;cases h;simp
 | 0,c::r,x,hn,_=>by simp at hn
 | n+1,c::r,x,hn,h=>by
  have hl:r.length<=n:=by simpa using hn
  by_cases h1:c=60
  ·subst h1;rw[oH]at h;cases h
  by_cases h2:c=38
  ·subst h2
   cases hc:df 59 r with
   | none=>rw[k7 hc]at h;cases h
   | some p =>
    obtain⟨u,v⟩:=p
    have hlen:=congrArg List.length (eB hc).1
    cases hm:cA u with
    | none=>rw[mu hc hm]at h;cases h
    | some y =>
     rw[mz hc hm]at h
     obtain⟨w,hw,rfl⟩:=BY.1 h
     simp only[List.length_append,List.length_cons]at hlen
     have h3:=ni n v w Y6 hw
     have h4:=(zt hm).1
     simp only[List.length_append,List.length_cons];omega
  ·rw[iC h1 h2]at h
   obtain⟨w,hw,rfl⟩:=BY.1 h
   have:=ni n r w hl hw
   simp only[List.length_cons];omega
def wJ:∀ {p:ZA} (r:ZA),(∀ c∈p,128<=c.toNat)->bp (p++r)=(bp r).map (p ++ ·)
 | [],r,_=>by
  rw[List.nil_append]
  cases bp r<;>simp
 | c::p,r,h=>by
  have h0:=h c ZH
  rw[List.cons_append,iC (by rintro rfl;simp at h0) (by rintro rfl;simp at h0),wJ r fun x hx=>h x (by simp[hx])]
  cases bp r<;>simp
def zE:∀(n:Nat) (s x:ZA),s.length<=n->(dn s).isSome=true->bp s=some x->(dn x).isSome=true:=by
  intro n
  induction n with
  | zero =>
    intro s x hn _ h
    obtain rfl:=XY.1 (YQ.1 hn)
    rw[mw]at h;cases h;rfl
  | succ n ih =>
    intro s x hn hd h
    obtain⟨zs,hz⟩:=OF.1 hd
    obtain⟨hm,rfl⟩:=(mU s zs).1 hz
    cases zs with
    | nil=>rw[show enc []=[] from rfl,mw]at h;cases h;rfl
    | cons z zs =>
      simp only[List.all_cons,In]at hm
      have e:enc (z::zs)=encodeRune z++enc zs:=by simp[enc]
      have hl:=(be z).1
      rw[e]at h hn hd
      rw[List.length_append]at hn
      have hdz:(dn (enc zs)).isSome=true:=by rw[gQ zs hm.2];rfl
      have hd1:(dn (encodeRune z)).isSome=true:=by
        have:=gQ [z] (by simp[hm.1])
        simp only[enc,Xk,YF,WR]at this
        rw[this];rfl
      have hr:=(gw hm.1).1
      by_cases hz128:z<128
      · rw [Au hr hz128]at h hd1 hd hn
        rw[List.singleton_append]at h hd
        generalize z.toNat.toUInt8=c at h hd1 hd hn
        simp only[List.length_cons,List.length_nil]at hn
        by_cases h1:c=60
        · subst h1;rw[oH]at h;cases h
        by_cases h2:c=38
        · subst h2
          cases hc:df 59 (enc zs) with
          | none=>rw[k7 hc]at h;cases h
          | some p =>
            obtain⟨u,v⟩:=p
            have hce:=(eB hc).1
            have hlen:=congrArg List.length hce
            simp only[List.length_append,List.length_cons]at hlen
            cases hmm:cA u with
            | none=>rw[mu hc hmm]at h;cases h
            | some y =>
              rw[mz hc hmm]at h
              obtain⟨w,hw,rfl⟩:=BY.1 h
              have hv:=(cp (d:=59) ZI hdz hce).2
              exact uu (zt hmm).2 (ih v w Y6 hv hw)
        · rw[iC h1 h2]at h
          obtain⟨w,hw,rfl⟩:=BY.1 h
          exact uu (a:=[c]) hd1 (ih _ w Y6 hdz hw)
      · rw[wJ _ (rc Y6)]at h
        obtain⟨w,hw,rfl⟩:=BY.1 h
        exact uu hd1 (ih _ w Y6 hdz hw)
def ID {s:ZA}(h:(dn s).isSome=true):(dn (s.map bO)).isSome=true:=by
 obtain⟨zs,hz⟩:=OF.1 h
 obtain⟨hm,rfl⟩:=(mU s zs).1 hz
 clear hz h
 induction zs with
 | nil=>rfl
 | cons z zs ih =>
  simp only[List.all_cons,In]at hm
  have e:enc (z::zs)=encodeRune z++enc zs:=by simp[enc]
  rw[e,WM]
  refine uu ?_ (ih hm.2)
  have hr:=(gw hm.1).1
  by_cases hz:z<128
  ·rw[Au hr hz,Wc,Wx]
   unfold bO
   split
   ·decide
   ·have:=gQ [z] (by simp[hm.1])
    simp only[enc,Xk,YF,WR,Au hr hz]at this
    rw[this];rfl
  ·have:(encodeRune z).map bO=encodeRune z:=yO fun c hc=>by
    have:=rc (z:=z) Y6 c hc
    refine⟨?_,?_,?_⟩<;>(rintro rfl;simp at this)
   rw[this]
   have:=gQ [z] (by simp[hm.1])
   simp only[enc,Xk,YF,WR]at this
   rw[this];rfl
def K3 {s v r:ZA}(h:(dn s).isSome=true)(hl:s.length<=16384)(hv:gn s=some (v,r)):az v=0/\(bZ true v).length+6*r.length+12<=6*s.length:=by
 obtain⟨a,h1,h2⟩:=lf hv
 obtain⟨q,hq,rfl,_⟩:=kW h1
 have hq128:q.toNat<128:=by rcases hq with rfl|rfl<;>decide
 have d1:=(cp hq128 (a:=[]) h rfl).2
 have d2:=(cp hq128 d1 rfl).1
 unfold r5 at h2
 have d3:=zE _ _ _ (IS _) (ID d2) h2
 have l3:=ni _ _ _ (IS _) h2
 have:=(bP true v).2
 simp only[Xm,List.length_cons,List.length_append]at l3 hl ⊢
 exact⟨dJ.2 ⟨by omega,d3⟩,by omega⟩
def LB {s r:ZA}{a:Pr}(h:(dn s).isSome=true)(hl:s.length<=16384)(ha:fY s=some (a,r)):bI a.name=true/\az a.value=0/\(nL a).length+6*r.length<=6*s.length:=by
 obtain⟨r1,t,h1,h2,h3⟩:=ko ha
 obtain⟨e,_,hf,_⟩:=e9 h1
 have d1:=eg (jQ h h1)
 rw[h2]at d1
 have d2:=eg (cp (d:=61) ZI (a:=[]) d1 rfl).2
 have l1:=congrArg List.length e
 have l2:=dm r1
 have l3:=dm t
 rw[h2]at l2
 simp only[List.length_append,List.length_cons]at l1 l2
 obtain⟨g1,g2⟩:=K3 d2 Y6 h3
 refine⟨hf,g1,?_⟩
 simp only[nL,List.length_append,List.length_cons,List.length_nil]
 omega
def OG {n:ZA}(hn:bI n=true){l:List Pr}{s v:ZA}{u:Tk}(h:jV n l s=some (u,v))(hd:(dn s).isSome=true)(hl:s.length<=16384)(hok:jp l l.length):u.name=n/\u.text=[]/\(u.kind=1\/u.kind=3)/\jp u.attrs u.attrs.length/\(dn v).isSome=true/\(fc u.attrs).length+(Ir u.kind).length+6*v.length<=(fc l).length+6*s.length:=by
 refine rY (n:=n) (P:=fun l s u v=>(dn s).isSome=true->s.length<=16384->jp l l.length->u.name=n/\u.text=[]/\(u.kind=1\/u.kind=3)/\jp u.attrs u.attrs.length/\(dn v).isSome=true/\(fc u.attrs).length+(Ir u.kind).length+6*v.length<=(fc l).length+6*s.length) ?_ ?_ _ l s u v (IS _) h hd hl hok
 ·intro l s k t he hd hl hok
  have hs:=eg hd
  have hsl:=dm s
  unfold jB at he
  split at he
  ·rename_i e
   cases he
   rw[e]at hs hsl
   refine⟨rfl,rfl,.inl rfl,hok,(cp (d:=62) ZI (a:=[]) hs rfl).2,?_⟩
   simp only[List.length_cons]at hsl
   simp[Ir];omega
  ·rename_i e
   cases he
   rw[e]at hs hsl
   have h1:=(cp (d:=47) ZI (a:=[]) hs rfl).2
   refine⟨rfl,rfl,.inr rfl,hok,(cp (d:=62) ZI (a:=[]) h1 rfl).2,?_⟩
   simp only[List.length_cons]at hsl
   simp[Ir];omega
  ·cases he
 ·intro l s a r u v he hg ha hd2 _ ih hd hl hok
  have hs:=eg hd
  obtain⟨g1,g2,g3⟩:=LB hs Y6 ha
  have hlt:=mQ ha
  have hr:=u0 hs ha
  obtain⟨k1,k2,k3,k4,k5,k6⟩:=ih hr Y6 (by
   intro i b hi hb
   by_cases hil:i<l.length
   ·rw[Yg hil]at hb
    rw[List.take_append_of_le_length Y6]
    exact hok i b hil hb
   ·have:i=l.length:=by simp at hi;omega
    subst this
    rw[Ye Y6]at hb
    simp at hb;subst hb
    rw[List.take_append_of_le_length Y6,WJ]
    unfold Pl
    simp[hd2,g1,g2])
  refine⟨k1,k2,k3,k4,k5,?_⟩
  have:(fc (l++[a])).length=(fc l).length+(nL a).length:=by simp[fc]
  omega
def Ba {s r:ZA}{t:Tk}(hne:s≠[])(h:iT s=some (t,r))(hd:(dn s).isSome=true)(hl:s.length<=16384)(h16:t.attrs.length<=16):dy t=true/\(dn r).isSome=true/\(t.kind=4 -> ∀ c,r.head? = some c->c=60)/\(t.kind=4->bY 60 s=none)/\(fk t).length+6*r.length<=6*s.length:=by
  by_cases h4:t.kind=4
  · obtain ⟨g1,g2,rfl,g4⟩:=Nt h h4
    have e:s=ct s++iF s:=(Wk).symm
    have le:=congrArg List.length e
    rw[List.length_append]at le
    obtain⟨d1,d2⟩:=xb hd
    have l1:=ni _ _ _ (IS _) g2
    have l2:=(bP false t.text).2
    have d3:=zE _ _ _ (IS _) d1 g2
    have hx:t.text≠[]:=by
      intro hx
      have hT:ct s≠[]:=by
        cases s with
        | nil=>exact absurd rfl hne
        | cons c s =>
          have hc:iE c=true:=by
            rw[dF]at g1
            split at g1
            · cases g1
            · rename_i e;simp[iE,e]
          unfold ct
          rw[X1,if_pos hc];simp
      rw[hx]at g2
      cases hT':ct s with
      | nil=>exact hT hT'
      | cons c w =>
        rw[hT']at g2
        by_cases c60:c=60
        · subst c60;rw[oH]at g2;cases g2
        by_cases c38:c=38
        · subst c38
          cases hc:df 59 w with
          | none=>rw[k7 hc]at g2;cases g2
          | some p =>
            obtain⟨u,v⟩:=p
            cases hm:cA u with
            | none=>rw[mu hc hm]at g2;cases g2
            | some y =>
              rw[mz hc hm]at g2
              obtain⟨z,_,hz⟩:=BY.1 g2
              have:=(Yr.1 hz).1
              subst this
              unfold cA at hm
              repeat' split at hm
              all_goals (first|cases hm;done|skip)
              all_goals (
                unfold eR at hm
                obtain⟨n,_,hn⟩:=WC.1 hm
                split at hn
                · have:=(be (n:Int)).1
                  simp only[WO]at hn
                  rw[hn]at this
                  simp at this
                · cases hn)
        · rw[iC c60 c38]at g2
          obtain⟨z,_,hz⟩:=BY.1 g2
          cases hz
    refine⟨?_,d2,fun _=>xa s,fun _=>g1,?_⟩
    · rw[g4]
      unfold dy
      rw[if_neg (show ¬((4:Nat)=1\/(4:Nat)=3) by decide),if_neg (show ¬(4:Nat)=2 by decide),if_pos rfl]
      have:az t.text=0:=dJ.2 ⟨by omega,d3⟩
      have hxe:t.text.isEmpty=false:=by rw[Xu];exact hx
      simp[this,hxe]
    · have:fk t=bZ false t.text:=by unfold fk;rw[if_pos h4]
      rw[this]
      omega
  · have hh:∃ u,bY 60 s=some u:=by
      cases ha:bY 60 s with
      | some u=>exact⟨u,rfl⟩
      | none =>
        exfalso
        unfold iT at h
        rw[ha]at h
        obtain⟨x,_,hx⟩:=BY.1 h
        cases hx
        exact h4 rfl
    obtain⟨u,hu⟩:=hh
    have hs:=bG hu
    subst hs
    have du:=(cp (d:=60) ZI (a:=[]) hd rfl).2
    simp only[List.length_cons]at hl
    unfold iT at h
    rw[hu]at h
    simp only at h
    unfold j0 at h
    split at h
    · rename_i w hw
      obtain rfl:=bG hw
      have dw:=(cp (d:=47) ZI (a:=[]) du rfl).2
      obtain⟨⟨n,r1⟩,h1,h2⟩:=WC.1 h
      obtain⟨r2,h3,e⟩:=BY.1 h2
      cases e
      obtain⟨e1,_,hf,_⟩:=e9 h1
      have l1:=congrArg List.length e1
      have l2:=dm r1
      have d1:=eg (jQ dw h1)
      rw[bG h3]at l2 d1
      simp only[List.length_append,List.length_cons]at l1 l2
      refine⟨?_,(cp (d:=62) ZI (a:=[]) d1 rfl).2,fun h=>absurd h h4,fun h=>absurd h h4,?_⟩
      · unfold dy
        rw[if_neg (show ¬((2:Nat)=1\/(2:Nat)=3) by decide),if_pos rfl]
        simp[hf]
      · have:fk ⟨2,n,[],[]⟩=[60,47]++n++[62]:=by unfold fk;rw[if_neg (show ¬(2:Nat)=4 by decide),if_pos rfl]
        rw[this]
        simp only[List.length_append,List.length_cons,List.length_nil]
        omega
    · rename_i hw
      obtain⟨⟨n,r1⟩,h1,h2⟩:=WC.1 h
      obtain⟨e1,_,hf,_⟩:=e9 h1
      have l1:=congrArg List.length e1
      simp only[List.length_append]at l1
      have d1:=jQ du h1
      obtain⟨k1,k2,k3,k4,k5,k6⟩:=OG hf h2 d1 (by show r1.length<=16384;omega) (by intro i a hi;simp at hi)
      refine⟨?_,k5,fun h=>absurd h h4,fun h=>absurd h h4,?_⟩
      · unfold dy
        rw[if_pos k3,k1,k2,hf,gq.2 ⟨h16,k4⟩]
        rfl
      · have:fk t=[60]++t.name++fc t.attrs++Ir t.kind:=by
          unfold fk Ir
          rw[if_neg h4,if_neg (by rcases k3 with h|h<;>rw[h]<;>decide)]
        rw[this,k1]
        have:fc []=[]:=rfl
        rw[this]at k6
        simp only[List.length_append,List.length_cons,List.length_nil]at k6 ⊢
        omega
def BM:∀ {l:List Tk} {t:Tk},lS l=false->(∀ u,l.getLast? = some u -> ¬(u.kind=4/\t.kind=4))->lS (l++[t])=false
 | [],t,_,_=>rfl
 | [a],t,_,h=>by
  have:=h a rfl
  simp only[List.singleton_append,lS,XD]
  simp only[Wo,Wb]
  by_cases e:a.kind=4
  ·right;exact fun e2=>this ⟨e,e2⟩
  ·left;exact e
 | a::b::l,t,h,h2=>by
  simp only[List.cons_append,lS,XK]at h ⊢
  exact⟨h.1,BM (l:=b::l) h.2 (fun u hu=>h2 u (by rw[List.getLast?_cons_cons];exact hu))⟩
def MV (n:Nat):∀(m:Nat) (acc:List Tk) (s:ZA),s.length<=m->s.length<=n->(dn s).isSome=true->s.length<=16384->(∀ t∈acc,dy t=true)->lS acc=false->acc.length<=512->(∀ t,acc.getLast? = some t->t.kind=4 -> ∀ c,s.head? = some c->c=60) ->
  ((iQ n acc s).2.2=0->(∀ t∈(iQ n acc s).1,dy t=true)/\lS (iQ n acc s).1=false/\(iQ n acc s).1.length<=512/\(iQ n acc s).1.length<=acc.length+s.length/\(iQ n acc s).2.1=0/\(cP (iQ n acc s).1).length<=(cP acc).length+6*s.length) /\
  ((iQ n acc s).2.2≠0->(iQ n acc s).1=[]/\(iQ n acc s).2.1<n):=by
 intro m
 induction m with
 | zero =>
  intro acc s hm _ _ _ h1 h2 h3 _
  obtain rfl:=XY.1 (YQ.1 hm)
  rw[rB]
  exact⟨fun _=>⟨h1,h2,h3,by simp,rfl,by simp⟩,fun h=>absurd rfl h⟩
 | succ m ih =>
  intro acc s hm hn hd hl h1 h2 h3 h4
  by_cases hs:s=[]
  ·subst hs
   rw[rB]
   exact⟨fun _=>⟨h1,h2,h3,by simp,rfl,by simp⟩,fun h=>absurd rfl h⟩
  ·have hpos:=Wl.2 hs
   by_cases hmany:512<=acc.length
   ·rw[sL hs hmany]
    exact⟨fun h=>absurd (show(4:Int)=0 from h) ZI,fun _=>⟨rfl,by show n-s.length<n;omega⟩⟩
   ·cases ho:iT s with
    | none =>
     rw[v3 hs Y6 ho]
     exact⟨fun h=>absurd (show(80:Int)=0 from h) ZI,fun _=>⟨rfl,by show n-s.length<n;omega⟩⟩
    | some p =>
     obtain⟨t,r⟩:=p
     by_cases ha:16<t.attrs.length
     ·rw[qv hs Y6 ho ha]
      exact⟨fun h=>absurd (show(4:Int)=0 from h) ZI,fun _=>⟨rfl,by show n-s.length<n;omega⟩⟩
     ·have hlt:=A9 hs ho
      obtain⟨k1,k2,k3,k4,k5⟩:=Ba hs ho hd hl Y6
      rw[uB hs Y6 ho Y6]
      obtain⟨g1,g2⟩:=ih (acc++[t]) r Y6 Y6 k2 Y6 (by
       intro u hu
       rcases Wf.1 hu with hu|hu
       ·exact h1 u hu
       ·simp at hu;subst hu;exact k1) (BM h2 (by
       rintro u hu ⟨e1,e2⟩
       have h60:=h4 u hu e1
       have hn:=k4 e2
       cases s with
       | nil=>exact hs rfl
       | cons c s =>
        have:=h60 c rfl
        subst this
        rw[dF,if_pos rfl]at hn
        cases hn)) ZK (by
       intro u hu hk
       simp at hu;subst hu
       exact k3 hk)
      refine⟨fun h=>?_,g2⟩
      obtain⟨e1,e2,e3,e4,e5,e6⟩:=g1 h
      have:(cP (acc++[t])).length=(cP acc).length+(fk t).length:=by simp[cP]
      simp only[List.length_append,List.length_cons,List.length_nil]at e4
      exact⟨e1,e2,e3,by omega,e5,by omega⟩
def Hn (s:ZA):((bW s).2.2=0->(∀ t∈(bW s).1,dy t=true)/\lS (bW s).1=false/\(bW s).1.length<=512/\(bW s).1.length<=s.length/\(bW s).2.1=0/\(cP (bW s).1).length<=6*s.length)/\((bW s).2.2≠0->(bW s).1=[]/\(bW s).2.1<=s.length/\((bW s).2.2=80->(bW s).2.1<s.length)):=by
 unfold bW
 by_cases hp:az s=0
 ·rw[if_neg (by simp[hp])]
  obtain⟨hl,hd⟩:=dJ.1 hp
  obtain⟨h1,h2⟩:=MV s.length s.length [] s (IS _) (IS _) hd hl ZH rfl ZH ZH
  refine⟨fun h=>?_,fun h=>?_⟩
  ·obtain⟨e1,e2,e3,e4,e5,e6⟩:=h1 h
   exact⟨e1,e2,e3,by simpa using e4,e5,by simpa [cP] using e6⟩
  ·obtain⟨e1,e2⟩:=h2 h
   exact⟨e1,by omega,fun _=>e2⟩
 ·rw[if_pos (by simpa using hp)]
  refine⟨fun h=>absurd h (by simpa using hp),fun _=>⟨rfl,by simp,fun h=>?_⟩⟩
  exfalso
  have h:az s=80:=h
  unfold az at h
  split at h
  ·cases h
  ·split at h<;>cases h
set_option maxRecDepth 100000
set_option maxHeartbeats 32000000
open Go Go.RowKit Vm Go.Lib Tryz
def N1 (s n r0:ZA)(hs:s.length<=16384)(hd:(dn s).isSome=true)(h1:bY 47 s=none)(h2:ep s=some (n,r0))(h3:jV n [] r0=none)(q:Nat)(M:ah)(nm:Nat)(hq:M q=some (cm s))(ho:∀ z,(M z).isSome=true->z∈[q])(hqn:q<nm) :
    BI cx 95 nm [.ptr q 0 0] M FY:=by
  have p1:=dh s [47] false Y6 ZI (by rw[fK,h1];rfl)
  simp only[WH,WS]at p1
  have hn:=mG s n r0 Y6 h2
  obtain⟨_,_,_,l2⟩:=e9 h2
  have hd0:=jQ hd h2
  unfold cm at hq hn
  refine kH rfl qc rfl call95 func95 rfl mixed (by kernel_rfl) rfl ?_;intro b0 hb0
  have lq:=aq hb0 hq
  have z0:=aE lq;have z1:=ak lq;have z2:=ay lq;have z3:=ae lq
  repeat' first|simp only[z2,au,aH,seval]|((first|(refine ab ?_ [q] (p1 q _ _ ?_ ac Y6) ?_ ?_)|(refine ab ?_ [q] (hn q _ _ ?_ ac Y6) ?_ ?_));iterate 3 (focus (simp only[aK,hq,z0,au,seval]<;>exact rfl)))
  (refine v8 (fun x:TSt=>x.rest.length) (fun x=>jV n x.l x.rest=none/\(dn x.rest).isSome=true/\x.rest.length+x.l.length<=16384) (b0+16) (fun x=>[(0,.ptr q 0 0),(2,.ptr b0 0 0)]) (fun x=>[(q,⟨1,[[.str x.rest]]⟩),(b0,⟨4,[[.int .u8 0,.str n,.own (b0+1) 0 x.l.length,.str []]]⟩),(b0+1,⟨2,x.l.map cZ⟩)]) (⟨[],r0⟩) [some q,some b0,none] ?_ ?_ ?_;(focus (refine⟨?_,?_⟩<;>(try simp only[bL,HD,hq,z0,z2,z3,am,Lo,List.length_nil,au,aB,seval])<;>(try omega))))
  · exact⟨h3,hd0,by show r0.length+0<=16384;omega⟩
  · rintro ⟨xl,xr⟩ ⟨g1,g2,g3⟩
    dsimp only at g1 g2 g3 ⊢
    have gl:=dm xr
    have hsk:=lE xr (by unfold aN;omega)
    unfold cm at hsk
    have hnl:(xl.map cZ).length=xl.length:=Lm _
    by_cases e62:preB (aT xr) [62]=true
    · obtain⟨t,ht,hen⟩:=Ha e62
      rw[lG hen]at g1
      cases g1
    · have e62':preB (aT xr) [62]=false:=by simpa using e62
      have p62:=dh (aT xr) [62] false Y6 ZI e62'
      simp only[WH,WS]at p62
      by_cases e47:preB (aT xr) [47,62]=true
      · obtain⟨t,ht,hen⟩:=yL e47
        rw[lG hen]at g1
        cases g1
      · have e47':preB (aT xr) [47,62]=false:=by simpa using e47
        have hen:=Cq e62' e47'
        have p63:=dh (aT xr) [47,62] false Y6 ZI e47'
        simp only[WH,WS]at p63
        by_cases hgap:(aT xr).length<xr.length
        · have hgd:decide ((aT xr).length<xr.length)=true:=AI hgap
          rw[hgd]at hsk
          cases k1:ep (aT xr) with
          | none =>
            have hn1:=s8 (aT xr) Y6 k1
            unfold cm at hn1
            repeat' first|simp only[aF,Bt,au,aH,seval]|((first|(refine ab ?_ [q] (hsk q _ _ ?_ ac Y6) ?_ ?_)|(refine ab ?_ [q] (p62 q _ _ ?_ ac Y6) ?_ ?_));iterate 3 (focus (simp only[aK,aF,z0,z1,au,seval]<;>exact rfl)))|((refine ab ?_ [q] (p63 q _ _ ?_ ac Y6) ?_ ?_);iterate 3 (focus (simp only[aK,aF,z0,z1,au,seval]<;>exact rfl)))
            refine c8 rfl [q] (hn1 q _ _ ?_ ac Y6) ?_
            · simp only[aK,aF,z0,z1,au]<;>exact rfl
            · simp only[aQ,bv,bf,fV,FY]
          | some p =>
            obtain⟨m,r1⟩:=p
            have d0:=jQ (eg g2) k1
            obtain⟨_,_,_,m1⟩:=e9 k1
            have m2:=dm r1
            have hn1:=mG (aT xr) m r1 Y6 k1
            have hsk1:=lE r1 (by unfold aN;omega)
            unfold cm at hn1 hsk1
            cases k2:bY 61 (aT r1) with
            | none =>
              have p61:=dh (aT r1) [61] false Y6 ZI (by rw[fK,k2];rfl)
              simp only[WH,WS]at p61
              repeat' first|simp only[aF,z2,z3,aQ,bv,bf,Bt,Bf,au,aH,seval]|exact rfl|((first|(refine ab ?_ [q] (hsk q _ _ ?_ ac Y6) ?_ ?_)|(refine ab ?_ [q] (p62 q _ _ ?_ ac Y6) ?_ ?_)|(refine ab ?_ [q] (hn1 q _ _ ?_ ac Y6) ?_ ?_));iterate 3 (focus (simp only[aK,aF,z0,z1,au,seval]<;>exact rfl)))|((first|(refine ab ?_ [q] (p63 q _ _ ?_ ac Y6) ?_ ?_)|(refine ab ?_ [q] (hsk1 q _ _ ?_ ac Y6) ?_ ?_));iterate 3 (focus (simp only[aK,aF,z0,z1,au,seval]<;>exact rfl)))|((refine ab ?_ [q] (p61 q _ _ ?_ ac Y6) ?_ ?_);iterate 3 (focus (simp only[aK,aF,z0,z1,au,seval]<;>exact rfl)))|refine c8 rfl [q] (jj q _ _) ?_|refine ao (v:=.any) ?_
            | some t =>
              have k2':=bG k2
              have d1:=eg d0
              rw[k2']at d1
              have d2:=eg (cp (d:=61) ZI (a:=[]) d1 rfl).2
              have m3:=dm t
              rw[k2']at m2
              simp only[List.length_cons]at m2
              have hsk2:=lE t (by unfold aN;omega)
              rw[k2']at hsk1
              have p61:=dh (61::t) [61] true ZK ZI (by rw[ei];rfl)
              simp only[WQ,WN,WP,List.length_cons,List.length_nil]at p61
              have htw:=D6 xl ⟨m,[]⟩ (by unfold aN;omega)
              unfold cm at hsk2
              cases hany:(xl.any fun b=>m==b.name) with
              | true =>
                simp only[hany,cZ]at htw
                repeat' first|simp only[aF,z2,z3,aQ,bv,bf,Bt,au,aH,seval]|exact rfl|((refine fq (xs:=?_) [b0+1,b0+384] ?_ (fun _=>?_) (fun _=>?_) rfl ((fun _=>htw _)) ?_);rotate_left 1;iterate 3 (focus (simp only[aK,aF,aA,z3,Lm,au,seval]<;>(first|exact rfl))))|((first|(refine ab ?_ [q] (hsk q _ _ ?_ ac Y6) ?_ ?_)|(refine ab ?_ [q] (p62 q _ _ ?_ ac Y6) ?_ ?_)|(refine ab ?_ [q] (hn1 q _ _ ?_ ac Y6) ?_ ?_));iterate 3 (focus (simp only[aK,aF,z0,z1,au,seval]<;>exact rfl)))|((first|(refine ab ?_ [q] (p63 q _ _ ?_ ac Y6) ?_ ?_)|(refine ab ?_ [q] (hsk1 q _ _ ?_ ac Y6) ?_ ?_));iterate 3 (focus (simp only[aK,aF,z0,z1,au,seval]<;>exact rfl)))|((refine ab ?_ [q] (p61 q _ _ ?_ ac Y6) ?_ ?_);iterate 3 (focus (simp only[aK,aF,z0,z1,au,seval]<;>exact rfl)))|refine c8 rfl [q] (jj q _ _) ?_
              | false =>
                simp only[hany,cZ]at htw
                cases k3:gn (aT t) with
                | none =>
                  have hva:=Gl (aT t) Y6 d2 k3
                  unfold cm at hva
                  repeat' first|simp only[aF,z2,z3,Bt,au,aH,seval]|((refine fq (xs:=?_) [b0+1,b0+384] ?_ (fun _=>?_) (fun _=>?_) rfl ((fun _=>htw _)) ?_);rotate_left 1;iterate 3 (focus (simp only[aK,aF,aA,z3,Lm,au,seval]<;>(first|exact rfl))))|((first|(refine ab ?_ [q] (hsk q _ _ ?_ ac Y6) ?_ ?_)|(refine ab ?_ [q] (p62 q _ _ ?_ ac Y6) ?_ ?_)|(refine ab ?_ [q] (hn1 q _ _ ?_ ac Y6) ?_ ?_));iterate 3 (focus (simp only[aK,aF,z0,z1,au,seval]<;>exact rfl)))|((first|(refine ab ?_ [q] (p63 q _ _ ?_ ac Y6) ?_ ?_)|(refine ab ?_ [q] (hsk1 q _ _ ?_ ac Y6) ?_ ?_));iterate 3 (focus (simp only[aK,aF,z0,z1,au,seval]<;>exact rfl)))|((first|(refine ab ?_ [q] (p61 q _ _ ?_ ac Y6) ?_ ?_)|(refine ab ?_ [q] (hsk2 q _ _ ?_ ac Y6) ?_ ?_));iterate 3 (focus (simp only[aK,aF,z0,z1,au,seval]<;>exact rfl)))
                  refine c8 rfl [q] (hva q _ _ ?_ ac Y6) ?_
                  · simp only[aK,aF,z0,z1,au]<;>exact rfl
                  · simp only[aQ,bv,bf,fV,FY]
                | some p3 =>
                  obtain⟨v,r'⟩:=p3
                  have hat:fY (aT xr)=some (⟨m,v⟩,r'):=by
                    unfold fY
                    rw[k1]
                    simp only[Option.bind_some,k2,k3,Option.map_some]
                  rw[oM hen hgap hat hany]at g1
                  have hlt:=mQ hat
                  have g2':=u0 (eg g2) hat
                  have hva:=zC (aT t) v r' Y6 d2 k3
                  unfold cm at hva
                  repeat' first|simp only[aF,z2,z3,Bt,Lm,au,aH,seval]|((refine fq (xs:=?_) [b0+1,b0+384] ?_ (fun _=>?_) (fun _=>?_) rfl ((fun _=>htw _)) ?_);rotate_left 1;iterate 3 (focus (simp only[aK,aF,aA,z3,Lm,au,seval]<;>(first|exact rfl))))|((first|(refine ab ?_ [q] (hsk q _ _ ?_ ac Y6) ?_ ?_)|(refine ab ?_ [q] (p62 q _ _ ?_ ac Y6) ?_ ?_)|(refine ab ?_ [q] (hn1 q _ _ ?_ ac Y6) ?_ ?_)|(refine ab ?_ [q] (hva q _ _ ?_ ac Y6) ?_ ?_));iterate 3 (focus (simp only[aK,aF,z0,z1,au,seval]<;>exact rfl)))|((first|(refine ab ?_ [q] (p63 q _ _ ?_ ac Y6) ?_ ?_)|(refine ab ?_ [q] (hsk1 q _ _ ?_ ac Y6) ?_ ?_));iterate 3 (focus (simp only[aK,aF,z0,z1,au,seval]<;>exact rfl)))|((first|refine ab ?_ [q] (p61 q _ _ ?_ ac Y6) ?_ ?_|refine ab ?_ [q] (hsk2 q _ _ ?_ ac Y6) ?_ ?_);iterate 3 (focus (simp only[aK,aF,z0,z1,au,seval]<;>exact rfl))) | refine Ai Y6 ?_
                  have hnx:xl.map cZ++[[.str m,.str v]]=(xl++[(⟨m,v⟩:Pr)]).map cZ:=by simp[cZ]
                  have hnn:(xl++[(⟨m,v⟩:Pr)]).length=xl.length+1:=by simp
                  rw[hnx]
                  all_goals ((refine pX (⟨xl++[(⟨m,v⟩:Pr)],r'⟩) [some q,some b0,some (b0+848)] ?_ ?_ ?_;(focus (refine⟨?_,?_⟩<;>(try simp only[bL,HD,aA,z0,z1,z2,z3,hnn,au,aB,seval])<;>(try omega)))))
                  all_goals (first|exact⟨g1,g2',by show r'.length+(xl++[(⟨m,v⟩:Pr)]).length<=16384;omega⟩|(show r'.length<xr.length;omega))
        · have hgd:decide ((aT xr).length<xr.length)=false:=WA hgap
          rw[hgd]at hsk
          repeat' first|simp only[aF,aQ,bv,bf,Bf,au,aH,seval]|exact rfl|((first|(refine ab ?_ [q] (hsk q _ _ ?_ ac Y6) ?_ ?_)|(refine ab ?_ [q] (p62 q _ _ ?_ ac Y6) ?_ ?_));iterate 3 (focus (simp only[aK,aF,z0,z1,au,seval]<;>exact rfl)))|((refine ab ?_ [q] (p63 q _ _ ?_ ac Y6) ?_ ?_);iterate 3 (focus (simp only[aK,aF,z0,z1,au,seval]<;>exact rfl)))|refine c8 rfl [q] (jj q _ _) ?_
end Go.Proofs.YtgboofebldgdjaaGreatDoor
