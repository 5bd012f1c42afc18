/-
 Texts joined: XEc,XEd,XEh,XEt,XEi,XGc,XGd,XEb,XEf,XEg,XGe,XEu,XUt,XNb,XGf,XGg,XGh,XGi,XEk.
-/
import Derived.Test.YtgboofebldgdjaaGreatDoorQf
set_option linter.all false
namespace Go.Proofs.YtgboofebldgdjaaGreatDoor
set_option maxRecDepth 100000
set_option maxHeartbeats 32000000
open Go Go.RowKit Vm Go.Lib Tryz
def Tx (l:ZA):List Int:=if 16384<l.length then [] else (dn l).getD []
def dG (z:Int):List V:=[.int .i64 z]
def Rf (s p:ZA):preB s p=Lib.hasPrefix s p:=by
 unfold preB Lib.hasPrefix
 rw[WL]
 simp only[In,WD,W3,X8,List.prefix_iff_eq_take]
 constructor
 ·rintro ⟨_,h⟩;exact h.symm
 ·intro h
  refine⟨?_,h.symm⟩
  have:=congrArg List.length h
  simp at this;omega
def Ns {s:ZA}{p:Nat}(hp:p<s.length):one (s.drop p)=if ((br s p).1=65533/\preB (s.drop p) [239,191,189]=false)\/hY ((br s p).1:Int)=false then none else some (((br s p).1:Int),(br s p).2):=by
 have hne:s.drop p≠[]:=by
  intro h
  have:=congrArg List.length h
  simp at this;omega
 have hd:br s p=Lib.decodeL (s.drop p):=Cn ⟨s.toArray⟩ p
 rw[hd,Rf]
 exact yf hne
def rune_le (s:ZA)(p:Nat):(br s p).1<=2147483647:=decode_le _ _
def OJ (l:List Int):(l.map dG).take l.length=l.map dG:=IN ZH
def am:Ob.isRow instCells=true:=rfl
def fW (l:List Int):plainLL (l.map dG)=true:=cq _ (fun _=>rfl) l
def N5 (σ:Y8)(l:List Int):Blk.ren σ ⟨1,l.map dG⟩=⟨1,l.map dG⟩:=Blk.ren_plain (fW l) rfl
def JJ (s:ZA)(hs:s.length<=aN)(nm:Nat):Ev cx 92 nm [.str s] ah.nil (.tup [.sl false 1 ((Tx s).map dG),.int .i64 (az s)]) []:=by
 unfold aN at hs
 by_cases hbig:16384<s.length
 ·have he:az s=4:=by unfold az;rw[if_pos hbig]
  have hq:Tx s=[]:=by unfold Tx;rw[if_pos hbig]
  have hd:decide ((16384:Int)<s.length)=true:=bz
  refine aG call92 func92 results92 ntmps92 ?_;intro b0 hb0 zN
  exact xP (a3 he hq hd) trivial
 ·have hd:decide ((16384:Int)<s.length)=false:=aL
  refine aG call92 func92 results92 ntmps92 ?_;intro b0 hb0 zN
  (have zF:=hd;repeat' first|refine wS ?_|(refine o8 (s:=?_) ?_ ?_ ?_;rotate_left 1;(focus (exact wH));(focus (exact wH))))
  (have zF:=a4 @am @gM @eS @fW;refine fu (fun x:Nat×List Int=>s.length-x.1) (fun x=>x.1<=s.length/\x.2.length<=x.1/\dn s=(dn (s.drop x.1)).map (x.2 ++ ·)) (b0+16) (fun x=>[(0,.str s),(2,.own (b0+1) 0 x.2.length),(10,.ptr b0 0 0)]) (fun x=>[(b0,mb s x.1),(b0+1,⟨1,x.2.map dG⟩)]) ((0,[])) [some (b0+96),none] ?_ ?_)
  ·refine⟨WB _,IS _,?_⟩
   rw[WP];cases dn s<;>rfl
  ·rintro ⟨p,zs⟩ ⟨h1,h2,h3⟩
   by_cases hp:p<s.length
   ·have ho:=Ns hp
    have hne:s.drop p≠[]:=by
     intro h
     have:=congrArg List.length h
     simp at this;omega
    have hrl:=rune_le s p
    have hw:IntKind.i64.wrap ((br s p).1:Int)=((br s p).1:Int):=aX
    have hle:(s.drop p).length<=aN:=by unfold aN;simp;omega
    by_cases hbad:((br s p).1=65533/\preB (s.drop p) [239,191,189]=false)\/hY ((br s p).1:Int)=false
    ·rw[if_pos hbad]at ho
     have hd0:dn s=none:=by
      have:=h3
      simp only at this
      rw[this,uv hne ho];rfl
     have he:az s=50:=by unfold az;rw[if_neg hbig,hd0]
     have hq:Tx s=[]:=by unfold Tx;rw[if_neg hbig,hd0];rfl
     cases hc:(((br s p).1:Int)==65533)<;>cases hpr:preB (s.drop p) [239,191,189]<;>cases hm:hY ((br s p).1:Int)
     all_goals (try (exfalso;simp_all;done))
     all_goals ((have zF:=a9 he hq hp hw hc hpr hm @fW @List.length_drop.{0};have cF:=a2 (NI (s.drop p) [239,191,189] hle ZI) (pv ((br s p).1:Int));repeat' first|refine wS ?_|exact wE|(refine jE (s:=?_) (y:=?_) (p:=?_) ?_ ?_ ?_ ?_;rotate_left 3;(focus (exact wH));(focus (exact wH));(focus (exact wo))) | refine Ai Y6 ?_ | apply Fin.pure))
    ·rw[if_neg hbad]at ho
     obtain⟨_,hm,_,hk1,hk2⟩:=kT ho
     have hds:dn s=(dn (s.drop (p+(br s p).2))).map ((zs++[((br s p).1:Int)]) ++ ·):=by
      have:=h3
      simp only at this
      rw[this,lX ho,List.drop_drop]
      cases dn (s.drop (p+(br s p).2))<;>simp
     have hlen:(s.drop p).length=s.length-p:=by simp
     have h2':zs.length<=p:=h2
     have hsn:zs.map dG++[[V.int .i64 ((br s p).1:Int)]]=(zs++[((br s p).1:Int)]).map dG:=by simp[dG]
     have hnx:p+(br s p).2<=s.length:=Y6
     cases hc:(((br s p).1:Int)==65533)<;>cases hpr:preB (s.drop p) [239,191,189]
     all_goals (try (exfalso;exact hbad (.inl ⟨by have:=W3.1 hc;omega,hpr⟩)))
     all_goals ((have zF:=a8 hp hw hc hpr hm @fW hsn @List.length_drop.{0};have cF:=a2 (NI (s.drop p) [239,191,189] hle ZI) (pv ((br s p).1:Int));repeat' first|refine wS ?_|(refine jE (s:=?_) (y:=?_) (p:=?_) ?_ ?_ ?_ ?_;rotate_left 3;(focus (exact wH));(focus (exact wH));(focus (exact wo))) | refine Ai Y6 ?_))
     all_goals ((have zF:=a6 @am @gM @eS @fW hsn @List.length_append.{0};refine c7 ((p+(br s p).2,zs++[((br s p).1:Int)])) [some b0,some (b0+416)] ?_ ?_))
     all_goals (first|(show s.length-(p+(br s p).2)<s.length-p;omega)|exact⟨hnx,by simp;omega,hds⟩ )
   ·have hpe:p=s.length:=Y6
    subst hpe
    have he:az s=0:=by
     rw[XV,qZ]at h3
     unfold az;rw[if_neg hbig,h3];rfl
    have hq:Tx s=zs:=by
     rw[XV,qZ]at h3
     unfold Tx;rw[if_neg hbig,h3];simp
    (have zF:=a6 he hq @fW @OJ @cN @dq;repeat' first|refine wS ?_|exact wE|(refine re (s:=?_) (y:=?_) (p:=?_) ?_ ?_ ?_ ?_;rotate_left 3;(focus (exact wH));(focus (exact wH));(focus (exact wo))) | apply Fin.pure)
def dD (s:ZA)(hs:s.length<=aN)(nm:Nat):Ev cx 43 nm [.str s] ah.nil (.int .i64 (az s)) []:=by
 refine aG call43 func43 results43 ntmps43 ?_;intro b0 hb0 zN
 exact xP trivial (JJ s hs)
def Qx (c:Int)(h0:0<=c)(h1:c<256)(nm:Nat):Ev cx 188 nm [.int .i64 c] ah.nil (.tup [.int .i64 (jI c),.int .i64 (l8 c)]) []:=by
 have w1:IntKind.i64.wrap (c-192)=c-192:=aX
 have w2:IntKind.i64.wrap (c-224)=c-224:=aX
 have w3:IntKind.i64.wrap (c-240)=c-240:=aX
 refine aG call188 func188 results188 ntmps188 ?_;intro b0 hb0 zN
 (have zF:=a3 w1 w2 w3;repeat' first|refine wS ?_|exact wE|((first|apply b7)<;>intro hb) | apply Fin.pure|simp only[aB])
 all_goals simp only[In,Wo,WD,XA]at *
 all_goals (unfold jI l8;constructor<;>(repeat' split)<;>omega)
def zw (n:Int):Bool:=if n<32 then (n==9||n==10||n==13) else (((decide (n<=1114111)&&(decide (n<55296)||decide (57343<n)))&&(n != 65534))&&(n != 65535))
def NS (n:Int):zw n=hY n:=by
 unfold zw
 rw[WL,fU]
 split<;>simp<;>omega
def nh (n:Int)(nm:Nat):Ev cx 189 nm [.int .i64 n] ah.nil (.bool (hY n)) []:=by
 rw[<- NS]
 by_cases h:n<32
 ·have hd:decide (n<32)=true:=AI h
  have hr:zw n=(n==9||n==10||n==13):=by unfold zw;rw[if_pos h]
  refine aG call189 func189 results189 ntmps189 ?_;intro b0 hb0 zN
  exact xP (a2 hd hr) trivial
 ·have hd:decide (n<32)=false:=WA h
  have hr:zw n=(((decide (n<=1114111)&&(decide (n<55296)||decide (57343<n)))&&(n != 65534))&&(n != 65535)):=by unfold zw;rw[if_neg h]
  cases h1:decide (n<=1114111)<;>cases h2:decide (n<55296)<;>cases h3:decide (57343<n)<;>rw[h1,h2,h3]at hr<;>(
  refine aG call189 func189 results189 ntmps189 ?_;intro b0 hb0 zN
  exact xP (a5 hd hr h1 h2 h3) trivial)
def EP (n:Int)(b:UInt8)(l:ZA):dA n (b::l)=dA (64*n+(b.toNat:Int) % 64) l:=rfl
def Cc:∀(l:ZA) (n:Int),0<=n->0<=dA n l/\dA n l<(n+1)*64 ^ l.length
 | [],n,h=>by simp only[dA,List.foldl_nil,List.length_nil];omega
 | b::l,n,h=>by
  rw[EP]
  obtain⟨h1,h2⟩:=Cc l (64*n+(b.toNat:Int) % 64) Y6
  refine⟨h1,Int.lt_of_lt_of_le h2 ?_⟩
  rw[List.length_cons,Int.pow_succ,Int.mul_comm (64 ^ l.length) 64,<- Int.mul_assoc]
  exact Int.mul_le_mul_of_nonneg_right Y6 (Yy Y6)
def gF {z:Int}(h0:0<=z)(h1:z<256):av (z.toNat.toUInt8)=[V.int .u8 z]:=by
 have:=gg h0 h1
 unfold av
 rw[this]
 congr 2;omega
def GC (n:Int)(up:Nat)(h0:0<=n)(h1:n<=1114111)(hu:up<=2)(nm:Nat):Ev cx 213 nm [.int .i64 n,.int .i64 up] ah.nil (.int .u8 (128+n / 64 ^ up % 64)) []:=by
 refine aG call213 func213 results213 ntmps213 ?_;intro b0 hb0 zN
 (refine xR trivial trivial ?_)
 (have zF:=a2 @Y1 @Int.ediv_one;refine fu (fun x:Nat=>up-x) (fun x=>x<=up) (b0+16) (fun x=>[(0,.int .i64 (n / 64 ^ x)),(1,.int .i64 up),(5,.int .i64 x)]) (fun x=>[]) (0) [] ?_ ?_)
 ·exact WB _
 ·intro k hk
  have hp:(0:Int)<=n / 64 ^ k:=Int.ediv_nonneg h0 (Yy Y6)
  have hp2:n / 64 ^ k<=n:=Int.ediv_le_self _ h0
  by_cases hlt:k<up
  ·have hd:=AI hlt
   have ht:(n / 64 ^ k).tdiv 64=n / 64 ^ (k+1):=by
    rw[XM hp,Int.pow_succ,Int.ediv_ediv_of_nonneg (Yy Y6)]
   have hw:IntKind.i64.wrap (n / 64 ^ (k+1))=n / 64 ^ (k+1):=by
    rw[<- ht,XM hp]
    exact aX
   have hwk:=eX k
   (refine xR (a4 hd ht hw hwk) trivial ?_)
   ((have zF:=a4 hd ht hw hwk;refine c7 (k+1) [] ?_ ?_))
   all_goals (first|(show up-(k+1)<up-k;omega)|(show k+1<=up;omega))
  ·have hke:k=up:=Y6
   subst hke
   have hd:decide (k<k)=false:=aL
   have ht:(n / 64 ^ k).tmod 64=n / 64 ^ k % 64:=X9 hp
   have hw1:IntKind.i64.wrap (n / 64 ^ k % 64)=n / 64 ^ k % 64:=aX
   have hw2:IntKind.i64.wrap (128+n / 64 ^ k % 64)=128+n / 64 ^ k % 64:=aX
   have hw3:IntKind.u8.wrap (128+n / 64 ^ k % 64)=128+n / 64 ^ k % 64:=IntWalk.u8_in _ Y6
   exact xP (a5 hd ht hw1 hw2 hw3) trivial
def SQ {z:Int}(h0:0<=z)(h1:z<=127):(encodeRune z).map av=[[V.int .u8 z]]:=by
 simp only[encodeRune,encodeRuneZ_one h0 h1,Lc,Lo]
 rw[gF Y6 Y6]
def Ut {z:Int}(h0:128<=z)(h1:z<=2047):(encodeRune z).map av=[[V.int .u8 (192+z / 64)],[V.int .u8 (128+z % 64)]]:=by
 simp only[encodeRune,encodeRuneZ_two h0 h1,Lc,Lo]
 rw[gF Y6 Y6,gF Y6 Y6]
def Uu {z:Int}(h0:(2048<=z/\z<55296)\/(57343<z/\z<=65535)):(encodeRune z).map av=[[V.int .u8 (224+z / 4096)],[V.int .u8 (128+z / 64 % 64)],[V.int .u8 (128+z % 64)]]:=by
 simp only[encodeRune,encodeRuneZ_three h0,Lc,Lo]
 rw[gF Y6 Y6,gF Y6 Y6,gF Y6 Y6]
def Uv {z:Int}(h0:65536<=z)(h1:z<=1114111):(encodeRune z).map av=[[V.int .u8 (240+z / 262144)],[V.int .u8 (128+z / 4096 % 64)],[V.int .u8 (128+z / 64 % 64)],[V.int .u8 (128+z % 64)]]:=by
 simp only[encodeRune,encodeRuneZ_four h0 h1,Lc,Lo]
 rw[gF Y6 Y6,gF Y6 Y6,gF Y6 Y6,gF Y6 Y6]
def po (n:Int)(hm:hY n=true)(nm:Nat):Ev cx 190 nm [.int .i64 n] ah.nil (.sl false 1 ((encodeRune n).map av)) []:=by
 have hmz:=(fU n).1 hm
 have h0:0<=n:=Y6
 have hm1:n<=1114111:=Y6
 have q1:n.tdiv 64=n / 64:=XM h0
 have q2:n.tdiv 4096=n / 4096:=XM h0
 have q3:n.tdiv 262144=n / 262144:=XM h0
 have w1:IntKind.i64.wrap (n / 64)=n / 64:=aX
 have w2:IntKind.i64.wrap (n / 4096)=n / 4096:=aX
 have w3:IntKind.i64.wrap (n / 262144)=n / 262144:=aX
 have u1:IntKind.i64.wrap (192+n / 64)=192+n / 64:=aX
 have u2:IntKind.i64.wrap (224+n / 4096)=224+n / 4096:=aX
 have u3:IntKind.i64.wrap (240+n / 262144)=240+n / 262144:=aX
 have s0:=GC n 0 h0 hm1 Y6
 have s1:=GC n 1 h0 hm1 Y6
 have s2:=GC n 2 h0 hm1 Y6
 simp only[Y1,Int.ediv_one,show(64:Int) ^ 1=64 from rfl,show(64:Int) ^ 2=4096 from rfl,show((0:Nat):Int)=0 from rfl,show((1:Nat):Int)=1 from rfl,show((2:Nat):Int)=2 from rfl]at s0 s1 s2
 by_cases c1:n<128
 ·have d1:decide (n<128)=true:=AI c1
  have v1:IntKind.u8.wrap n=n:=IntWalk.u8_in _ Y6
  rw[SQ h0 Y6]
  refine aG call190 func190 results190 ntmps190 ?_;intro b0 hb0 zN
  exact xP (a2 d1 v1) trivial
 by_cases c2:n<2048
 ·have d1:decide (n<128)=false:=WA c1
  have d2:decide (n<2048)=true:=AI c2
  have v1:IntKind.u8.wrap (192+n / 64)=192+n / 64:=IntWalk.u8_in _ Y6
  rw[Ut Y6 Y6]
  refine aG call190 func190 results190 ntmps190 ?_;intro b0 hb0 zN
  exact xP (a6 d1 d2 q1 w1 u1 v1) s0
 by_cases c3:n<65536
 ·have d1:decide (n<128)=false:=WA c1
  have d2:decide (n<2048)=false:=WA c2
  have d3:decide (n<65536)=true:=AI c3
  have v1:IntKind.u8.wrap (224+n / 4096)=224+n / 4096:=IntWalk.u8_in _ Y6
  rw[Uu Y6]
  refine aG call190 func190 results190 ntmps190 ?_;intro b0 hb0 zN
  exact xP (a7 d1 d2 d3 q2 w2 u2 v1) (a2 s0 s1)
 ·have d1:decide (n<128)=false:=WA c1
  have d2:decide (n<2048)=false:=WA c2
  have d3:decide (n<65536)=false:=WA c3
  have v1:IntKind.u8.wrap (240+n / 262144)=240+n / 262144:=IntWalk.u8_in _ Y6
  rw[Uv Y6 Y6]
  refine aG call190 func190 results190 ntmps190 ?_;intro b0 hb0 zN
  exact xP (a7 d1 d2 d3 q3 w3 u3 v1) (a3 s0 s1 s2)
def sS (bs:ZA):plainLL (bs.map av)=true:=cq _ (fun _=>rfl) bs
def gT (bs:ZA):((bs.map av).all fun r=>r.all V.one)=true:=by
 rw[WI]
 intro r hr
 obtain⟨c,_,rfl⟩:=Wn.1 hr
 rfl
def cg (t:TypeId):(Ob.typed t).isRow=true:=rfl
def Eo (s:Nat)(r:List (List V))(t:TypeId):Blk.ty (@Blk.mk s r (.typed t))=some t:=rfl
def aP (σ:Y8)(bs:ZA)(t:TypeId):Blk.ren σ (@Blk.mk 1 (bs.map av) (.typed t)) = @Blk.mk 1 (bs.map av) (.typed t):=by
 have h:plainLL (bs.map av)=true:=cq _ (fun _=>rfl) bs
 simp only[Blk.ren,j8,h,WQ]
def aI (σ:Y8)(bs:ZA)(t:TypeId):Blk.renOk σ (@Blk.mk 1 (bs.map av) (.typed t))=true:=by
 have h:plainLL (bs.map av)=true:=cq _ (fun _=>rfl) bs
 simp only[Blk.renOk,gA,h,W8,Wq]
 rfl
def ER {n:Int}{l:ZA}{k:Nat}{b:UInt8}(h:l[k]? = some b):dA n (l.take (k+1))=64*dA n (l.take k)+(b.toNat:Int) % 64:=by
 obtain⟨hk,rfl⟩:=AS.1 h
 rw[WF hk,EQ]
def Ik (n:Int):dA n []=n:=rfl
def Hz:one []=none:=rfl
def mj {s:ZA}(h:one s=none):Nr s=0:=by unfold Nr;rw[h]
def mi {s:ZA}(h:one s=none):Nq s=0:=by unfold Nq;rw[h]
def zj {s:ZA}{z:Int}{k:Nat}(h:one s=some (z,k)):Nr s=z:=by unfold Nr;rw[h]
def zi {s:ZA}{z:Int}{k:Nat}(h:one s=some (z,k)):Nq s=k:=by unfold Nq;rw[h]
def HE (s:ZA)(hs:s.length<=aN)(nm:Nat):Ev cx 159 nm [.str s] ah.nil (.tup [.int .i64 (Nr s),.int .i64 (Nq s)]) []:=by
 unfold aN at hs
 by_cases hne:s=[]
 ·subst hne
  have e1:=mj Hz
  have e2:=mi Hz
  have hd:(([]:ZA)==[])=true:=rfl
  refine aG call159 func159 results159 ntmps159 ?_;intro b0 hb0 zN
  (have zF:=a3 e1 e2 hd;repeat' first|refine wS ?_|exact wE | apply Fin.pure)
 obtain⟨b,l,rfl⟩:=Xr hne
 have hd:((b::l)==[])=false:=rfl
 have hb:(b.toNat:Int)<256:=by have:=b.toNat_lt;omega
 have hb0:(0:Int)<=(b.toNat:Int):=Y6
 have hwb:IntKind.i64.wrap (b.toNat:Int)=(b.toNat:Int):=aX
 obtain⟨hr1,hr2⟩:=C0 (b.toNat:Int)
 obtain⟨hn1,hn2,hn3⟩:=CZ (c:=(b.toNat:Int)) ⟨hb0,hb⟩
 have hhd:=Qx (b.toNat:Int) hb0 hb
 obtain⟨k,hk⟩:∃ k:Nat,jI (b.toNat:Int)=k:=⟨(jI (b.toNat:Int)).toNat,by omega⟩
 have hk4:k<=4:=Y6
 rw[hk]at hhd
 generalize hN:l8 (b.toNat:Int)=n0 at hhd hn1 hn2 hn3
 by_cases hbad:k=0\/(b::l).length<k
 ·have ho:one (b::l)=none:=F3 hk (by rcases hbad with h|h;exact .inl h;exact .inr (.inl h))
  have e1:=mj ho
  have e2:=mi ho
  by_cases h0:k=0
  ·subst h0
   refine aG call159 func159 results159 ntmps159 ?_;intro b0 hb0 zN
   (have zF:=a4 e1 e2 hd hwb;have cF:=hhd;repeat' first|refine wS ?_|exact wE | refine Ai Y6 ?_ | apply Fin.pure)
  ·have hg:decide (l.length+1<k)=true:=AI (by simpa using hbad.resolve_left h0)
   have hg0:((k:Int)==0)=false:=If Y6
   refine aG call159 func159 results159 ntmps159 ?_;intro b0 hb0 zN
   (have zF:=a6 e1 e2 hd hwb hg hg0;have cF:=hhd;repeat' first|refine wS ?_|exact wE | refine Ai Y6 ?_ | apply Fin.pure)
 ·have hg:decide (l.length+1<k)=false:=WA (by simp at hbad;omega)
  have hg0:((k:Int)==0)=false:=If Y6
  have hkl:k<=l.length+1:=by simp at hbad;omega
  have hk1:1<=k:=Y6
  simp only[List.length_cons]at hs
  refine aG call159 func159 results159 ntmps159 ?_;intro b0 hb0 zN
  (have zF:=a4 hd hwb hg hg0;have cF:=hhd;repeat' first|refine wS ?_ | refine Ai Y6 ?_)
  (have zF:=@Ik;refine fu (fun x:Nat=>k-x) (fun x=>1<=x/\x<=k) (b0+16) (fun x=>[(0,.str (b::l)),(4,.int .i64 k),(5,.int .i64 (dA n0 (l.take (x-1)))),(6,.int .i64 x)]) (fun x=>[]) (1) [] ?_ ?_)
  ·exact⟨IS _,hk1⟩
  ·rintro i ⟨hi1,hi2⟩
   by_cases hlt:i<k
   ·have hdi:=AI hlt
    obtain⟨j,rfl⟩:∃ j,i=j+1:=⟨i-1,by omega⟩
    simp only[YO]at *
    obtain⟨c,hc⟩:∃ c,l[j]? = some c:=⟨_,AT Y6⟩
    have hcs:dA n0 (l.take (j+1))=64*dA n0 (l.take j)+(c.toNat:Int) % 64:=ER hc
    have hcl:=Cc (l.take j) n0 hn1
    have hj2:(l.take j).length=j:=by rw[WK];omega
    rw[hj2]at hcl
    have hj3:j<=2:=Y6
    have hn31:n0<=31:=by
     refine hn3 ?_
     omega
    have hpw:(n0+1)*64 ^ j<=131072:=by
     rcases(show j=0\/j=1\/j=2 by omega) with rfl|rfl|rfl<;>simp only[Y1,show(64:Int) ^ 1=64 from rfl,show(64:Int) ^ 2=4096 from rfl]<;>omega
    have hcw:(c.toNat:Int)<256:=by have:=c.toNat_lt;omega
    have hcm:(c.toNat:Int).tmod 64=(c.toNat:Int) % 64:=X9 Y6
    have w1:IntKind.i64.wrap (64*dA n0 (l.take j))=64*dA n0 (l.take j):=aX
    have w2:IntKind.i64.wrap (c.toNat:Int)=(c.toNat:Int):=aX
    have w3:IntKind.i64.wrap ((c.toNat:Int) % 64)=(c.toNat:Int) % 64:=aX
    have w4:IntKind.i64.wrap (64*dA n0 (l.take j)+(c.toNat:Int) % 64)=dA n0 (l.take (j+1)):=by
     rw[hcs];exact aX
    have w5:IntKind.i64.wrap (((j+1:Nat):Int)+1)=((j+1+1:Nat):Int):=aX
    repeat' first|simp only[aF,hdi,hc,hcm,w1,w2,w4,w5,List.getElem?_cons_succ,List.length_cons,au,aH,seval] | refine Ai Y6 ?_
    ((have zF:=a9 hdi hcm w1 w2 w3 w4 w5 @YO (show j+2-1=j+1 from rfl);refine c7 (j+1+1) [] ?_ ?_))
    all_goals (first|(show k-(j+1+1)<k-(j+1);omega)|(show 1<=j+1+1/\j+1+1<=k;omega))
   ·have hke:i=k:=Y6
    subst hke
    have hdi:decide (i<i)=false:=aL
    cases hm:hY (dA n0 (l.take (i-1))) with
    | false =>
     have ho:one (b::l)=none:=F3 hk (.inr (.inr ⟨by simp only[List.length_cons];exact hkl,fun n hn hmn=>by rw[hn,hN,hm]at hmn;cases hmn⟩))
     have e1:=mj ho
     have e2:=mi ho
     (have zF:=a3 hdi e1 e2;have cF:=fun w=>(by have:=nh (dA n0 (l.take (i-1)));rw[hm]at this;exact this w);repeat' first|refine wS ?_|exact wE|refine gY ?_|refine gR [(5,9)] ?_ | apply Fin.pure)
    | true =>
     have hc0:((l.length:Int)+1)=((l.length+1:Nat):Int):=Y6
     have hsl:(i:Int)<=((l.length+1:Nat):Int):=Y6
     have hnn:i<=(b::l).length:=by simp only[List.length_cons];exact hkl
     by_cases heq:encodeRune (dA n0 (l.take (i-1)))=(b::l).take i
     ·have ho:one (b::l)=some (dA n0 (l.take (i-1)),i):=Q8 hm heq hnn
      have e1:=zj ho
      have e2:=zi ho
      have hq:(encodeRune (dA n0 (l.take (i-1)))==(b::l).take i)=true:=by rw[heq];simp
      (have zF:=a7 hdi e1 e2 hq hnn hsl hkl;have cF:=a2 (fun w=>(by have:=nh (dA n0 (l.take (i-1)));rw[hm]at this;exact this w)) (po (dA n0 (l.take (i-1))) hm);repeat' first|refine wS ?_|exact wE|(refine dV (v:=?_) (bs:=?_) ?_ ?_ ?_ ?_ ?_ ?_ ?_;rotate_left 2;(iterate 2 (focus (exact wD)));(focus (exact wH));(focus (exact rfl));(focus (exact wM));(focus (exact wH)))|(refine im ?_) | refine gR [(5,9)] ?_ | apply Fin.pure)
     ·have ho:one (b::l)=none:=F3 hk (.inr (.inr ⟨hnn,fun n hn _=>by rw[hn,hN];exact heq⟩))
      have e1:=mj ho
      have e2:=mi ho
      have hq:(encodeRune (dA n0 (l.take (i-1)))==(b::l).take i)=false:=If heq
      (have zF:=a7 hdi e1 e2 hq hnn hsl hkl;have cF:=a2 (fun w=>(by have:=nh (dA n0 (l.take (i-1)));rw[hm]at this;exact this w)) (po (dA n0 (l.take (i-1))) hm);repeat' first|refine wS ?_|exact wE|(refine dV (v:=?_) (bs:=?_) ?_ ?_ ?_ ?_ ?_ ?_ ?_;rotate_left 2;(iterate 2 (focus (exact wD)));(focus (exact wH));(focus (exact rfl));(focus (exact wM));(focus (exact wH)))|(refine im ?_) | refine gR [(5,9)] ?_ | apply Fin.pure)
def Rg (s:ZA)(hs:s.length<=16384)(nm:Nat):Ev cx 112 nm [.str s] ah.nil (.tup [.sl false 1 (((dn s).getD []).map dG),.bool (dn s).isSome]) []:=by
 refine aG call112 func112 results112 ntmps112 ?_;intro b0 hb0 zN
 (refine xR trivial trivial ?_)
 (have zF:=a2 @am @fW;refine fu (fun x:ZA×List Int=>x.1.length) (fun x=>x.1.length+x.2.length<=s.length/\dn s=(dn x.1).map (x.2 ++ ·)) (b0+16) (fun x=>[(0,.str x.1),(4,.own b0 0 x.2.length)]) (fun x=>[(b0,⟨1,x.2.map dG⟩)]) ((s,[])) [none] ?_ ?_)
 ·refine⟨by simp,?_⟩
  cases dn s<;>rfl
 ·rintro ⟨r,zs⟩ ⟨h1,h2⟩
  simp only at h1 h2
  have hr:r.length<=aN:=by unfold aN;omega
  by_cases hne:r=[]
  ·subst hne
   have hd:(([]:ZA)==[])=true:=rfl
   have e0:dn s=some zs:=by rw[h2,qZ];simp
   have e1:(dn s).isSome=true:=by rw[e0];rfl
   have e2:(dn s).getD []=zs:=by rw[e0];rfl
   exact xP (a7 hd e1 e2 @fW @OJ @cN @dq) trivial
  ·have hd:(r==[])=false:=If hne
   cases ho:one r with
   | none =>
    have k1:=mj ho
    have k2:=mi ho
    have e0:dn s=none:=by rw[h2,uv hne ho];rfl
    have e1:(dn s).isSome=false:=by rw[e0];rfl
    have e2:(dn s).getD []=[]:=by rw[e0];rfl
    exact xP (a6 hd e1 e2 @k1 @k2 @fW) (HE r hr)
   | some p =>
    obtain⟨z,k⟩:=p
    obtain⟨_,hm,_,hk1,hk2⟩:=kT ho
    have k1:=zj ho
    have k2:=zi ho
    have hk0:((k:Int)==0)=false:=If Y6
    have hds:dn s=(dn (r.drop k)).map ((zs++[z]) ++ ·):=by
     rw[h2,lX ho]
     cases dn (r.drop k)<;>simp
    have hlen:(r.drop k).length=r.length-k:=by simp
    have hsn:zs.map dG++[[V.int .i64 z]]=(zs++[z]).map dG:=by simp[dG]
    (refine xR (a7 hd hk0 @k1 @k2 hk2 @fW hsn) (HE r hr) ?_)
    ((have zF:=a4 @am @fW @N5 @List.length_append.{0};refine c7 ((r.drop k,zs++[z])) [some (b0+240)] ?_ ?_))
    all_goals (first|(show(r.drop k).length<r.length;omega)|exact⟨by simp only[List.length_append,List.length_cons,List.length_nil];omega,hds⟩ )
def NP (s:ZA)(hs:s.length<=16384)(nm:Nat):Ev cx 59 nm [.str s] ah.nil (.bool (dn s).isSome) []:=by
 refine aG call59 func59 results59 ntmps59 ?_;intro b0 hb0 zN
 exact xP trivial (Rg s hs)
def iB (s:ZA)(hs:s.length<=aN)(nm:Nat):Ev cx 26 nm [.str s] ah.nil (.int .i64 (az s)) []:=by
 unfold aN at hs
 by_cases hb:16384<s.length
 ·have hd:decide ((16384:Int)<s.length)=true:=bz
  have he:az s=4:=by unfold az;rw[if_pos hb]
  refine aG call26 func26 results26 ntmps26 ?_;intro b0 hb0 zN
  exact xP (a2 hd he) trivial
 ·have hd:decide ((16384:Int)<s.length)=false:=aL
  cases hq:dn s with
  | none =>
   have he:az s=50:=by unfold az;rw[if_neg hb,hq]
   have hi:(dn s).isSome=false:=by rw[hq];rfl
   have hev:=NP s Y6
   rw[hi]at hev
   refine aG call26 func26 results26 ntmps26 ?_;intro b0 hb0 zN
   exact xP (a2 hd he) hev
  | some zs =>
   have he:az s=0:=by unfold az;rw[if_neg hb,hq]
   have hi:(dn s).isSome=true:=by rw[hq];rfl
   have hev:=NP s Y6
   rw[hi]at hev
   refine aG call26 func26 results26 ntmps26 ?_;intro b0 hb0 zN
   exact xP (a2 hd he) hev
def mq (bs:ZA):plainLL (bs.map av)=true:=cq _ (fun _=>rfl) bs
def yE {s:ZA}{k:Nat}{c:UInt8}(h:s[k]? = some c):iJ 0 (s.take (k+1))=(iJ 0 (s.take k)).bind fun m=>(qX c).map fun d=>10*m+d:=by
 obtain⟨hk,rfl⟩:=AS.1 h
 rw[WF hk,so]
def sn:∀ {s t:ZA} {n:Nat},iJ n s=none->iJ n (s++t)=none
 | [],t,n,h=>by simp[iJ]at h
 | c::s,t,n,h=>by
  simp only[List.cons_append,iJ]at h ⊢
  cases hc:qX c with
  | none=>rfl
  | some d=>rw[hc]at h;exact sn h
def zD (s:ZA):V:=match jA s with
 | some n=>.tup [.int .i64 n,.int .i64 0]
 | none=>.tup [.int .i64 0,.int .i64 60]
def ec {s:ZA}(h:jA s=none):zD s = .tup [.int .i64 0,.int .i64 60]:=by unfold zD;rw[h]
def kZ {s:ZA}{n:Nat}(h:jA s=some n):zD s = .tup [.int .i64 n,.int .i64 0]:=by unfold zD;rw[h]
def F0 (s:ZA)(hs:s.length<=aN)(nm:Nat):Ev cx 205 nm [.str s] ah.nil (zD s) []:=by
  unfold aN at hs
  by_cases hbad:s=[]\/16<s.length\/(s.head? = some 48/\s≠[48])
  · have hn:jA s=none:=by unfold jA;rw[if_pos hbad]
    have hr:=ec hn
    by_cases h0:s=[]
    · subst h0
      have e0:(([]:ZA)==[])=true:=rfl
      refine aG call205 func205 results205 ntmps205 ?_;intro b0 hb0 zN
      exact xP (a2 e0 hr) trivial
    · have e0:(s==[])=false:=If h0
      by_cases h16:16<s.length
      · have e1:decide ((16:Int)<(s.length:Int))=true:=bz
        refine aG call205 func205 results205 ntmps205 ?_;intro b0 hb0 zN
        exact xP (a3 e0 e1 hr) trivial
      · obtain⟨h1,h2⟩:s.head? = some 48/\s≠[48]:=by rcases hbad with h|h|h;exact absurd h h0;exact absurd h h16;exact h
        have e1:decide ((16:Int)<(s.length:Int))=false:=aL
        have e2:s[0]? = some 48:=by rw[<- Xc];exact h1
        have e3:(s==[48])=false:=If h2
        have e4:0<s.length:=Wl.2 h0
        have e6:(((48:UInt8).toNat:Int)==48)=true:=rfl
        refine aG call205 func205 results205 ntmps205 ?_;intro b0 hb0 zN
        exact xP (a7 e0 e1 e2 e3 e4 e6 hr) trivial
  · have h0:s≠[]:=fun h=>hbad (.inl h)
    have h16:¬ 16<s.length:=fun h=>hbad (.inr (.inl h))
    have h48:¬(s.head? = some 48/\s≠[48]):=fun h=>hbad (.inr (.inr h))
    have hdl:jA s=(iJ 0 s).bind fun n=>if n<=9007199254740991 then some n else none:=by unfold jA;rw[if_neg hbad]
    have e0:(s==[])=false:=If h0
    have e1:decide ((16:Int)<(s.length:Int))=false:=aL
    have e4:0<s.length:=Wl.2 h0
    obtain⟨c0,hc0⟩:∃ c,s[0]? = some c:=⟨_,AT e4⟩
    have e2:((c0.toNat:Int)==48)=decide (c0=48):=aW c0 48
    have e3:c0=48->(s==[48])=true:=fun h=>by
      by_cases h5:s=[48]
      · rw[h5];rfl
      · exact absurd ⟨by rw[Xc,hc0,h],h5⟩ h48
    have hround:∀ b:Bool,decide (c0=48)=b->(b=true->(s==[48])=true):=fun b h h2=>e3 (Xl (h.trans h2))
    generalize hb:decide (c0=48)=b at e2
    have e5:=hround b hb
    clear hround
    refine aG call205 func205 results205 ntmps205 ?_;intro b0 hb0 zN
    cases b
    all_goals (
      first|have e6:=e5 rfl|have e6:True:=trivial
      (have zF:=a6 e0 e1 hc0 e2 e4 e6;repeat' first|refine wS ?_|(refine oa (bs:=?_) ?_ ?_ ?_ ?_;rotate_left 1;(iterate 2 (focus (exact wD)));(focus (exact wH))))
      (have zF:=a2 @mq (show iJ 0 []=some 0 from rfl);refine fu (fun x:Nat×Nat=>s.length-x.1) (fun x=>x.1<=s.length/\iJ 0 (s.take x.1)=some x.2) (b0+16) (fun x=>[(2,.int .i64 x.2),(4,.bool false),(25,.sl false 1 (s.map av)),(26,.int .i64 s.length),(27,.int .i64 x.1)]) (fun x=>[]) ((0,0)) [] ?_ ?_)
      · exact⟨WB _,rfl⟩
      · rintro ⟨k,m⟩ ⟨hk,hv⟩
        simp only at hk hv
        have hmb:=(qY _ _ _ hv).2
        have hkl:(s.take k).length=k:=by rw[WK];omega
        rw[hkl]at hmb
        have hp16:(10:Nat) ^ k<=10 ^ 16:=XZ Y6 Y6
        have hm16:m<10000000000000000:=by simp only[We,X2]at hmb;exact Wi hmb hp16
        by_cases hlt:k<s.length
        · obtain⟨c,hc⟩:=js hlt
          have hh:(s.map av)[k]? = some (av c):=by rw[WG,hc];rfl
          have hd:=AI hlt
          have hwk:=eX k
          have hcn:c.toNat<256:=c.toNat_lt
          have hw1:IntKind.i64.wrap (c.toNat:Int)=(c.toNat:Int):=aX
          have hw2:IntKind.i64.wrap ((c.toNat:Int)-48)=(c.toNat:Int)-48:=aX
          have hnx:=yE hc
          rw[hv]at hnx
          simp only[Option.bind_some]at hnx
          cases hdc:qX c with
          | none =>
            have hno:iJ 0 s=none:=by
              rw[hdc]at hnx
              rw[<- List.take_append_drop (k+1) s]
              exact sn hnx
            have hr:=ec (s:=s) (by rw[hdl,hno];rfl)
            have hcs:decide ((c.toNat:Int)-48<0)=true\/(decide ((c.toNat:Int)-48<0)=false/\decide ((9:Int)<(c.toNat:Int)-48)=true):=by
              by_cases h1:(c.toNat:Int)-48<0
              · exact .inl (AI h1)
              · refine .inr ⟨WA h1,AI ?_⟩
                unfold qX at hdc
                split at hdc
                · cases hdc
                · omega
            rcases hcs with h1|⟨h1,h2⟩
            · exact xP (a8 hh hd hlt hw1 hw2 h1 hr @av.eq_1) trivial
            · exact xP (a9 hh hd hlt hw1 hw2 h1 h2 hr @av.eq_1) trivial
          | some d =>
            obtain⟨d9,_,hcd⟩:=kE hdc
            rw[hdc]at hnx
            have h1:decide ((c.toNat:Int)-48<0)=false:=aL
            have h2:decide ((9:Int)<(c.toNat:Int)-48)=false:=aL
            have hw3:IntKind.i64.wrap (10*(m:Int))=10*(m:Int):=aX
            have hw4:IntKind.i64.wrap (10*(m:Int)+((c.toNat:Int)-48))=((10*m+d:Nat):Int):=by rw[aX];omega
            (refine xR (a2 hh (a9 hd hlt hw1 hw2 hw3 hw4 h1 h2 @av.eq_1)) trivial ?_)
            all_goals ((have zF:=a3 @mq hwk hw4;refine c7 ((k+1,10*m+d)) [] ?_ ?_))
            all_goals (first|(show s.length-(k+1)<s.length-k;omega)|exact⟨hlt,hnx⟩ )
        · have hke:k=s.length:=Y6
          subst hke
          rw[WJ]at hv
          have hd:decide (s.length<s.length)=false:=aL
          by_cases hmx:m<=9007199254740991
          · have hr:=kZ (s:=s) (n:=m) (by rw[hdl,hv];simp only[Option.bind_some];rw[if_pos hmx])
            have h1:decide ((9007199254740991:Int)<(m:Int))=false:=aL
            exact xP (a3 hd h1 hr) trivial
          · have hr:=ec (s:=s) (by rw[hdl,hv];simp only[Option.bind_some];rw[if_neg hmx])
            have h1:decide ((9007199254740991:Int)<(m:Int))=true:=bz
            exact xP (a3 hd h1 hr) trivial)
def uj (c:UInt8):Int:=IntKind.u8.wrap ((BitVec.ofInt IntKind.u8.bits (c.toNat:Int) ||| BitVec.ofInt IntKind.u8.bits 32).toNat:Int)
def MZ (c:UInt8)(nm:Nat):Ev cx 230 nm [.int .u8 c.toNat] ah.nil (.int .u8 (uj c)) []:=by
 have h:IntKind.u8.wrap ((BitVec.ofInt IntKind.u8.bits (c.toNat:Int) ||| BitVec.ofInt IntKind.u8.bits 32).toNat:Int)=uj c:=rfl
 refine aG call230 func230 results230 ntmps230 ?_;intro b0 hb0 zN
 exact xP h trivial
def QM {c:UInt8}{d:Nat}(h:lH c=some d):(48<=c.toNat/\c.toNat<=57/\d=c.toNat-48)\/(57<c.toNat/\c.toNat≠95/\97<=uj c/\uj c<=102/\(d:Int)=uj c-87):=by
 have key:∀ n:Fin 256,(97<=n.val/\n.val<=102->uj (UInt8.ofNat n.val)=n.val)/\(65<=n.val/\n.val<=70->uj (UInt8.ofNat n.val)=n.val+32):=ZJ
 have hk:=key ⟨c.toNat,c.toNat_lt⟩
 simp only[UInt8.ofNat_toNat]at hk
 unfold lH at h
 split at h
 ·rename_i h1;cases h;left;omega
 ·split at h
  ·rename_i h1;cases h;right
   have:=hk.1 h1
   omega
  ·split at h
   ·rename_i h1;cases h;right
    have:=hk.2 h1
    omega
   ·cases h
def yR:∀(s:ZA) (n:Nat) (c:UInt8),hU n (s++[c])=(hU n s).bind fun m=>(lH c).map fun d=>16*m+d
 | [],n,c=>by
  simp only[List.nil_append,hU,Option.bind_some]
  cases lH c<;>rfl
 | x::s,n,c=>by
  simp only[List.cons_append,hU]
  cases lH x with
  | none=>rfl
  | some d=>exact yR s _ c
def yS {s:ZA}{k:Nat}{c:UInt8}(h:s[k]? = some c):hU 0 (s.take (k+1))=(hU 0 (s.take k)).bind fun m=>(lH c).map fun d=>16*m+d:=by
 obtain⟨hk,rfl⟩:=AS.1 h
 rw[WF hk,yR]
def AV {c:UInt8}{d:Nat}(h:lH c=some d):d<16:=by
 unfold lH at h
 split at h
 ·cases h;omega
 ·split at h
  ·cases h;omega
  ·split at h
   ·cases h;omega
   ·cases h
def rq:∀(s:ZA) (n m:Nat),hU n s=some m->m<(n+1)*16 ^ s.length
 | [],n,m,h=>by simp only[hU]at h;cases h;simp
 | x::s,n,m,h=>by
  simp only[hU]at h
  cases hx:lH x with
  | none=>rw[hx]at h;cases h
  | some d =>
   rw[hx]at h
   have hd:=AV hx
   refine Wi (rq s _ m h) ?_
   rw[List.length_cons,Nat.pow_succ',<- Nat.mul_assoc]
   exact WX _ Y6
def sF:∀ {s t:ZA} {n:Nat},hU n s=none->hU n (s++t)=none
 | [],t,n,h=>by simp[hU]at h
 | c::s,t,n,h=>by
  simp only[List.cons_append,hU]at h ⊢
  cases hc:lH c with
  | none=>rfl
  | some d=>rw[hc]at h;exact sF h
def z9 (s:ZA):Bool:=s.all fun c=>(lH c).isSome
def C2:∀(s:ZA) (n:Nat),z9 s=(hU n s).isSome
 | [],n=>rfl
 | c::s,n=>by
  simp only[z9,List.all_cons,hU]
  cases hc:lH c with
  | none=>simp
  | some d=>simpa [z9] using C2 s (16*n+d)
def RF (s:ZA)(n:Nat)(hl:s.length<=6)(h0:s≠[])(hv:hU 0 s=some n)(nm:Nat):Ev cx 220 nm [.str s,.int .i64 16,.int .i64 32] ah.nil (.tup [.int .u64 n,.val .nilIface]) []:=by
 have e0:(s==[])=false:=If h0
 have hsh:IntKind.u64.wrap (1*2 ^ min 32 IntKind.u64.bits)=4294967296:=by decide
 have hsh2:IntKind.u64.wrap (4294967296-1)=4294967295:=by decide
 have hsh3:IntKind.u64.wrap 4294967295=4294967295:=by decide
 have hL:s.length<=6:=hl
 have hw32:IntKind.u64.wrap 32=32:=by decide
 have q16:IntKind.u8.wrap 16=16:=by decide
 have q16':IntKind.u64.wrap 16=16:=by decide
 refine aG call220 func220 results220 ntmps220 ?_;intro b0 hb0 zN
 (have zF:=a5 e0 hw32 hsh hsh2 hsh3;repeat' first|refine wS ?_|(refine oa (bs:=?_) ?_ ?_ ?_ ?_;rotate_left 1;(iterate 2 (focus (exact wD)));(focus (exact wH))))
 (have zF:=a2 @mq (show hU 0 []=some 0 from rfl);refine fu (fun x:Nat×Nat=>s.length-x.1) (fun x=>x.1<=s.length/\hU 0 (s.take x.1)=some x.2) (b0+16) (fun x=>[(1,.int .i64 16),(8,.bool false),(9,.str s),(10,.int .u64 1152921504606846976),(11,.int .u64 4294967295),(12,.bool false),(13,.int .u64 x.2),(99,.sl false 1 (s.map av)),(100,.int .i64 s.length),(101,.int .i64 x.1)]) (fun x=>[]) ((0,0)) [] ?_ ?_)
 ·exact⟨WB _,rfl⟩
 ·rintro ⟨k,m⟩ ⟨hk,hm⟩
  simp only at hk hm
  have hmb:=rq _ _ _ hm
  have hkl:(s.take k).length=k:=by rw[WK];omega
  rw[hkl]at hmb
  have hp6:(16:Nat) ^ k<=16 ^ 6:=XZ Y6 Y6
  have hm6:m<16777216:=by simp only[We,X2]at hmb;exact Wi hmb hp6
  by_cases hlt:k<s.length
  ·obtain⟨c,hc⟩:=js hlt
   have hh:(s.map av)[k]? = some (av c):=by rw[WG,hc];rfl
   have hd:=AI hlt
   have hwk:=eX k
   have hcn:c.toNat<256:=c.toNat_lt
   have hnx:=yS hc
   rw[hm]at hnx
   simp only[Option.bind_some]at hnx
   cases hdc:lH c with
   | none =>
    exfalso
    rw[hdc]at hnx
    have:hU 0 s=none:=by rw[<- List.take_append_drop (k+1) s];exact sF hnx
    rw[this]at hv;cases hv
   | some d =>
    rw[hdc]at hnx
    have hdl:=AV hdc
    have hd16:decide ((16:Int)<=(d:Int))=false:=aL
    have hcu:decide ((1152921504606846976:Int)<=(m:Int))=false:=aL
    have hw3:IntKind.u64.wrap ((m:Int)*16)=(m:Int)*16:=IntWalk.u64_in _ Y6
    have hw4:IntKind.u64.wrap (d:Int)=(d:Int):=IntWalk.u64_in _ Y6
    have hw5:IntKind.u64.wrap ((m:Int)*16+(d:Int))=((16*m+d:Nat):Int):=by rw[IntWalk.u64_in _ Y6];omega
    have hc1:decide (((16*m+d:Nat):Int)<(m:Int)*16)=false:=aL
    have hc2:decide ((4294967295:Int)<((16*m+d:Nat):Int))=false:=aL
    rcases QM hdc with ⟨h1,h2,h3⟩|⟨h1,h2,h3,h4,h5⟩
    ·have q95:((c.toNat:Int)==95)=false:=If Y6
     have q48:decide ((48:Int)<=(c.toNat:Int))=true:=bz
     have q57:decide ((c.toNat:Int)<=57)=true:=bz
     have hw1:IntKind.u8.wrap ((c.toNat:Int)-48)=(d:Int):=by rw[IntWalk.u8_in _ Y6];omega
     (refine xR (a9 hh hd hlt hw1 hw3 hw4 hw5 hd16 (a9 hcu hc1 hc2 q95 q48 q57 q16 q16' @av.eq_1)) trivial ?_)
     all_goals ((have zF:=a2 @mq hwk;refine c7 ((k+1,16*m+d)) [] ?_ ?_))
     all_goals (first|(show s.length-(k+1)<s.length-k;omega)|exact⟨hlt,hnx⟩ )
    ·have q95:((c.toNat:Int)==95)=false:=If Y6
     have q48:decide ((48:Int)<=(c.toNat:Int))=true:=bz
     have q57:decide ((c.toNat:Int)<=57)=false:=aL
     have q97:decide ((97:Int)<=uj c)=true:=bz
     have q122:decide (uj c<=(122:Int))=true:=bz
     have hw1:IntKind.u8.wrap (uj c-97)=uj c-97:=IntWalk.u8_in _ Y6
     have hw2:IntKind.u8.wrap (uj c-97+10)=(d:Int):=by rw[IntWalk.u8_in _ Y6];omega
     (refine xR (a4 hh hd hlt (a9 hw1 hw2 hw3 hw4 hw5 hd16 hcu hc1 (a9 hc2 q95 q48 q57 q97 q122 q16 q16' @av.eq_1))) (MZ c) ?_)
     all_goals ((have zF:=a2 @mq hwk;refine c7 ((k+1,16*m+d)) [] ?_ ?_))
     all_goals (first|(show s.length-(k+1)<s.length-k;omega)|exact⟨hlt,hnx⟩ )
  ·have hke:k=s.length:=Y6
   subst hke
   rw[WJ,hv]at hm
   cases hm
   have hd:decide (s.length<s.length)=false:=aL
   exact xP hd trivial
def Ds (v:V)(M:ah)(nm:Nat):Ev cx 168 nm [v] M v [] :=
 Ev.noEscape func168 (by kernel_rfl) (by kernel_rfl) (by kernel_rfl) (by kernel_rfl) v M nm
def aD (n:Nat):b9 n n=True:=X0 ⟨IS _,by omega⟩
def bK (used:Bool)(q:Nat)(c:V):Blk:=if used then ⟨2,[[.ptr q 0 0,c]]⟩ else @Blk.mk 2 [[.nilp,c]] (.typed 141)
def fZ (q:Nat)(c:V):bK true q c=⟨2,[[.ptr q 0 0,c]]⟩:=rfl
def kB (q:Nat)(c:V):bK false q c = @Blk.mk 2 [[.nilp,c]] (.typed 141):=rfl
def yU:(cx.P.info? 141).isSome=true:=Y7
def vf (used:Bool)(q:Nat)(M:ah)(nm:Nat)(hq:M q=some (bK used q .nils))(ho:∀ z,(M z).isSome=true->z∈[q])(hn:q<nm) :
  Ev cx 134 nm [.ptr q 0 0] M (.tup []) [(q,some (bK true q .nils))]:=by
 cases used with
 | false =>
  refine aG call134 func134 results134 ntmps134 ?_;intro b0 hb0 zN
  have lq:=aq hb0 hq
  have z0:=aE lq;have z1:=ak lq;have z2:=ay lq;have z3:=ae lq
  (have zF:=a9 @TypeDesc.pointer.injEq @yU @fZ @kB hq z0 z1 z2 z3;have cF:=Ds (.ptr q 0 0) ah.nil;repeat' first|refine wS ?_|(refine rh (y:=?_) (sz:=?_) (row:=?_) (rows:=?_) (o:=?_) (te:=?_) ?_ ?_ ?_ ?_ ?_ ?_ ?_ ?_;rotate_left 6;(focus (exact wH));(focus (exact wH));(focus (exact rfl));(focus (omega));(focus (exact wH));(focus (exact wH));(focus (kernel_rfl)))|(refine nZ (y:=?_) (sz:=?_) (row:=?_) (rows:=?_) (u:=?_) ?_ ?_ ?_ ?_ ?_ ?_ ?_ ?_;rotate_left 5;(focus (exact wH));(focus (exact wH));(focus (omega));(focus (exact wH));(focus (exact wH));(iterate 2 (focus (kernel_rfl)))))
  all_goals ((have zF:=a9 @TypeDesc.pointer.injEq @yU @fZ @kB hq z0 z1 z2 z3;refine jW [(q,none)] [] ho))
 | true =>
  refine aG call134 func134 results134 ntmps134 ?_;intro b0 hb0 zN
  have lq:=aq hb0 hq
  have z0:=aE lq;have z1:=ak lq;have z2:=ay lq;have z3:=ae lq
  (refine xR (a9 @TypeDesc.pointer.injEq @yU @fZ @kB hq z0 z1 z2 z3) trivial ?_)
  all_goals ((have zF:=a9 @TypeDesc.pointer.injEq @yU @fZ @kB hq z0 z1 z2 z3;refine jW [(q,none)] [] ho))
def fg (σ:Y8)(bs:ZA)(t:TypeId):Blk.ren σ (@Blk.mk 1 (bs.map av) (.typed t)) = @Blk.mk 1 (bs.map av) (.typed t):=by
 have h:plainLL (bs.map av)=true:=cq _ (fun _=>rfl) bs
 simp only[Blk.ren,j8,h,WQ]
def dx (σ:Y8)(bs:ZA)(t:TypeId):Blk.renOk σ (@Blk.mk 1 (bs.map av) (.typed t))=true:=by
 have h:plainLL (bs.map av)=true:=cq _ (fun _=>rfl) bs
 simp only[Blk.renOk,gA,h,W8,Wq]
 rfl
def N4 (σ:Y8)(c:UInt8)(bs:ZA)(t:TypeId):Blk.ren σ (@Blk.mk 1 (av c::bs.map av) (.typed t)) = @Blk.mk 1 (av c::bs.map av) (.typed t):=fg σ (c::bs) t
def Gs (σ:Y8)(c:UInt8)(bs:ZA)(t:TypeId):Blk.renOk σ (@Blk.mk 1 (av c::bs.map av) (.typed t))=true:=dx σ (c::bs) t
def N7 (σ:Y8)(c:UInt8)(bs:ZA)(t:TypeId):Blk.ren σ (@Blk.mk 1 (bs.map av++[[.int .u8 c.toNat]]) (.typed t)) = @Blk.mk 1 (bs.map av++[[.int .u8 c.toNat]]) (.typed t):=by
 have:=fg σ (bs++[c]) t
 rwa[WM]at this
def Gt (σ:Y8)(c:UInt8)(bs:ZA)(t:TypeId):Blk.renOk σ (@Blk.mk 1 (bs.map av++[[.int .u8 c.toNat]]) (.typed t))=true:=by
 have:=dx σ (bs++[c]) t
 rwa[WM]at this
def gU (σ:Y8)(s:Nat)(rows:List (List V))(t:TypeId):Blk.ren σ (@Blk.mk s rows (.typed t)) = @Blk.mk s (j8 σ rows) (.typed t):=rfl
def eC (σ:Y8)(s:Nat)(rows:List (List V))(t:TypeId):Blk.renOk σ (@Blk.mk s rows (.typed t))=gA σ rows:=by
 simp only[Blk.renOk,Ob.renOk,Wz]
def oC (bs:ZA):plainLL (bs.map av)=true:=cq _ (fun _=>rfl) bs
def R5 (c:UInt8):(av c).all V.one=true:=rfl
def F2 (bs:ZA):((bs.map av).all fun r=>r.all V.one)=true:=by
 rw[WI]
 intro r hr
 obtain⟨c,_,rfl⟩:=Wn.1 hr
 rfl
def rK (bs:ZA):Blk:=@Blk.mk 1 (bs.map av) (.typed 5)
def vg (used:Bool)(q y n:Nat)(bs:ZA)(M:ah)(nm:Nat)(hqy:q≠y)(hq:M q=some (bK used q (.own y 0 n)))(hy:M y=some (rK bs))(ho:∀ z,(M z).isSome=true->z∈[q,y])(hn:q<nm)(hny:y<nm) :
  Ev cx 134 nm [.ptr q 0 0] M (.tup []) [(q,some (bK true q (.own y 0 n))),(y,some (rK bs))]:=by
 have yz:(y=q)=False:=IT (fun h=>hqy h.symm)
 have zy:(q=y)=False:=IT hqy
 cases used with
 | false =>
  refine aG call134 func134 results134 ntmps134 ?_;intro b0 hb0 zN
  have lq:=aq hb0 hq
  have ly:=aq hb0 hy
  have y0:=aE ly;have y1:=ak ly;have y2:=ay ly;have y3:=ae ly
  have z0:=aE lq;have z1:=ak lq;have z2:=ay lq;have z3:=ae lq
  (have zF:=a8 @TypeDesc.pointer.injEq @yU @fZ @kB hq hy y0 (a9 y1 y2 y3 yz zy z0 z1 z2 z3);have cF:=Ds (.ptr q 0 0) ah.nil;repeat' first|refine wS ?_|(refine rh (y:=?_) (sz:=?_) (row:=?_) (rows:=?_) (o:=?_) (te:=?_) ?_ ?_ ?_ ?_ ?_ ?_ ?_ ?_;rotate_left 6;(focus (exact wH));(focus (exact wH));(focus (exact rfl));(focus (omega));(focus (exact wH));(focus (exact wH));(focus (kernel_rfl)))|(refine nZ (y:=?_) (sz:=?_) (row:=?_) (rows:=?_) (u:=?_) ?_ ?_ ?_ ?_ ?_ ?_ ?_ ?_;rotate_left 5;(focus (exact wH));(focus (exact wH));(focus (omega));(focus (exact wH));(focus (exact wH));(iterate 2 (focus (kernel_rfl)))))
  all_goals ((have zF:=a2 @TypeDesc.pointer.injEq (a9 @rK.eq_1 @fg @dx @fZ @kB hq hy y0 (a9 y1 y2 y3 yz zy z0 z1 z2 z3));refine jW [(q,none),(y,none)] [] ho))
 | true =>
  refine aG call134 func134 results134 ntmps134 ?_;intro b0 hb0 zN
  have lq:=aq hb0 hq
  have ly:=aq hb0 hy
  have y0:=aE ly;have y1:=ak ly;have y2:=ay ly;have y3:=ae ly
  have z0:=aE lq;have z1:=ak lq;have z2:=ay lq;have z3:=ae lq
  (refine xR (a8 @TypeDesc.pointer.injEq @yU @fZ @kB hq hy y0 (a9 y1 y2 y3 yz zy z0 z1 z2 z3)) trivial ?_)
  all_goals ((have zF:=a2 @TypeDesc.pointer.injEq (a9 @rK.eq_1 @fg @dx @fZ @kB hq hy y0 (a9 y1 y2 y3 yz zy z0 z1 z2 z3));refine jW [(q,none),(y,none)] [] ho))
def Ed (used:Bool)(q:Nat)(s:ZA)(hs:s≠[])(hl:s.length<=aN)(M:ah)(nm:Nat)(hq:M q=some (bK used q .nils))(ho:∀ z,(M z).isSome=true->z∈[q])(hn:q<nm) :
  Ev cx 80 nm [.ptr q 0 0,.str s] M (.tup [.int .i64 s.length,.val .nilIface]) [(q,some (bK true q (.own nm 0 s.length))),(nm,some (rK s))]:=by
 unfold aN at hl
 refine aG call80 func80 results80 ntmps80 ?_;intro b0 hb0 zN
 have lq:=aq hb0 hq
 have z0:=aE lq;have z1:=ak lq;have z2:=ay lq;have z3:=ae lq
 obtain⟨c,s,rfl⟩:=Xr hs
 repeat' first|simp only[fZ,au,seval]
 refine ab ?_ [q] (vf used q _ _ ?_ ac Y6) ?_ ?_
 ·simp only[au,seval]
 ·simp only[nd,Lk,Ln,hq,au]
 ·simp only[Lk,Ln,forall_eq,hq,au,seval]
 simp only[List.length_cons]at hl
 (refine xR (a9 @TypeDesc.pointer.injEq @fZ hq z0 z1 z2 z3 @R5 @F2) trivial ?_)
 all_goals ((have zF:=a5 @TypeDesc.pointer.injEq @rK.eq_1 @N4 @Gs (a9 @fg @dx @fZ hq z0 z1 z2 z3 @aD);refine jW [(q,none),(b0+160,some 0)] [] ho))
def Ee (used:Bool)(q y:Nat)(bs s:ZA)(hl:bs.length+s.length<=aN)(M:ah)(nm:Nat)(hqy:q≠y)(hq:M q=some (bK used q (.own y 0 bs.length)))(hy:M y=some (rK bs))(ho:∀ z,(M z).isSome=true->z∈[q,y])(hn:q<nm)(hny:y<nm) :
  Ev cx 80 nm [.ptr q 0 0,.str s] M (.tup [.int .i64 s.length,.val .nilIface]) [(y,none),(q,some (bK true q (.own nm 0 (bs.length+s.length)))),(nm,some (rK (bs++s)))]:=by
 unfold aN at hl
 have yz:(y=q)=False:=IT (fun h=>hqy h.symm)
 have zy:(q=y)=False:=IT hqy
 refine aG call80 func80 results80 ntmps80 ?_;intro b0 hb0 zN
 have lq:=aq hb0 hq
 have ly:=aq hb0 hy
 have y0:=aE ly;have y1:=ak ly;have y2:=ay ly;have y3:=ae ly
 have z0:=aE lq;have z1:=ak lq;have z2:=ay lq;have z3:=ae lq
 (refine xR (a7 @TypeDesc.pointer.injEq @fZ hq z0 z1 z2 z3) trivial ?_)
 refine ab ?_ [q,y] (vg used q y bs.length bs _ _ hqy ?_ ?_ ac Y6 Y6) ?_ ?_
 ·simp only[au,seval]
 ·simp only[nd,Lk,Ln,hq,zy,au]
 ·simp only[nd,Lk,Ln,Yp,hy,yz,au]
 ·simp only[Lk,Ln,forall_eq,XP,true_or,Yp,hq,hy,yz,zy,au,seval]
 repeat' first|simp only[results80,ntmps80,aF,rK,fZ,hq,hy,yz,zy,z1,F2,Lm,IN,WM.symm,au,aH,seval] | refine Ai Y6 ?_
 all_goals ((have zF:=a2 @TypeDesc.pointer.injEq (a9 @rK.eq_1 @fg @dx @fZ hq hy yz zy (a9 y0 y1 y2 y3 z0 z1 z2 z3 @aD));refine jW [(q,none),(b0+160,some 0)] [y] ho))
def z7 (used:Bool)(q y:Nat)(bs:ZA)(c:UInt8)(hl:bs.length+1<=aN)(M:ah)(nm:Nat)(hqy:q≠y)(hq:M q=some (bK used q (.own y 0 bs.length)))(hy:M y=some (rK bs))(ho:∀ z,(M z).isSome=true->z∈[q,y])(hn:q<nm)(hny:y<nm) :
  Ev cx 136 nm [.ptr q 0 0,.int .u8 c.toNat] M (.val .nilIface) [(y,none),(q,some (bK true q (.own nm 0 (bs.length+1)))),(nm,some (rK (bs++[c])))]:=by
 unfold aN at hl
 have yz:(y=q)=False:=IT (fun h=>hqy h.symm)
 have zy:(q=y)=False:=IT hqy
 refine aG call136 func136 results136 ntmps136 ?_;intro b0 hb0 zN
 have lq:=aq hb0 hq
 have ly:=aq hb0 hy
 have y0:=aE ly;have y1:=ak ly;have y2:=ay ly;have y3:=ae ly
 have z0:=aE lq;have z1:=ak lq;have z2:=ay lq;have z3:=ae lq
 (refine xR (a7 @TypeDesc.pointer.injEq @fZ hq z0 z1 z2 z3) trivial ?_)
 refine ab ?_ [q,y] (vg used q y bs.length bs _ _ hqy ?_ ?_ ac Y6 Y6) ?_ ?_
 ·simp only[au,seval]
 ·simp only[nd,Lk,Ln,hq,zy,au]
 ·simp only[nd,Lk,Ln,Yp,hy,yz,au]
 ·simp only[Lk,Ln,forall_eq,XP,true_or,Yp,hq,hy,yz,zy,au,seval]
 (refine xR (a2 @TypeDesc.pointer.injEq (a9 @rK.eq_1 @fZ hq hy yz zy y0 y1 (a9 y2 y3 z0 z1 z2 z3 @R5 @F2 @List.take_of_length_le.{0}))) trivial ?_)
 all_goals ((have zF:=a6 @TypeDesc.pointer.injEq @rK.eq_1 @N7 @Gt @av.eq_1 (a9 (@List.map_append.{0,0}) @fg @dx @fZ hq hy yz zy (a9 y0 y1 y2 y3 z0 z1 z2 z3 @aD));refine jW [(q,none),(b0+160,some 0)] [y] ho))
def LJ (used:Bool)(q y:Nat)(bs:ZA)(M:ah)(nm:Nat)(hqy:q≠y)(hq:M q=some (bK used q (.own y 0 bs.length)))(hy:M y=some (rK bs))(ho:∀ z,(M z).isSome=true->z∈[q,y])(hn:q<nm)(hny:y<nm) :
  Ev cx 82 nm [.ptr q 0 0] M (.int .i64 bs.length) [(q,some (bK used q (.own y 0 bs.length))),(y,some (rK bs))]:=by
 have yz:(y=q)=False:=IT (fun h=>hqy h.symm)
 have zy:(q=y)=False:=IT hqy
 refine aG call82 func82 results82 ntmps82 ?_;intro b0 hb0 zN
 have lq:=aq hb0 hq
 have ly:=aq hb0 hy
 have y0:=aE ly;have y1:=ak ly;have y2:=ay ly;have y3:=ae ly
 have z0:=aE lq;have z1:=ak lq;have z2:=ay lq;have z3:=ae lq
 cases used<;>((refine xR (a7 @TypeDesc.pointer.injEq @fZ @kB hq hy yz (a9 zy y0 y1 y2 y3 z0 z1 z2 z3)) trivial ?_))
 all_goals ((have zF:=a4 @TypeDesc.pointer.injEq @rK.eq_1 @gU (a9 @eC @oC @fZ @kB hq hy yz zy (a9 y0 y1 y2 y3 z0 z1 z2 z3 @aD));refine jW [(q,none),(y,none)] [] ho))
def B6 (used:Bool)(q y:Nat)(bs:ZA)(hb:bs≠[])(hl:bs.length<=aN)(M:ah)(nm:Nat)(hqy:q≠y)(hq:M q=some (bK used q (.own y 0 bs.length)))(hy:M y=some (rK bs))(ho:∀ z,(M z).isSome=true->z∈[q,y])(hn:q<nm)(hny:y<nm) :
  Ev cx 83 nm [.ptr q 0 0] M (.str bs) [(q,none),(y,none)]:=by
 unfold aN at hl
 have hp:0<bs.length:=Wl.2 hb
 have yz:(y=q)=False:=IT (fun h=>hqy h.symm)
 have zy:(q=y)=False:=IT hqy
 refine aG call83 func83 results83 ntmps83 ?_;intro b0 hb0 zN
 have lq:=aq hb0 hq
 have ly:=aq hb0 hy
 have y0:=aE ly;have y1:=ak ly;have y2:=ay ly;have y3:=ae ly
 have z0:=aE lq;have z1:=ak lq;have z2:=ay lq;have z3:=ae lq
 cases used<;>((have zF:=a9 @TypeDesc.pointer.injEq @rK.eq_1 @fZ @kB hq hy yz zy (a9 y0 y1 y2 y3 z0 z1 z2 z3 hb);repeat' first|refine wS ?_|(refine xV (y:=?_) (n:=?_) rfl ?_ ?_ ?_;rotate_left 2;(focus (exact wH));(focus (first|omega)))|(refine sr (y:=?_) (bs:=?_) (u:=?_) rfl ?_ ?_ ?_ ?_ ?_ ?_ ?_ ?_;rotate_left 3;(focus (exact wH));(focus (exact wH));(focus (exact wH));(focus (first|assumption));(focus (first|omega));(focus (exact wH));(focus (kernel_rfl))) | refine gR [(4,8)] ?_))
 all_goals ((have zF:=a9 @TypeDesc.pointer.injEq @rK.eq_1 @fZ @kB hq hy yz zy (a9 y0 y1 y2 y3 z0 z1 z2 z3 @aD);refine jW [] [q,y] ho))
def K5 (used:Bool)(q:Nat)(c:UInt8)(M:ah)(nm:Nat)(hq:M q=some (bK used q .nils))(ho:∀ z,(M z).isSome=true->z∈[q])(hn:q<nm) :
  Ev cx 136 nm [.ptr q 0 0,.int .u8 c.toNat] M (.val .nilIface) [(q,some (bK true q (.own nm 0 1))),(nm,some (rK [c]))]:=by
 refine aG call136 func136 results136 ntmps136 ?_;intro b0 hb0 zN
 have lq:=aq hb0 hq
 have z0:=aE lq;have z1:=ak lq;have z2:=ay lq;have z3:=ae lq
 (refine xR (a7 @TypeDesc.pointer.injEq @fZ hq z0 z1 z2 z3) trivial ?_)
 refine ab ?_ [q] (vf used q _ _ ?_ ac Y6) ?_ ?_
 ·simp only[au,seval]
 ·simp only[nd,Lk,Ln,hq,au]
 ·simp only[Lk,Ln,forall_eq,hq,au,seval]
 (refine xR (a7 @TypeDesc.pointer.injEq @fZ hq z0 z1 z2 z3) trivial ?_)
 all_goals ((have zF:=a5 @TypeDesc.pointer.injEq @rK.eq_1 @gU @eC (a9 @av.eq_1 (@List.map_append.{0,0}) @fZ hq z0 z1 z2 z3 @aD);refine jW [(q,none),(b0+160,some 0)] [] ho))
def LI (used:Bool)(q:Nat)(M:ah)(nm:Nat)(hq:M q=some (bK used q .nils))(ho:∀ z,(M z).isSome=true->z∈[q])(hn:q<nm) :
  Ev cx 82 nm [.ptr q 0 0] M (.int .i64 0) [(q,some (bK used q .nils))]:=by
 refine aG call82 func82 results82 ntmps82 ?_;intro b0 hb0 zN
 have lq:=aq hb0 hq
 have z0:=aE lq;have z1:=ak lq;have z2:=ay lq;have z3:=ae lq
 cases used<;>((refine xR (a8 @TypeDesc.pointer.injEq @fZ @kB hq z0 z1 z2 z3) trivial ?_))
 all_goals ((have zF:=a3 @TypeDesc.pointer.injEq @gU (a9 @eC @fZ @kB hq z0 z1 z2 z3 @aD);refine jW [(q,none)] [] ho))
def LK (used:Bool)(q:Nat)(M:ah)(nm:Nat)(hq:M q=some (bK used q .nils))(ho:∀ z,(M z).isSome=true->z∈[q])(hn:q<nm) :
  Ev cx 83 nm [.ptr q 0 0] M (.str []) [(q,none)]:=by
 refine aG call83 func83 results83 ntmps83 ?_;intro b0 hb0 zN
 have lq:=aq hb0 hq
 have z0:=aE lq;have z1:=ak lq;have z2:=ay lq;have z3:=ae lq
 cases used<;>((have zF:=a8 @TypeDesc.pointer.injEq @fZ @kB hq z0 z1 z2 z3;repeat' first|refine wS ?_|(refine rf rfl ?_ ?_;(focus (exact wH)))|(refine oc rfl ?_ ?_ ?_;(focus (exact wH));(focus (exact wH))) | refine gR [(4,8)] ?_))
 all_goals ((have zF:=a9 @TypeDesc.pointer.injEq @fZ @kB hq z0 z1 z2 z3 @aD;refine jW [] [q] ho))
def bS (u:Bool)(q y:Nat)(bs:ZA):Blk:=if bs=[] then bK u q .nils else bK true q (.own y 0 bs.length)
def u6 (u:Bool)(q y:Nat):bS u q y []=bK u q .nils:=by unfold bS;rw[if_pos rfl]
def u5 (u:Bool)(q y:Nat){bs:ZA}(h:bs≠[]):bS u q y bs=bK true q (.own y 0 bs.length):=by unfold bS;rw[if_neg h]
def EJ (q y:Nat):bS false q y [] = @Blk.mk 2 [[.nilp,.nils]] (.typed 141):=by rw[u6];rfl
def nk (σ:Y8)(u:Bool)(q y:Nat)(bs:ZA):Blk.ren σ (bS u q y bs)=bS u ((aO σ q).getD q) ((aO σ y).getD y) bs:=by
 unfold bS
 by_cases h:bs=[]
 ·rw[if_pos h,if_pos h]
  cases u<;>simp[bK,Blk.ren,j8,renL,V.ren,plainLL,plainL,V.plain,Ob.ren,instCells]
 ·rw[if_neg h,if_neg h]
  simp[bK,Blk.ren,j8,renL,V.ren,plainLL,plainL,V.plain,Ob.ren,instCells]
def iU (σ:Y8)(u:Bool)(q y:Nat)(bs:ZA)(h1:(aO σ q).isSome=true)(h2:(aO σ y).isSome=true):Blk.renOk σ (bS u q y bs)=true:=by
 unfold bS
 by_cases h:bs=[]
 ·rw[if_pos h]
  cases u<;>simp[bK,Blk.renOk,gA,renOkL,V.renOk,h1,Ob.renOk,instCells]
 ·rw[if_neg h]
  simp[bK,Blk.renOk,gA,renOkL,V.renOk,h1,h2,Ob.renOk,instCells]
def Gc (bs:ZA):(rK bs).ob.isRow=true:=rfl
def Gb:(rK []).rows=[]:=rfl
def ib (σ:Y8)(bs:ZA):Blk.ren σ (rK bs)=rK bs:=fg σ bs _
def ed (σ:Y8)(bs:ZA):Blk.renOk σ (rK bs)=true:=dx σ bs _
def pd {M:ah}{q y nm:Nat}(ho:∀ z,(M z).isSome=true->z∈[q,y])(hn:q<nm)(hny:y<nm):∀ x,b9 nm x->M x=none:=fun x hx=>by
 cases hm:M x with
 | none=>rfl
 | some k =>
  have:=ho x (by rw[hm];rfl)
  simp only[Lk,Ln,XU]at this
  have:=hx.1
  omega
def FV {l:ZB} : ∀ z,((ah.nil:ah) z).isSome=true->z∈l:=fun z h=>by cases h
def HA {M:ah}{q:Nat}{k:Blk}(h:M q=some k):(M.only [q]) q=some k:=Bc.2 ⟨h,by simp⟩
section
variable (u:Bool) (q y:Nat) (bs:ZA) (M:ah) (nm:Nat)
def pz (s:ZA)(hs:s≠[])(hl:bs.length+s.length<=aN)(hqy:q≠y)(hq:M q=some (bS u q y bs))(hy:M y=some (rK bs))(ho:∀ z,(M z).isSome=true->z∈[q,y])(hn:q<nm)(hny:y<nm) :
  Ev cx 80 nm [.ptr q 0 0,.str s] M (.tup [.int .i64 s.length,.val .nilIface]) [(y,none),(q,some (bS false q nm (bs++s))),(nm,some (rK (bs++s)))]:=by
 rw[u5 false q nm (bs:=bs++s) (by simp[hs]),List.length_append]
 by_cases hb:bs=[]
 ·subst hb
  rw[u6]at hq
  simp only[List.nil_append,List.length_nil,We]at hl ⊢
  refine Ev.dropM y (Ev.frame [q] (Ed u q s hs hl _ nm (HA hq) ac hn) (fun x hx=>?_) (pd ho hn hny))
  simp only[al,Lc,Lo,Lk,Ln,XU]at hx
  rcases hx with rfl|rfl
  ·left;simp
  ·right;exact⟨IS _,by omega⟩
 ·rw[u5 u q y hb]at hq
  exact Ee true q y bs s hl M nm hqy hq hy ho hn hny
def r7 (c:UInt8)(hl:bs.length+1<=aN)(hqy:q≠y)(hq:M q=some (bS u q y bs))(hy:M y=some (rK bs))(ho:∀ z,(M z).isSome=true->z∈[q,y])(hn:q<nm)(hny:y<nm) :
  Ev cx 136 nm [.ptr q 0 0,.int .u8 c.toNat] M (.val .nilIface) [(y,none),(q,some (bS false q nm (bs++[c]))),(nm,some (rK (bs++[c])))]:=by
 rw[u5 false q nm (bs:=bs++[c]) ZH,List.length_append,List.length_singleton]
 by_cases hb:bs=[]
 ·subst hb
  rw[u6]at hq
  simp only[List.nil_append,List.length_nil,We]at hl ⊢
  refine Ev.dropM y (Ev.frame [q] (K5 u q c _ nm (HA hq) ac hn) (fun x hx=>?_) (pd ho hn hny))
  simp only[al,Lc,Lo,Lk,Ln,XU]at hx
  rcases hx with rfl|rfl
  ·left;simp
  ·right;exact⟨IS _,by omega⟩
 ·rw[u5 u q y hb]at hq
  exact z7 true q y bs c hl M nm hqy hq hy ho hn hny
def Ls {M:ah}{q y:Nat}{a b:Blk}(hq:M q=some a)(hy:M y=some b):M.app [(q,some a)]=M.app [(q,some a),(y,some b)]:=by
 funext x
 simp only[ah.app,ah.put]
 by_cases e:x=y
 ·subst e
  by_cases e2:x=q
  ·subst e2;rw[hq]at hy;cases hy;simp
  ·simp[e2,hy]
 ·simp[e]
def uo (hqy:q≠y)(hq:M q=some (bS u q y bs))(hy:M y=some (rK bs))(ho:∀ z,(M z).isSome=true->z∈[q,y])(hn:q<nm)(hny:y<nm) :
  Ev cx 82 nm [.ptr q 0 0] M (.int .i64 bs.length) [(q,some (bS u q y bs)),(y,some (rK bs))]:=by
 by_cases hb:bs=[]
 ·subst hb
  refine Ev.eff_eq ?_ (Ls hq hy)
  rw[u6]at hq ⊢
  refine Ev.frame [q] (LI u q _ nm (HA hq) ac hn) (fun x hx=>?_) (pd ho hn hny)
  simp only[al,Lc,Lo,Lk,Ln,XU]at hx
  subst hx;left;simp
 ·rw[u5 u q y hb]at hq ⊢
  exact LJ true q y bs M nm hqy hq hy ho hn hny
def qP (hl:bs.length<=aN)(hqy:q≠y)(hq:M q=some (bS u q y bs))(hy:M y=some (rK bs))(ho:∀ z,(M z).isSome=true->z∈[q,y])(hn:q<nm)(hny:y<nm) :
  Ev cx 83 nm [.ptr q 0 0] M (.str bs) [(q,none),(y,none)]:=by
 by_cases hb:bs=[]
 ·subst hb
  rw[u6]at hq
  have h1:Ev cx 83 nm [.ptr q 0 0] M (.str []) [(q,none)]:=by
   refine Ev.frame [q] (LK u q _ nm (HA hq) ac hn) (fun x hx=>?_) (pd ho hn hny)
   simp only[al,Lc,Lo,Lk,Ln,XU]at hx
   subst hx;left;simp
  refine Ev.eff_eq (Ev.dropM y h1) ?_
  funext x
  simp only[ah.app,ah.put]
  by_cases e:x=y<;>by_cases e2:x=q<;>simp[e,e2]
 ·rw[u5 u q y hb]at hq
  exact B6 true q y bs hb hl M nm hqy hq hy ho hn hny
end
def tp (q:Bool):List (V×V):=[(.int .u8 38,.agg [.str [38,97,109,112,59]]),(.int .u8 60,.agg [.str [38,108,116,59]]),(.int .u8 62,.agg [.str [38,103,116,59]]),(.int .u8 13,.agg [.str [38,35,49,51,59]])] ++
 (if q=true then [(.int .u8 34,.agg [.str [38,113,117,111,116,59]]),(.int .u8 9,.agg [.str [38,35,57,59]]),(.int .u8 10,.agg [.str [38,35,49,48,59]])] else [])
def qJ:yd cx.P 242=some (5,227):=Y7
def OZ:zeroOf cx.P 227=some (.agg #[.string ⟨#[]⟩]):=Y7
def xz:tp false=[(.int .u8 38,.agg [.str [38,97,109,112,59]]),(.int .u8 60,.agg [.str [38,108,116,59]]),(.int .u8 62,.agg [.str [38,103,116,59]]),(.int .u8 13,.agg [.str [38,35,49,51,59]])]:=rfl
def GT:tp true=[(.int .u8 38,.agg [.str [38,97,109,112,59]]),(.int .u8 60,.agg [.str [38,108,116,59]]),(.int .u8 62,.agg [.str [38,103,116,59]]),(.int .u8 13,.agg [.str [38,35,49,51,59]]),(.int .u8 34,.agg [.str [38,113,117,111,116,59]]),(.int .u8 9,.agg [.str [38,35,57,59]]),(.int .u8 10,.agg [.str [38,35,49,48,59]])]:=rfl
def O0 (q:Bool)(nm:Nat):Ev cx 195 nm [.bool q] ah.nil (.mp nm) [(nm,some (fE (tp q)))]:=by
 cases q with
 | false =>
  refine aG call195 func195 results195 ntmps195 ?_;intro b0 hb0 zN
  (have zF:=a2 @qJ @xz;repeat' first|refine wS ?_|refine jD ?_|(refine kJ (y:=?_) (kv:=?_) (xv:=?_) (kvs:=?_) ?_ ?_ ?_ ?_ qJ ?_ ?_ ?_ ?_ ?_;rotate_left 4;(focus (exact wH));(focus (exact wH));(focus (exact wH));(focus (exact wH));(focus (kernel_rfl));(iterate 3 (focus (exact rfl)))))
  all_goals ((have zF:=a4 @xz @GT @b8 @bg;refine jW [(b0+16,some 0)] [] (FV (l:=[]))))
 | true =>
  refine aG call195 func195 results195 ntmps195 ?_;intro b0 hb0 zN
  (have zF:=a2 @qJ @xz;repeat' first|refine wS ?_|refine jD ?_|(refine kJ (y:=?_) (kv:=?_) (xv:=?_) (kvs:=?_) ?_ ?_ ?_ ?_ qJ ?_ ?_ ?_ ?_ ?_;rotate_left 4;(focus (exact wH));(focus (exact wH));(focus (exact wH));(focus (exact wH));(focus (kernel_rfl));(iterate 3 (focus (exact rfl))))|(refine xU (y:=?_) (kv:=?_) (xv:=?_) (kvs:=?_) ?_ ?_ ?_ ?_ qJ ?_ ?_ ?_ ?_ ?_;rotate_left 4;(focus (exact wH));(focus (exact wH));(focus (exact wH));(focus (exact wH));(focus (kernel_rfl));(iterate 3 (focus (exact rfl)))))
  all_goals ((have zF:=a4 @xz @GT @b8 @bg;refine jW [(b0+16,some 0)] [] (FV (l:=[]))))
def kg {c d:UInt8}(h:¬ c=d):((c.toNat:Int)==(d.toNat:Int))=false:=by
 rw[Wb]
 intro e
 exact h (YX.1 Y6)
def Fi (q:Bool)(c:UInt8):(dX (.int .u8 c.toNat) (tp q)=some none/\nW q c=[c])\/dX (.int .u8 c.toNat) (tp q)=some (some (.agg [.str (nW q c)])):=by
 by_cases h1:c=38
 ·subst h1;right;cases q<;>rfl
 by_cases h2:c=60
 ·subst h2;right;cases q<;>rfl
 by_cases h3:c=62
 ·subst h3;right;cases q<;>rfl
 by_cases h4:c=13
 ·subst h4;right;cases q<;>rfl
 have e1:((c.toNat:Int)==38)=false:=kg (d:=38) h1
 have e2:((c.toNat:Int)==60)=false:=kg (d:=60) h2
 have e3:((c.toNat:Int)==62)=false:=kg (d:=62) h3
 have e4:((c.toNat:Int)==13)=false:=kg (d:=13) h4
 cases q with
 | false =>
  left
  simp only[xz,dX,lD,WQ,e1,e2,e3,e4,nW,h1,h2,h3,h4,WS,WH,XJ]
 | true =>
  by_cases h5:c=34
  ·subst h5;right;rfl
  by_cases h6:c=9
  ·subst h6;right;rfl
  by_cases h7:c=10
  ·subst h7;right;rfl
  have e5:((c.toNat:Int)==34)=false:=kg (d:=34) h5
  have e6:((c.toNat:Int)==9)=false:=kg (d:=9) h6
  have e7:((c.toNat:Int)==10)=false:=kg (d:=10) h7
  left
  simp only[GT,dX,lD,WQ,e1,e2,e3,e4,e5,e6,e7,nW,h1,h2,h3,h4,h5,h6,h7,WS,XJ]
def wz (q:Bool)(s:ZA):Int:=if az s≠0 then az s else if 16384<(bZ q s).length then 4 else 0
def Bi (q:Bool)(s:ZA):ZA:=if wz q s=0 then bZ q s else []
def PZ (s:ZA)(q:Bool)(hs:s.length<=aN)(nm:Nat):Ev cx 169 nm [.str s,.bool q] ah.nil (.tup [.str (Bi q s),.int .i64 (wz q s)]) []:=by
 by_cases hz:az s=0
 ·have hb:(az s != 0)=false:=by rw[hz];rfl
  have hlen:=qB hz
  have hw:=bP q s
  refine aG call169 func169 results169 ntmps169 ?_;intro b0 hb0 zN
  (have zF:=hb;have cF:=dD s hs;repeat' first|refine wS ?_ | refine ag wH (O0 q _) cX ?_|(refine oa (bs:=?_) ?_ ?_ ?_ ?_;rotate_left 1;(iterate 2 (focus (exact wD)));(focus (exact wH))))
  (have zF:=a3 @EJ @vx (a9 @Gb @Gc @b8 @bg @gU @eC @ib @ed @oC);refine fu (fun x:Nat=>s.length-x) (fun x=>x<=s.length) (b0+16) (fun x=>[(7,.mp b0),(8,.ptr (b0+1) 0 0),(21,.sl false 1 (s.map av)),(22,.int .i64 s.length),(23,.int .i64 x)]) (fun x=>[(b0,fE (tp q)),(b0+1,bS false (b0+1) (b0+2) (bZ q (s.take x))),(b0+2,rK (bZ q (s.take x)))]) (0) [some (b0+128),some (b0+160),none] ?_ ?_)
  ·exact WB _
  ·intro k hk
   by_cases hlt:k<s.length
   ·obtain⟨c,hc⟩:=js hlt
    have hh:(s.map av)[k]? = some (av c):=by rw[WG,hc];rfl
    have hd:=AI hlt
    have hwk:=eX k
    have hnx:=yM q hc
    have hw1:=bP q (s.take k)
    have hw2:=ln q c
    have hw3:(s.take k).length=k:=by rw[WK];omega
    have hll:(bZ q (s.take k)).length+(nW q c).length<=aN:=by unfold aN;omega
    rcases Fi q c with ⟨hf,hb1⟩|hf
    ·rw[hb1]at hnx hll
     repeat' first|simp only[aK,aF,hh,hlt,aD,Lm,l7,av,List.getElem?_cons_zero,Option.getD_none,Option.isSome_none,au,aH,seval]|refine ab ?_ [b0+1,b0+2] (r7 false (b0+1) (b0+2) (bZ q (s.take k)) _ _ c hll Y6 ?_ ?_ ac Y6 Y6) ?_ ?_|(refine kK (y:=?_) (kv:=?_) (kvs:=?_) (q:=?_) ?_ ?_ ?_ qJ ?_ ?_ OZ ?_ ?_ ?_;rotate_left 4;(iterate 3 (focus (simp only[aF,au,seval]<;>exact rfl)));(focus (kernel_rfl));(focus (exact rfl));(focus (simp only[hf,au]<;>exact rfl));(focus (intro v hv;cases hv<;>exact rfl)))
     all_goals ((have zF:=a3 hwk hnx.symm (a9 @b8 @bg @gU @eC @nk @iU @ib @ed @oC);refine c7 (k+1) [some b0,some (b0+1),some (b0+256)] ?_ ?_))
     all_goals (first|(show s.length-(k+1)<s.length-k;omega)|(show k+1<=s.length;omega))
    ·repeat' first|simp only[aK,aF,hh,hlt,aD,Lm,l7,av,List.getElem?_cons_zero,Option.getD_some,Option.isSome_some,au,aH,seval]|refine ab ?_ [b0+1,b0+2] (pz false (b0+1) (b0+2) (bZ q (s.take k)) _ _ (nW q c) (Qm q c) hll Y6 ?_ ?_ ac Y6 Y6) ?_ ?_|(refine kK (y:=?_) (kv:=?_) (kvs:=?_) (q:=?_) ?_ ?_ ?_ qJ ?_ ?_ OZ ?_ ?_ ?_;rotate_left 4;(iterate 3 (focus (simp only[aF,au,seval]<;>exact rfl)));(focus (kernel_rfl));(focus (exact rfl));(focus (simp only[hf,au]<;>exact rfl));(focus (intro v hv;cases hv<;>exact rfl)))
     all_goals ((have zF:=a3 hwk hnx.symm (a9 @b8 @bg @gU @eC @nk @iU @ib @ed @oC);refine c7 (k+1) [some b0,some (b0+1),some (b0+272)] ?_ ?_))
     all_goals (first|(show s.length-(k+1)<s.length-k;omega)|(show k+1<=s.length;omega))
   ·have hke:k=s.length:=Y6
    subst hke
    have hd:decide (s.length<s.length)=false:=aL
    have hll:(bZ q s).length<=aN:=by unfold aN;omega
    by_cases hbig:16384<(bZ q s).length
    ·have hp:wz q s=4:=by unfold wz;rw[if_neg (fun h=>h hz),if_pos hbig]
     have hp2:Bi q s=[]:=by unfold Bi;rw[hp];rfl
     have hd2:decide ((16384:Int)<((bZ q s).length:Int))=true:=bz
     (have zF:=a4 hd hd2 hp hp2;repeat' first|refine wS ?_|exact wE|refine ab wM [b0+1,b0+2] (uo false (b0+1) (b0+2) (bZ q s) _ _ Y6 wM wM ac Y6 Y6) wM ?_ | apply Fin.pure)
    ·have hp:wz q s=0:=by unfold wz;rw[if_neg (fun h=>h hz),if_neg hbig]
     have hp2:Bi q s=bZ q s:=by unfold Bi;rw[hp];rfl
     have hd2:decide ((16384:Int)<((bZ q s).length:Int))=false:=aL
     (have zF:=a4 hd hd2 hp hp2;repeat' first|refine wS ?_|exact wE|refine ab wM [b0+1,b0+2] (uo false (b0+1) (b0+2) (bZ q s) _ _ Y6 wM wM ac Y6 Y6) wM ?_|refine ab wM [b0+1,b0+2] (qP false (b0+1) (b0+2) (bZ q s) _ _ hll Y6 wM wM ac Y6 Y6) wM ?_ | apply Fin.pure)
 ·have hb:(az s != 0)=true:=by rw[Yq];exact hz
  have h1:wz q s=az s:=by unfold wz;rw[if_pos hz]
  have h2:Bi q s=[]:=by unfold Bi;rw[h1,if_neg hz]
  refine aG call169 func169 results169 ntmps169 ?_;intro b0 hb0 zN
  exact xP (a3 hb h1 h2) (dD s hs)
def Lq (y:Int):IntKind.u8.wrap ((BitVec.ofInt IntKind.u8.bits (IntKind.u8.wrap y) &&& BitVec.ofInt IntKind.u8.bits 63).toNat:Int)=y % 64:=by
 have key:∀ n:Fin 256,IntKind.u8.wrap ((BitVec.ofInt IntKind.u8.bits (n.val:Int) &&& BitVec.ofInt IntKind.u8.bits 63).toNat:Int)=(n.val:Int) % 64:=ZJ
 have h:=key ⟨(y % 256).toNat,by omega⟩
 have e:((y % 256).toNat:Int)=y % 256:=Y6
 simp only[e]at h
 rw[IntKind.wrap_u8 y,h];omega
def Uc {h n:Int}(hh:(h=128/\n<64)\/(h=192/\n<32)\/(h=224/\n<16)\/(h=240/\n<8))(h0:0<=n):IntKind.u8.wrap ((BitVec.ofInt IntKind.u8.bits h ||| BitVec.ofInt IntKind.u8.bits n).toNat:Int)=h+n:=by
 have k1:∀ n:Fin 64,IntKind.u8.wrap ((BitVec.ofInt IntKind.u8.bits 128 ||| BitVec.ofInt IntKind.u8.bits (n.val:Int)).toNat:Int)=128+(n.val:Int):=ZJ
 have k2:∀ n:Fin 32,IntKind.u8.wrap ((BitVec.ofInt IntKind.u8.bits 192 ||| BitVec.ofInt IntKind.u8.bits (n.val:Int)).toNat:Int)=192+(n.val:Int):=ZJ
 have k3:∀ n:Fin 16,IntKind.u8.wrap ((BitVec.ofInt IntKind.u8.bits 224 ||| BitVec.ofInt IntKind.u8.bits (n.val:Int)).toNat:Int)=224+(n.val:Int):=ZJ
 have k4:∀ n:Fin 8,IntKind.u8.wrap ((BitVec.ofInt IntKind.u8.bits 240 ||| BitVec.ofInt IntKind.u8.bits (n.val:Int)).toNat:Int)=240+(n.val:Int):=ZJ
 have e:(n.toNat:Int)=n:=Y6
 rcases hh with ⟨rfl,h1⟩|⟨rfl,h1⟩|⟨rfl,h1⟩|⟨rfl,h1⟩
 ·have:=k1 ⟨n.toNat,by omega⟩;simpa only[e] using this
 ·have:=k2 ⟨n.toNat,by omega⟩;simpa only[e] using this
 ·have:=k3 ⟨n.toNat,by omega⟩;simpa only[e] using this
 ·have:=k4 ⟨n.toNat,by omega⟩;simpa only[e] using this
def qL (bs:ZA)(z:Int)(rows:List (List V))(h:(encodeRune z).map av=rows):bs.map av++rows=(bs++encodeRune z).map av:=by rw[<- h,WM]
def bd (bs:ZA):rK bs = @Blk.mk 1 (bs.map av) (.typed 5):=rfl
def Od (z:Int)(hm:hY z=true)(h0:128<=z)(y:Nat)(bs:ZA)(hbs:bs.length<=1000000)(M:ah)(nm:Nat)(hy:M y=some (rK bs))(ho:∀ w,(M w).isSome=true->w∈[y])(hyn:y<nm):Ev cx 222 nm [.own y 0 bs.length,.int .i32 z] M (.own nm 0 (bs.length+(encodeRune z).length)) [(y,none),(nm,some (rK (bs++encodeRune z)))]:=by
 have hr:=gw hm
 have hmz:=(fU z).1 hm
 have hw:IntKind.u32.wrap z=z:=IntWalk.u32_in _ Y6
 have s6:z.fdiv (2 ^ min 6 IntKind.i32.bits)=z / 64:=YA z (b:=64) Y6
 have s12:z.fdiv (2 ^ min 12 IntKind.i32.bits)=z / 4096:=YA z (b:=4096) Y6
 have s18:z.fdiv (2 ^ min 18 IntKind.i32.bits)=z / 262144:=YA z (b:=262144) Y6
 have o1:=Uc (h:=128) (n:=z % 64) (.inl ⟨rfl,by omega⟩) Y6
 have o2:=Uc (h:=128) (n:=z / 64 % 64) (.inl ⟨rfl,by omega⟩) Y6
 have o3:=Uc (h:=128) (n:=z / 4096 % 64) (.inl ⟨rfl,by omega⟩) Y6
 have a1:=Lq z
 have a2:=Lq (z / 64)
 have a3:=Lq (z / 4096)
 by_cases c1:z<=2047
 ·have d1:decide (z<=2047)=true:=AI c1
  have w6:IntKind.u8.wrap (z / 64)=z / 64:=IntWalk.u8_in _ Y6
  have o4:=Uc (h:=192) (n:=z / 64) (.inr (.inl ⟨rfl,by omega⟩)) Y6
  have he:=Ut h0 c1
  have hl:(encodeRune z).length=2:=by simpa using congrArg List.length he
  have hrw:=qL bs z _ he
  rw[hl]
  refine aG call222 func222 results222 ntmps222 ?_;intro b0 hb0 zN
  have ly:=aq hb0 hy
  have y0:=aE ly;have y1:=ak ly;have y2:=ay ly;have y3:=ae ly
  (refine xR (a6 hw d1 s6 w6 a1 (a9 @a2 @a3 @o1 @o2 o3 o4 hy hrw (a9 @bd y0 y1 y2 y3 @List.take_of_length_le.{0} @Eo @cJ @gT))) trivial ?_)
  all_goals ((have zF:=a9 hw hy @bd @aP @aI y0 y1 y2 y3;refine jW [(b0+272,some 0)] [y] ho))
 have d1:decide (z<=2047)=false:=WA c1
 by_cases c2:z<=65535
 ·have d3:decide (z<=65535)=true:=AI c2
  have w12:IntKind.u8.wrap (z / 4096)=z / 4096:=IntWalk.u8_in _ Y6
  have o4:=Uc (h:=224) (n:=z / 4096) (.inr (.inr (.inl ⟨rfl,by omega⟩))) Y6
  have he:=Uu (z:=z) Y6
  have hl:(encodeRune z).length=3:=by simpa using congrArg List.length he
  have hrw:=qL bs z _ he
  rw[hl]
  have hs:(decide (z<55296)=true)\/(decide (z<55296)=false/\decide (57343<z)=true):=by
   by_cases h:z<55296
   ·exact .inl (AI h)
   ·exact .inr ⟨WA h,bz⟩
  rcases hs with d4|⟨d4,d5⟩
  ·refine aG call222 func222 results222 ntmps222 ?_;intro b0 hb0 zN
   have ly:=aq hb0 hy
   have y0:=aE ly;have y1:=ak ly;have y2:=ay ly;have y3:=ae ly
   (refine xR (a9 hw d1 d3 d4 s6 s12 w12 a1 (a9 @a2 @a3 @o1 @o2 o3 o4 hy hrw (a9 @bd y0 y1 y2 y3 @List.take_of_length_le.{0} @Eo @cJ @gT))) trivial ?_)
   all_goals ((have zF:=a9 hw hy @bd @aP @aI y0 y1 y2 y3;refine jW [(b0+400,some 0)] [y] ho))
  ·refine aG call222 func222 results222 ntmps222 ?_;intro b0 hb0 zN
   have ly:=aq hb0 hy
   have y0:=aE ly;have y1:=ak ly;have y2:=ay ly;have y3:=ae ly
   repeat' first|simp only[results222,ntmps222,aF,hw,d1,d3,d4,d5,s6,s12,w12,a1,a2,o1,o2,o4,hy,hrw,bd,y1,Lm,IN,Eo,WQ,cJ,au,aH,seval] | refine Ai Y6 ?_
   all_goals ((have zF:=a9 hw hy @bd @aP @aI y0 y1 y2 y3;refine jW [(b0+512,some 0)] [y] ho))
 ·have d3:decide (z<=65535)=false:=WA c2
  have d4:decide (z<55296)=false:=aL
  have d5:decide (57343<z)=true:=bz
  have d6:decide (65535<z)=true:=bz
  have d7:decide (z<=1114111)=true:=bz
  have w18:IntKind.u8.wrap (z / 262144)=z / 262144:=IntWalk.u8_in _ Y6
  have o4:=Uc (h:=240) (n:=z / 262144) (.inr (.inr (.inr ⟨rfl,by omega⟩))) Y6
  have he:=Uv (z:=z) Y6 Y6
  have hl:(encodeRune z).length=4:=by simpa using congrArg List.length he
  have hrw:=qL bs z _ he
  rw[hl]
  refine aG call222 func222 results222 ntmps222 ?_;intro b0 hb0 zN
  have ly:=aq hb0 hy
  have y0:=aE ly;have y1:=ak ly;have y2:=ay ly;have y3:=ae ly
  (refine xR (a5 hw d1 d3 d4 (a9 d5 d6 d7 s6 s12 s18 w18 a1 (a9 @a2 @a3 @o1 @o2 o3 o4 hy hrw (a9 @bd y0 y1 y2 y3 @List.take_of_length_le.{0} @Eo @cJ @gT)))) trivial ?_)
  all_goals ((have zF:=a9 hw hy @bd @aP @aI y0 y1 y2 y3;refine jW [(b0+704,some 0)] [y] ho))
def L2 {z:Int}(h0:0<=z)(h1:z<=127):(encodeRune z).length=1:=by simpa using congrArg List.length (SQ h0 h1)
def HG (z:Int)(hm:hY z=true)(y:Nat)(bs:ZA)(hbs:bs.length<=1000000)(M:ah)(nm:Nat)(hy:M y=some (rK bs))(ho:∀ w,(M w).isSome=true->w∈[y])(hyn:y<nm):Ev cx 207 nm [.own y 0 bs.length,.int .i32 z] M (.own nm 0 (bs.length+(encodeRune z).length)) [(y,none),(nm,some (rK (bs++encodeRune z)))]:=by
 have hmz:=(fU z).1 hm
 have hr:=gw hm
 have hw:IntKind.u32.wrap z=z:=IntWalk.u32_in _ Y6
 by_cases c1:z<=127
 ·have d1:decide (z<=127)=true:=AI c1
  have w8:IntKind.u8.wrap z=z:=IntWalk.u8_in _ Y6
  have he:=SQ hr.1 c1
  have hrw:=qL bs z _ he
  rw[L2 hr.1 c1]
  refine aG call207 func207 results207 ntmps207 ?_;intro b0 hb0 zN
  have ly:=aq hb0 hy
  have y0:=aE ly;have y1:=ak ly;have y2:=ay ly;have y3:=ae ly
  (refine xR (a6 hw d1 w8 hy hrw (a9 @bd y0 y1 y2 y3 @List.take_of_length_le.{0} @Eo @cJ @gT)) trivial ?_)
  all_goals ((have zF:=a9 hw hy @bd @aP @aI y0 y1 y2 y3;refine jW [(b0+128,some 0)] [y] ho))
 ·have d1:decide (z<=127)=false:=WA c1
  refine aG call207 func207 results207 ntmps207 ?_;intro b0 hb0 zN
  have ly:=aq hb0 hy
  have y0:=aE ly;have y1:=ak ly;have y2:=ay ly;have y3:=ae ly
  (have zF:=a8 hw d1 hy y0 y1 y2 y3 @aD;repeat' first|refine wS ?_ | refine ab wM [y] (Od z hm Y6 y bs hbs _ _ wM ac Y6) wM ?_)
  all_goals ((have zF:=a9 hw hy @bd @aP @aI y0 y1 y2 y3;refine jW [(b0+96,some 0)] [y] ho))
def Jb (s:ZA)(c:UInt8)(M:ah)(nm:Nat):Ev cx 178 nm [.str s,.int .u8 c.toNat] M (.int .i64 (indexByte s c)) [] :=
 Ev.indexByte func178 (by kernel_rfl) (by kernel_rfl) (by kernel_rfl) (by kernel_rfl) s c M nm
def AX (s:ZA)(c:UInt8)(nm:Nat):Ev cx 146 nm [.str s,.int .u8 c.toNat] ah.nil (.int .i64 (indexByte s c)) []:=by
 refine aG call146 func146 results146 ntmps146 ?_;intro b0 hb0 zN
 exact xP trivial (Jb s c _)
def sI (s:ZA)(d:UInt8)(nm:Nat):Ev cx 187 nm [.str s,.str [d]] ah.nil (.int .i64 (indexByte s d)) []:=by
 by_cases h:[d]=s
 ·subst h
  have e:indexByte [d] d=0:=by simp[indexByte]
  have e1:([d]==[d])=true:=by simp
  refine aG call187 func187 results187 ntmps187 ?_;intro b0 hb0 zN
  exact xP (a2 e e1) (AX [d] d)
 ·have e1:([d]==s)=false:=If h
  refine aG call187 func187 results187 ntmps187 ?_;intro b0 hb0 zN
  exact xP e1 (AX s d)
def jc (d:UInt8)(s:ZA):V:=match df d s with
 | none=>.tup [.str s,.str [],.bool false]
 | some (a,b)=>.tup [.str a,.str b,.bool true]
def PW (s:ZA)(d:UInt8)(hs:s.length<=aN)(nm:Nat):Ev cx 183 nm [.str s,.str [d]] ah.nil (jc d s) []:=by
 unfold aN at hs
 cases hc:df d s with
 | none =>
  have e:indexByte s d = -1:=jK.2 hc
  have ev:jc d s = .tup [.str s,.str [],.bool false]:=by unfold jc;rw[hc]
  rw[ev]
  refine aG call183 func183 results183 ntmps183 ?_;intro b0 hb0 zN
  (have zF:=trivial;have cF:=fun w=>(by have:=sI s d;rw[e]at this;exact this w);repeat' first|refine wS ?_|exact wE | apply Fin.pure)
 | some p =>
  obtain⟨a,b⟩:=p
  obtain⟨e,e1,e2,e3⟩:=jL hc
  have ev:jc d s = .tup [.str a,.str b,.bool true]:=by unfold jc;rw[hc]
  have h1:(a.length:Int)<=s.length:=Y6
  have h2:IntKind.i64.wrap ((a.length:Int)+1)=((a.length+1:Nat):Int):=aX
  have h3:((a.length+1:Nat):Int)<=s.length:=Y6
  have h4:a.length<=s.length:=Y6
  have h5:a.length+1<=s.length:=Y6
  rw[ev]
  refine aG call183 func183 results183 ntmps183 ?_;intro b0 hb0 zN
  (have zF:=a7 h1 h2 h3 h4 h5 e1 e2;have cF:=fun w=>(by have:=sI s d;rw[e]at this;exact this w);repeat' first|refine wS ?_|exact wE | apply Fin.pure)
def qb (s:ZA)(d:UInt8)(hs:s.length<=aN)(nm:Nat):Ev cx 148 nm [.str s,.str [d]] ah.nil (jc d s) []:=by
 have hev:=PW s d hs
 cases hc:df d s with
 | none =>
  have ev:jc d s = .tup [.str s,.str [],.bool false]:=by unfold jc;rw[hc]
  rw[ev]at hev ⊢
  refine aG call148 func148 results148 ntmps148 ?_;intro b0 hb0 zN
  exact xP trivial hev
 | some p =>
  have ev:jc d s = .tup [.str p.1,.str p.2,.bool true]:=by unfold jc;rw[hc]
  rw[ev]at hev ⊢
  refine aG call148 func148 results148 ntmps148 ?_;intro b0 hb0 zN
  exact xP trivial hev
def sH (cs:ZA)(n:Nat):Bool:=cs.any fun c=>c.toNat==n
def eU (cs:ZA):List V:=(List.range 256).map fun i=>.bool (sH cs i)
def de (cs:ZA):(eU cs).length=256:=by simp[eU]
def HY (cs:ZA)(c:UInt8):(eU cs)[c.toNat]? = some (.bool (sH cs c.toNat)):=by
 unfold eU
 rw[WG,YY c.toNat_lt];rfl
def HZ (cs:ZA)(c:UInt8):(eU cs).set c.toNat (.bool true)=eU (cs++[c]):=by
 refine Xx fun i=>?_
 rw[Xb]
 unfold eU
 rw[Lm,List.length_range,WG,WG]
 by_cases hi:i<256
 ·rw[YY hi]
  by_cases e:c.toNat=i
  ·subst e;simp[sH,hi]
  ·simp[sH,e]
 ·rw[W0 (by simpa using hi)]
  by_cases e:c.toNat=i
  ·subst e;exact absurd c.toNat_lt hi
  ·simp[e]
def da (cs:ZA):plainL (eU cs)=true:=by
 rw[ww,WI]
 intro v hv
 obtain⟨i,_,rfl⟩:=Wn.1 hv
 rfl
def Aj (cs:ZA):(eU cs).take 256=eU cs:=IN (by rw[de];omega)
def Ag (cs:ZA):(eU cs).drop 256=[]:=YS (by rw[de];omega)
def EF (cs:ZA):(eU cs).all V.one=true:=by
 rw[WI]
 intro v hv
 obtain⟨i,_,rfl⟩:=Wn.1 hv
 rfl
def Fg (σ:Y8)(M:ah)(cs:ZA):finL σ M (eU cs)=eU cs:=(finL_plain σ M _ (da cs)).1
def vB (σ:Y8)(M:ah)(cs:ZA):finLOk σ M (eU cs)=True:=X0 (finL_plain σ M _ (da cs)).2
def FN (cs:ZA):leL (eU cs) (eU cs)=True:=X0 (leL_refl _)
def mo (cs:ZA):plainLL [eU cs]=true:=by simp[plainLL,da]
def Ah:([V.bool false,V.bool false,V.bool false,V.bool false,V.bool false,V.bool false,V.bool false,V.bool false,V.bool false,V.bool false,V.bool false,V.bool false,V.bool false,V.bool false,V.bool false,V.bool false,V.bool false,V.bool false,V.bool false,V.bool false,V.bool false,V.bool false,V.bool false,V.bool false,V.bool false,V.bool false,V.bool false,V.bool false,V.bool false,V.bool false,V.bool false,V.bool false,V.bool false,V.bool false,V.bool false,V.bool false,V.bool false,V.bool false,V.bool false,V.bool false,V.bool false,V.bool false,V.bool false,V.bool false,V.bool false,V.bool false,V.bool false,V.bool false,V.bool false,V.bool false,V.bool false,V.bool false,V.bool false,V.bool false,V.bool false,V.bool false,V.bool false,V.bool false,V.bool false,V.bool false,V.bool false,V.bool false,V.bool false,V.bool false,V.bool false,V.bool false,V.bool false,V.bool false,V.bool false,V.bool false,V.bool false,V.bool false,V.bool false,V.bool false,V.bool false,V.bool false,V.bool false,V.bool false,V.bool false,V.bool false,V.bool false,V.bool false,V.bool false,V.bool false,V.bool false,V.bool false,V.bool false,V.bool false,V.bool false,V.bool false,V.bool false,V.bool false,V.bool false,V.bool false,V.bool false,V.bool false,V.bool false,V.bool false,V.bool false,V.bool false,V.bool false,V.bool false,V.bool false,V.bool false,V.bool false,V.bool false,V.bool false,V.bool false,V.bool false,V.bool false,V.bool false,V.bool false,V.bool false,V.bool false,V.bool false,V.bool false,V.bool false,V.bool false,V.bool false,V.bool false,V.bool false,V.bool false,V.bool false,V.bool false,V.bool false,V.bool false,V.bool false,V.bool false,V.bool false,V.bool false,V.bool false,V.bool false,V.bool false,V.bool false,V.bool false,V.bool false,V.bool false,V.bool false,V.bool false,V.bool false,V.bool false,V.bool false,V.bool false,V.bool false,V.bool false,V.bool false,V.bool false,V.bool false,V.bool false,V.bool false,V.bool false,V.bool false,V.bool false,V.bool false,V.bool false,V.bool false,V.bool false,V.bool false,V.bool false,V.bool false,V.bool false,V.bool false,V.bool false,V.bool false,V.bool false,V.bool false,V.bool false,V.bool false,V.bool false,V.bool false,V.bool false,V.bool false,V.bool false,V.bool false,V.bool false,V.bool false,V.bool false,V.bool false,V.bool false,V.bool false,V.bool false,V.bool false,V.bool false,V.bool false,V.bool false,V.bool false,V.bool false,V.bool false,V.bool false,V.bool false,V.bool false,V.bool false,V.bool false,V.bool false,V.bool false,V.bool false,V.bool false,V.bool false,V.bool false,V.bool false,V.bool false,V.bool false,V.bool false,V.bool false,V.bool false,V.bool false,V.bool false,V.bool false,V.bool false,V.bool false,V.bool false,V.bool false,V.bool false,V.bool false,V.bool false,V.bool false,V.bool false,V.bool false,V.bool false,V.bool false,V.bool false,V.bool false,V.bool false,V.bool false,V.bool false,V.bool false,V.bool false,V.bool false,V.bool false,V.bool false,V.bool false,V.bool false,V.bool false,V.bool false,V.bool false,V.bool false,V.bool false,V.bool false,V.bool false,V.bool false,V.bool false,V.bool false,V.bool false,V.bool false,V.bool false,V.bool false,V.bool false,V.bool false,V.bool false,V.bool false,V.bool false,V.bool false,V.bool false,V.bool false,V.bool false,V.bool false]:List V)=eU []:=rfl
def B0 (cs:ZA)(h:∀ c∈cs,c.toNat<128)(hl:cs.length<=100)(nm:Nat):Ev cx 152 nm [.str cs] ah.nil (.tup [.agg (eU cs),.bool true]) []:=by
 refine aG call152 func152 results152 ntmps152 ?_;intro b0 hb0 zN
 (refine xR (a2 @Ah @de) trivial ?_)
 (have zF:=a4 @da @mo @Ah @de;refine fu (fun x:Nat=>cs.length-x) (fun x=>x<=cs.length) (b0+16) (fun x=>[(0,.str cs),(2,.ptr b0 0 0),(4,.int .i64 x)]) (fun x=>[(b0,⟨256,[eU (cs.take x)]⟩)]) (0) [some b0] ?_ ?_)
 ·exact WB _
 ·intro k hk
  by_cases hlt:k<cs.length
  ·obtain⟨c,hc⟩:=js hlt
   have hd:=AI hlt
   have hwk:=eX k
   have h128:=h c (By hc)
   have hd2:decide ((128:Int)<=(c.toNat:Int))=false:=aL
   have h256:c.toNat<256:=c.toNat_lt
   have hset:=HZ (cs.take k) c
   have htk:cs.take k++[c]=cs.take (k+1):=by
    obtain⟨hk',rfl⟩:=AS.1 hc
    rw[WF hk']
   rw[htk]at hset
   (refine xR (a7 hc hd hd2 hlt h256 hset @de) trivial ?_)
   all_goals ((have zF:=a4 @da @mo hset hwk;refine c7 (k+1) [some b0] ?_ ?_))
   all_goals (first|(show cs.length-(k+1)<cs.length-k;omega)|(show k+1<=cs.length;omega))
  ·have hke:k=cs.length:=Y6
   subst hke
   have hd:decide (cs.length<cs.length)=false:=aL
   have htk:cs.take cs.length=cs:=WJ
   exact xP (a3 hd htk (a9 @Aj @Ag @EF @Fg @vB @FN @de @mo @da)) trivial
def BV (cs:ZA)(c:UInt8)(nm:Nat):Ev cx 184 nm [.rp (eU cs),.int .u8 c.toNat] ah.nil (.bool (sH cs c.toNat)) []:=by
 have h256:c.toNat<256:=c.toNat_lt
 have hg:(List.drop c.toNat (eU cs))[0]? = some (.bool (sH cs c.toNat)):=by rw[Wr,Nat.add_zero];exact HY cs c
 have hl:0<(List.drop c.toNat (eU cs)).length:=by rw[Wd,de];omega
 refine aG call184 func184 results184 ntmps184 ?_;intro b0 hb0 zN
 exact xP (a4 h256 hg hl @de) trivial
def ew (cs:ZA):ZA->ZA
 | []=>[]
 | c::s=>if sH cs c.toNat=true then ew cs s else c::s
def fJ (cs:ZA)(s:ZA):ZA:=(ew cs s.reverse).reverse
def qH (cs:ZA):∀(s:ZA),∃ k,k<=s.length/\ew cs s=s.drop k/\(∀ i c,i<k->s[i]? = some c->sH cs c.toNat=true)/\(∀ c,s[k]? = some c->sH cs c.toNat=false)
 | []=>⟨0,by simp,rfl,fun i c h=>by omega,fun c h=>by simp at h⟩
 | c::s=>by
  unfold ew
  by_cases h:sH cs c.toNat=true
  ·rw[if_pos h]
   obtain⟨k,h1,h2,h3,h4⟩:=qH cs s
   refine⟨k+1,by simp;omega,by rw[h2];rfl,fun i d hi hd=>?_,fun d hd=>h4 d (by simpa using hd)⟩
   cases i with
   | zero=>simp at hd;subst hd;exact h
   | succ i=>exact h3 i d Y6 (by simpa using hd)
  ·rw[if_neg h]
   refine⟨0,by simp,rfl,fun i d hi=>by omega,fun d hd=>?_⟩
   simp at hd;subst hd
   simpa using h
def zX {cs s:ZA} : ew cs s=[]↔s.all (fun c=>sH cs c.toNat)=true:=by
 induction s with
 | nil=>simp[ew]
 | cons c s ih =>
  unfold ew
  by_cases h:sH cs c.toNat=true
  ·rw[if_pos h,ih];simp[h]
  ·rw[if_neg h];simp[h]
def Bz (cs s:ZA):(ew cs s).length<=s.length:=by
 obtain⟨k,h1,h2,_⟩:=qH cs s
 rw[h2];simp
def BC (cs s:ZA):(fJ cs s).length<=s.length:=by
 unfold fJ;have:=Bz cs s.reverse;simpa using this
def pS {cs:ZA}{c:UInt8}(s:ZA)(h:sH cs c.toNat=true):ew cs (c::s)=ew cs s:=by rw[ew,if_pos h]
def oO {cs:ZA}{c:UInt8}(s:ZA)(h:sH cs c.toNat=false):ew cs (c::s)=c::s:=by rw[ew,if_neg (by simp[h])]
def yo {cs:ZA}{c:UInt8}(s:ZA)(h:sH cs c.toNat=true):fJ cs (s++[c])=fJ cs s:=by unfold fJ;rw[YH];simp only[List.reverse_cons,List.reverse_nil,List.nil_append,List.cons_append];rw[pS _ h]
def xh {cs:ZA}{c:UInt8}(s:ZA)(h:sH cs c.toNat=false):fJ cs (s++[c])=s++[c]:=by unfold fJ;rw[YH];simp only[List.reverse_cons,List.reverse_nil,List.nil_append,List.cons_append];rw[oO _ h];simp
def xi {cs s:ZA} : ew cs (fJ cs s)=[]↔s.all (fun c=>sH cs c.toNat)=true:=by
 constructor
 ·intro h
  have h1:=zX.1 h
  unfold fJ at h1
  obtain⟨k,hk,hd,hi,ho⟩:=qH cs s.reverse
  rw[Yl,hd]at h1
  rw[<- Yl,WI]
  intro c hc
  obtain⟨i,hi2⟩:=XR.1 hc
  by_cases hik:i<k
  ·exact hi i c hik hi2
  ·refine WI.1 h1 c ?_
   refine XR.2 ⟨i-k,?_⟩
   rw[Wr,show k+(i-k)=i by omega];exact hi2
 ·intro h
  have:fJ cs s=[]:=by
   unfold fJ
   rw[zX.2 (by rw[Yl];exact h)];rfl
  rw[this];rfl
def tW (cs s:ZA)(hs:s.length<=aN)(nm:Nat):Ev cx 153 nm [.str s,.rp (eU cs)] ah.nil (.str (ew cs s)) []:=by
 unfold aN at hs
 refine aG call153 func153 results153 ntmps153 ?_;intro b0 hb0 zN
 (refine xR @da trivial ?_)
 (have zF:=@da;refine fu (fun x:ZA=>x.length) (fun x=>x.length<=s.length/\ew cs s=ew cs x) (b0+16) (fun x=>[(0,.str x),(1,.rp (eU cs))]) (fun x=>[]) (s) [] ?_ ?_)
 ·exact⟨IS _,rfl⟩
 ·rintro x ⟨h1,h2⟩
  cases x with
  | nil =>
   have hz:ew cs s=[]:=h2
   have hd:decide ((0:Int)<0)=false:=rfl
   exact xP (a2 hz hd) trivial
  | cons c x =>
   have hd:decide ((0:Int)<(((c::x).length:Nat):Int))=true:=AI (by simp only[List.length_cons];omega)
   have hl:0<(c::x).length:=by simp
   have h1':(1:Int)<=(((c::x).length:Nat):Int):=by simp only[List.length_cons];omega
   have h1'':1<=(c::x).length:=by simp
   have hh:=BV cs c
   simp only[List.length_cons]at hd hl h1' h1''
   cases hb:sH cs c.toNat with
   | true =>
    rw[hb]at hh
    (refine xR (a5 @da hd hl h1' h1'') hh ?_)
    all_goals ((have zF:=@da;refine c7 (x) [] ?_ ?_))
    all_goals (first|(show x.length<(c::x).length;simp;done)|(refine⟨by simp at h1;omega,?_⟩;rw[h2,pS _ hb]))
   | false =>
    rw[hb]at hh
    have hz:ew cs s=c::x:=by rw[h2,oO _ hb]
    exact xP (a6 @da hd hl h1' h1'' hz) hh
def BD (cs s:ZA)(hs:s.length<=aN)(nm:Nat):Ev cx 154 nm [.str s,.rp (eU cs)] ah.nil (.str (fJ cs s)) []:=by
 unfold aN at hs
 refine aG call154 func154 results154 ntmps154 ?_;intro b0 hb0 zN
 (refine xR @da trivial ?_)
 (have zF:=@da;refine fu (fun x:ZA=>x.length) (fun x=>x.length<=s.length/\fJ cs s=fJ cs x) (b0+16) (fun x=>[(0,.str x),(1,.rp (eU cs))]) (fun x=>[]) (s) [] ?_ ?_)
 ·exact⟨IS _,rfl⟩
 ·rintro x ⟨h1,h2⟩
  by_cases hne:x=[]
  ·subst hne
   have hz:fJ cs s=[]:=h2
   exact xP hz trivial
  ·obtain⟨y,c,rfl⟩:∃ y c,x=y++[c]:=⟨x.dropLast,x.getLast hne,(Xo hne).symm⟩
   have hlen:(y++[c]).length=y.length+1:=by simp
   have hd:decide ((0:Int)<((y.length+1:Nat):Int))=true:=bz
   have hw:IntKind.i64.wrap (((y.length+1:Nat):Int)-1)=(y.length:Int):=by rw[BG (by simp at h1;omega) (by simp at h1;omega)];omega
   have hw2:IntKind.i64.wrap ((y.length:Int)+1-1)=(y.length:Int):=by rw[BG (by simp at h1;omega) (by simp at h1;omega)];omega
   have hg:(y++[c])[y.length]? = some c:=by simp
   have hl1:y.length<y.length+1:=Y6
   have hl2:(y.length:Int)<=((y.length+1:Nat):Int):=Y6
   have hl3:y.length<=y.length+1:=Y6
   have htk:(y++[c]).take y.length=y:=by simp
   have hh:=BV cs c
   cases hb:sH cs c.toNat with
   | true =>
    rw[hb]at hh
    (refine xR (a2 @da (a9 hlen hd hw hw2 hg hl1 hl2 hl3 htk)) hh ?_)
    all_goals ((have zF:=a2 @da htk;refine c7 (y) [] ?_ ?_))
    all_goals (first | omega|(refine⟨by simp at h1;omega,?_⟩;rw[h2,yo _ hb]) )
   | false =>
    rw[hb]at hh
    have hz:fJ cs s=y++[c]:=by rw[h2,xh _ hb]
    exact xP (a2 @da (a9 hlen hd hw hw2 hg hl1 hl2 hl3 hz)) hh
def HO (cs s:ZA)(h:∀ c∈cs,c.toNat<128)(hl:cs.length<=100)(h2:2<=cs.length)(hs:s.length<=aN)(nm:Nat):Ev cx 104 nm [.str s,.str cs] ah.nil (.str (ew cs (fJ cs s))) []:=by
 have hcs:(cs==[])=false:=If (by intro e;subst e;simp at h2)
 by_cases h0:s=[]
 ·subst h0
  have e0:(([]:ZA)==[])=true:=rfl
  have e1:ew cs (fJ cs [])=[]:=rfl
  refine aG call104 func104 results104 ntmps104 ?_;intro b0 hb0 zN
  exact xP (a2 e0 e1) trivial
 ·have e0:(s==[])=false:=If h0
  have e2:((cs.length:Int)==1)=false:=If Y6
  have hsr:(fJ cs s).length<=aN:=W4 (BC cs s) hs
  refine aG call104 func104 results104 ntmps104 ?_;intro b0 hb0 zN
  (have zF:=a5 e0 hcs e2 @Ah (a9 @Aj @Ag @EF @Fg @vB @FN @de @da @mo);have cF:=B0 cs h hl;repeat' first|refine wS ?_|exact wE|refine bl [b0+320] wM wF wF rfl (BD cs s hs _) ?_|refine bl [b0+320] wM wF wF rfl (tW cs (fJ cs s) hsr _) ?_ | apply Fin.pure)
def gP:ZA:=[32,9,10,13]
def H8 (c:UInt8):sH gP c.toNat=cG c:=by
 have key:∀ n:Fin 256,sH gP n.val=cG (UInt8.ofNat n.val):=ZJ
 have:=key ⟨c.toNat,c.toNat_lt⟩
 simpa using this
def zY:∀ s:ZA,ew gP s=s.dropWhile cG
 | []=>rfl
 | c::s=>by
  rw[ew,H8,Xe,zY s]
def BA (cs s:ZA)(h:∀ c∈cs,c.toNat<128)(hl:cs.length<=100)(h2:2<=cs.length)(hs:s.length<=aN)(nm:Nat):Ev cx 174 nm [.str s,.str cs] ah.nil (.str (ew cs s)) []:=by
 have hcs:(cs==[])=false:=If (by intro e;subst e;simp at h2)
 by_cases h0:s=[]
 ·subst h0
  have e0:(([]:ZA)==[])=true:=rfl
  have e1:ew cs []=[]:=rfl
  refine aG call174 func174 results174 ntmps174 ?_;intro b0 hb0 zN
  exact xP (a2 e0 e1) trivial
 ·have e0:(s==[])=false:=If h0
  have e2:((cs.length:Int)==1)=false:=If Y6
  refine aG call174 func174 results174 ntmps174 ?_;intro b0 hb0 zN
  (have zF:=a5 e0 hcs e2 @Ah (a9 @Aj @Ag @EF @Fg @vB @FN @de @da @mo);have cF:=B0 cs h hl;repeat' first|refine wS ?_|exact wE|refine bl [b0+320] wM wF wF rfl (tW cs s hs _) ?_ | apply Fin.pure)
def rr (s:ZA)(c:UInt8)(nm:Nat):Ev cx 96 nm [.str s,.int .u8 c.toNat] ah.nil (.int .i64 (indexByte s c)) []:=by
 refine aG call96 func96 results96 ntmps96 ?_;intro b0 hb0 zN
 exact xP trivial (AX s c)
def L1 {z:Int}(h0:128<=z)(hm:hY z=true):∃(l:ZA) (c:UInt8),(Utf8.encode z).data.toList=l++[c]/\128<=c.toNat/\1<=l.length/\l.length<=3:=by
 have hz:=(fU z).1 hm
 have hv:Utf8.valid z=true:=by unfold Utf8.valid;simp;omega
 have mm:∀ n:Nat,128<=(UInt8.ofNat (128+n % 64)).toNat:=fun n=>by simp;omega
 unfold Utf8.encode
 simp only[hv,WQ]
 rw[if_neg Y6]
 split
 ·exact⟨[_],_,rfl,mm _,by simp,by simp⟩
 ·split
  ·exact⟨[_,_],_,rfl,mm _,by simp,by simp⟩
  ·exact⟨[_,_,_],_,rfl,mm _,by simp,by simp⟩
def Sf {c:UInt8}(h:128<=c.toNat):∀ k,c ∉ gP.drop k:=by
 intro k hc
 have h1:=List.mem_of_mem_drop hc
 unfold gP at h1
 simp only[Lk,Ln,XU]at h1
 rcases h1 with rfl|rfl|rfl|rfl<;>exact absurd h ZI
def MJ {d:UInt8}{s:ZA}(h:d ∉ s):indexByte s d = -1:=jK.2 (eA.2 h)
def MI (z:Int):Int:=if z<128 then indexByte gP (UInt8.ofNat z.toNat) else -1
def FD (z:Int)(hm:hY z=true)(nm:Nat):Ev cx 203 nm [.str [32,9,10,13],.int .i32 z] ah.nil (.int .i64 (MI z)) []:=by
 have hz:=(fU z).1 hm
 have hr:=gw hm
 have d0:decide (0<=z)=true:=AI hr.1
 by_cases c1:z<128
 ·have d1:decide (z<128)=true:=AI c1
  have hw:IntKind.u8.wrap z=((UInt8.ofNat z.toNat).toNat:Int):=by rw[IntWalk.u8_in _ Y6];simp;omega
  have hi:=rr gP (UInt8.ofNat z.toNat)
  have hx:MI z=indexByte gP (UInt8.ofNat z.toNat):=if_pos c1
  rw[hx]
  unfold gP at hi ⊢
  generalize UInt8.ofNat z.toNat=g at hw hi
  refine aG call203 func203 results203 ntmps203 ?_;intro b0 hb0 zN
  exact xP (a3 d0 d1 hw) hi
 have d1:decide (z<128)=false:=WA c1
 have hx:MI z = -1:=if_neg c1
 rw[hx]
 by_cases c2:z=65533
 ·subst c2
  refine aG call203 func203 results203 ntmps203 ?_;intro b0 hb0 zN
  (have zF:=a2 d0 d1;repeat' first|refine wS ?_|(refine o8 (s:=?_) ?_ ?_ ?_;rotate_left 1;(focus (exact wH));(focus (exact wH))))
  (have zF:=a2 @gM @eS;refine fu (fun x:Nat=>4-x) (fun x=>x<=4) (b0+16) (fun x=>[(175,.ptr b0 0 0)]) (fun x=>[(b0,mb [32,9,10,13] x)]) (0) [some (b0+192)] ?_ ?_)
  ·exact WB _
  ·intro p hp
   by_cases hlt:p<4
   ·have hd:p<([32,9,10,13]:ZA).length:=hlt
    have hrn:br [32,9,10,13] p=((([32,9,10,13]:ZA)[p]?.getD 0).toNat,1)/\((([32,9,10,13]:ZA)[p]?.getD 0).toNat:Int)≠65533:=by
     rcases(show p=0\/p=1\/p=2\/p=3 by omega) with rfl|rfl|rfl|rfl<;>decide +kernel
    obtain⟨hr1,hr2⟩:=hrn
    have hr3:(br [32,9,10,13] p).2=1:=by rw[hr1]
    have hq:(((br [32,9,10,13] p).1:Int)==65533)=false:=by rw[hr1];exact If hr2
    (have zF:=a4 hd hlt hq hr3;repeat' first|refine wS ?_|(refine jE (s:=?_) (y:=?_) (p:=?_) ?_ ?_ ?_ ?_;rotate_left 3;(focus (exact wH));(focus (exact wH));(focus (exact wo))))
    all_goals ((have zF:=a3 @gM @eS hr3;refine c7 (p+1) [some b0] ?_ ?_))
    all_goals (first|(show 4-(p+1)<4-p;omega)|(show p+1<=4;omega))
   ·have hpe:p=4:=Y6
    subst hpe
    (have zF:=trivial;repeat' first|refine wS ?_|exact wE|(refine re (s:=?_) (y:=?_) (p:=?_) ?_ ?_ ?_ ?_;rotate_left 3;(focus (exact wH));(focus (exact wH));(focus (exact wo))) | apply Fin.pure)
 ·have d2:(z==65533)=false:=If c2
  have hv:qI z=true:=by
   unfold qI
   simp only[Xf,In,WD];omega
  have hve:=Ea z
  rw[hv]at hve
  obtain⟨l,c,h1,h2,h3,h4⟩:=L1 Y6 hm
  have hll:(l++[c]).length=l.length+1:=by simp
  have hgl:(l++[c])[l.length]? = some c:=by simp
  have hw1:IntKind.i64.wrap (((l.length+1:Nat):Int)-1)=(l.length:Int):=by rw[aX];omega
  have hw2:IntKind.i64.wrap ((l.length:Int)+1-1)=(l.length:Int):=by rw[aX];omega
  refine aG call203 func203 results203 ntmps203 ?_;intro b0 hb0 zN
  (refine xR (a7 d0 d1 d2 h1 hll hw1 hw2) hve ?_)
  (have zF:=h1;refine fu (fun x:Nat=>x) (fun _=>True) (b0+16) (fun x=>[(0,.str [32,9,10,13]),(7,.str (l++[c])),(8,.int .i64 l.length),(9,.int .i64 l.length)]) (fun x=>[]) (0) [] ?_ ?_)
  ·trivial
  ·intro x _
   have hlt4:decide ((l.length:Int)<4)=true:=bz
   have hlt4':decide (l.length<4)=true:=bz
   have hl4:l.length<4:=Y6
   obtain⟨d,hd⟩:∃ d,([32,9,10,13]:ZA)[l.length]? = some d:=⟨_,AT ZK⟩
   have hdc:(!((d.toNat:Int)==(c.toNat:Int)))=true:=by
    have hda:d.toNat<128:=by
     have:=By hd
     simp only[Lk,Ln,XU]at this
     rcases this with rfl|rfl|rfl|rfl<;>decide
    rw[If Y6];rfl
   have hdc':((d.toNat:Int) !=(c.toNat:Int))=true:=hdc
   have hw3:IntKind.i64.wrap ((l.length:Int)+1)=((l.length+1:Nat):Int):=aX
   have hs1:((l.length+1:Nat):Int)<=4:=Y6
   have hs2:l.length+1<=4:=Y6
   have hs3:l.length<l.length+1:=Y6
   have hix:=rr (([32,9,10,13]:ZA).drop (l.length+1)) c
   have hi0:indexByte (([32,9,10,13]:ZA).drop (l.length+1)) c = -1:=MJ (Sf h2 (l.length+1))
   rw[hi0]at hix
   (have zF:=a4 hll hgl hlt4 (a9 hlt4' hl4 hd hdc hdc' hw3 hs1 hs2 hs3);have cF:=hix;repeat' first|refine wS ?_|exact wE | apply Fin.pure)
def nP (z:Int):Bool:=decide (z=32\/z=9\/z=10\/z=13)
def FC {z:Int}(hm:hY z=true):decide (0<=MI z)=nP z:=by
 have hr:=gw hm
 unfold MI nP
 by_cases c1:z<128
 ·rw[if_pos c1]
  have key:∀ n:Fin 128,decide (0<=indexByte gP (UInt8.ofNat n.val))=decide (n.val=32\/n.val=9\/n.val=10\/n.val=13):=ZJ
  have:=key ⟨z.toNat,by omega⟩
  rw[this]
  rw[Ym]
  simp only;omega
 ·rw[if_neg c1]
  rw[Ym];omega
def Fy (z:Int)(hm:hY z=true)(nm:Nat):Ev cx 177 nm [.str [32,9,10,13],.int .i32 z] ah.nil (.bool (nP z)) []:=by
 have h:=FC hm
 refine aG call177 func177 results177 ntmps177 ?_;intro b0 hb0 zN
 exact xP h (FD z hm)
def iq (z:Int):Int:=if nP z=true then 32 else z
def Hd (z:Int)(hm:hY z=true)(nm:Nat):Ev cx 176 nm [.int .i32 z] ah.nil (.int .i32 (iq z)) []:=by
 have h:=Fy z hm
 unfold iq
 generalize nP z=b at h ⊢
 cases b<;>(
  refine aG call176 func176 results176 ntmps176 ?_;intro b0 hb0 zN
  exact xP trivial h)
def Tt (z:Int)(hm:hY z=false)(q y:Nat)(bs:ZA)(M:ah)(nm:Nat)(hqy:q≠y)(hq:M q=some ⟨1,[[.own y 0 bs.length]]⟩)(hy:M y=some (rK bs))(ho:∀ w,(M w).isSome=true->w∈[q,y])(hqn:q<nm)(hyn:y<nm):Ev cx 206 nm [.int .i64 z,.ptr q 0 0] M (.bool false) [(q,some ⟨1,[[.own y 0 bs.length]]⟩),(y,some (rK bs))]:=by
 have hmay:=pv z
 rw[hm]at hmay
 refine aG call206 func206 results206 ntmps206 ?_;intro b0 hb0 zN
 have ly:=aq hb0 hy
 have y0:=fR ly
 have lq:=aq hb0 hq
 have z0:=fR lq
 have n1:=IT hqy;have n4:=IT (WU hqy)
 (refine xR trivial hmay ?_)
 all_goals ((refine Fin.give [(q,none),(y,none)] [] ?_ ?_ ?_ ?_ ?_ (bc ho (by simp[ba,tgt]))<;>(try simp only[results206,ntmps206,aF,hq,hy,bd,aP,aI,z0,y0,n1,n4,hH,au,aH,seval])<;>(try simp only[aB])<;>(try omega)))
def Q3 (z:Int)(hm:hY z=true)(q y:Nat)(bs:ZA)(hbs:bs.length<=1000000)(M:ah)(nm:Nat)(hqy:q≠y)(hq:M q=some ⟨1,[[.own y 0 bs.length]]⟩)(hy:M y=some (rK bs))(ho:∀ w,(M w).isSome=true->w∈[q,y])(hqn:q<nm)(hyn:y<nm):Ev cx 206 nm [.int .i64 z,.ptr q 0 0] M (.bool true) [(y,none),(q,some ⟨1,[[.own nm 0 (bs.length+(encodeRune z).length)]]⟩),(nm,some (rK (bs++encodeRune z)))]:=by
 have hmay:=pv z
 rw[hm]at hmay
 have hmz:=(fU z).1 hm
 have hw:IntKind.i32.wrap z=z:=IntWalk.i32_in _ Y6
 refine aG call206 func206 results206 ntmps206 ?_;intro b0 hb0 zN
 have ly:=aq hb0 hy
 have y0:=fR ly
 have lq:=aq hb0 hq
 have z0:=fR lq
 have n1:=IT hqy;have n4:=IT (WU hqy)
 repeat' first|simp only[cC,aK,results206,ntmps206,aF,hw,hq,hy,z0,y0,n1,n4,aD,Bt,au,aH,seval]|exact rfl|refine ao (v:=.any) ?_|(first|(refine ad ?_ (hmay _) ?_)|(refine ai ?_ (fun _=>hmay _) ?_))|refine ab ?_ [y] (HG z hm y bs hbs _ _ ?_ ac Y6) ?_ ?_|((first|apply b7|apply cM)<;>intro hb)|refine Ai Y6 ?_|(apply Ai<;>intro hb)
 all_goals ((refine Fin.give [(q,none),(b0+112,some 0)] [y] ?_ ?_ ?_ ?_ ?_ (bc ho (by simp[ba,tgt]))<;>(try simp only[results206,ntmps206,aF,hq,hy,bd,aP,aI,z0,y0,n1,n4,hH,au,aH,seval])<;>(try simp only[aB])<;>(try omega)))
def xS {zs:List Int}{k:Nat}{z:Int}(h:zs[k]? = some z):enc (zs.take (k+1))=enc (zs.take k)++encodeRune z:=by
 obtain⟨hk,rfl⟩:=AS.1 h
 rw[WF hk,L3]
def R4 (zs:List Int)(hl:zs.length<=100000)(nm:Nat):Ev cx 182 nm [.sl false 1 (zs.map dG)] ah.nil (.tup [.str (nc zs),.int .i64 (nD zs)]) []:=by
 refine aG call182 func182 results182 ntmps182 ?_;intro b0 hb0 zN
 (have zF:=@fW;repeat' first|refine wS ?_|exact wE|((first|(refine aU (g:=?_) ?_ ?_)|(refine aZ (g:=?_) ?_ ?_));rotate_left 1;(focus (exact wH)))|((first|apply b7|apply cM)<;>intro hb)|refine Ai Y6 ?_|(apply Ai<;>intro hb))
 (have zF:=a7 @fW @bd @aP @aI @cg @am (show enc []=[] from rfl);refine fu (fun x:Nat=>zs.length-x) (fun x=>x<=zs.length/\(zs.take x).all hY=true) (b0+16) (fun x=>[(4,.ptr b0 0 0),(5,.fn 206 [.ptr b0 0 0]),(9,.sl false 1 (zs.map dG)),(10,.int .i64 zs.length),(11,.int .i64 x)]) (fun x=>[(b0,⟨1,[[.own (b0+1) 0 (enc (zs.take x)).length]]⟩),(b0+1,rK (enc (zs.take x)))]) (0) [some (b0+32),none] ?_ ?_)
 ·exact⟨WB _,rfl⟩
 ·rintro k ⟨hk,hall⟩
  have hel:=E3 (zs.take k)
  have hkl:(zs.take k).length=k:=by rw[WK];omega
  by_cases hlt:k<zs.length
  ·obtain⟨z,hz⟩:=js hlt
   have hh:(zs.map dG)[k]? = some (dG z):=by rw[WG,hz];rfl
   have hd:=AI hlt
   have hwk:=eX k
   have hgd:zs.getD k 0=z:=by rw[XB,hz];rfl
   cases hm:hY z with
   | false =>
    have he:nD zs=50:=Jy hlt (by rw[hgd];exact hm)
    have ht:nc zs=[]:=by unfold nc;rw[he];rfl
    (repeat' first|simp only[cC,aK,results182,ntmps182,aF,hh,hd,hlt,he,ht,dG,Lm,Bf,au,aH,seval]|exact rfl|refine ao (v:=.any) ?_|((refine cL (caps:=?_) ?_ ?_ [b0,b0+1] (Tt z hm b0 (b0+1) (enc (zs.take k)) _ _ Y6 ?_ ?_ ac Y6 Y6) ?_ ?_);rotate_left 1)|((first|(refine aU (g:=?_) ?_ ?_)|(refine aZ (g:=?_) ?_ ?_));rotate_left 1;(focus (simp only[results182,ntmps182,aF,hh,hd,hlt,he,ht,dG,Lm,Bf,au,aH,seval]<;>exact rfl)))|((first|apply b7|apply cM)<;>intro hb)|refine Ai Y6 ?_|(apply Ai<;>intro hb)|apply Fin.pure|simp only[aB])
   | true =>
    have hnx:=xS hz
    have hnl:(enc (zs.take k)).length+(encodeRune z).length=(enc (zs.take (k+1))).length:=by rw[hnx,List.length_append]
    have has:=BQ hlt hall (by rw[hgd];exact hm)
    repeat' first|simp only[cC,aK,results182,ntmps182,aF,hh,hd,hlt,dG,aD,Lm,Bt,au,aH,seval]|exact rfl|refine ao (v:=.any) ?_|((refine cL (caps:=?_) ?_ ?_ [b0,b0+1] (Q3 z hm b0 (b0+1) (enc (zs.take k)) Y6 _ _ Y6 ?_ ?_ ac Y6 Y6) ?_ ?_);rotate_left 1)|((first|(refine aU (g:=?_) ?_ ?_)|(refine aZ (g:=?_) ?_ ?_));rotate_left 1;(focus (simp only[results182,ntmps182,aF,hh,hd,hlt,dG,aD,Lm,Bt,au,aH,seval]<;>exact rfl)))|((first|apply b7|apply cM)<;>intro hb)|refine Ai Y6 ?_|(apply Ai<;>intro hb)
    all_goals ((have zF:=a9 @fW hwk hnx.symm hnl @bd @aP @aI @cg @am;refine c7 (k+1) [some b0,some (b0+112)] ?_ ?_))
    all_goals (first|(show zs.length-(k+1)<zs.length-k;omega)|exact⟨hlt,has⟩|skip)
  ·have hke:k=zs.length:=Y6
   subst hke
   rw[WJ]at hall hel
   have hd:decide (zs.length<zs.length)=false:=aL
   by_cases hb:16384<(enc zs).length
   ·have he:nD zs=4:=by unfold nD;rw[if_pos hall,if_pos hb]
    have ht:nc zs=[]:=by unfold nc;rw[he];rfl
    have hd2:decide ((16384:Int)<((enc zs).length:Int))=true:=bz
    (have zF:=a4 hd hd2 he ht;repeat' first|refine wS ?_|exact wE|((first|(refine aU (g:=?_) ?_ ?_)|(refine aZ (g:=?_) ?_ ?_));rotate_left 1;(focus (exact wH)))|((first|apply b7|apply cM)<;>intro hb)|refine Ai Y6 ?_|(apply Ai<;>intro hb)|apply Fin.pure|simp only[aB])
   ·have he:nD zs=0:=by unfold nD;rw[if_pos hall,if_neg hb]
    have ht:nc zs=enc zs:=by unfold nc;rw[he];rfl
    have hd2:decide ((16384:Int)<((enc zs).length:Int))=false:=aL
    have htk:((enc zs).map av).take (enc zs).length=(enc zs).map av:=IN ZH
    (have zF:=a6 hd hd2 he ht htk @bd;repeat' first|refine wS ?_|exact wE|(refine dV (v:=?_) (bs:=enc zs) ?_ ?_ ?_ ?_ ?_ ?_ ?_;rotate_left 1;(iterate 2 (focus (exact wD)));(focus (exact wH));(focus (exact rfl));(focus (exact wM));(focus (exact wH)))|refine im ?_|refine gY ?_|((first|(refine aU (g:=?_) ?_ ?_)|(refine aZ (g:=?_) ?_ ?_));rotate_left 1;(focus (exact wH)))|((first|apply b7|apply cM)<;>intro hb)|refine Ai Y6 ?_|(apply Ai<;>intro hb)|apply Fin.pure|simp only[aB])
def yT:sG cx.P 51=true:=Y7
def OU (s:ZA)(n:Nat)(hl:s.length<=6)(h0:s≠[])(hv:hU 0 s=some n)(nm:Nat):Ev cx 204 nm [.str s,.int .i64 16,.int .i64 32] ah.nil (.tup [.int .u64 n,.val .nilIface]) []:=by
 refine aG call204 func204 results204 ntmps204 ?_;intro b0 hb0 zN
 (have zF:=trivial;have cF:=RF s n hl h0 hv;repeat' first|refine wS ?_|exact wE|(refine Ai yT ?_) | apply Fin.pure)
def lI:ZA:=[48,49,50,51,52,53,54,55,56,57,97,98,99,100,101,102,65,66,67,68,69,70]
def I9 (c:UInt8):sH lI c.toNat=(lH c).isSome:=by
 have key:∀ n:Fin 256,sH lI n.val=(lH (UInt8.ofNat n.val)).isSome:=ZJ
 have:=key ⟨c.toNat,c.toNat_lt⟩
 simpa using this
def FB (s:ZA):(s.all fun c=>sH lI c.toNat)=(hU 0 s).isSome:=by
 rw[<- C2]
 unfold z9
 congr 1
 funext c
 exact I9 c
def MH {s:ZA} :(ew lI (fJ lI s) != []) = !(hU 0 s).isSome:=by
 rw[<- FB]
 cases h:s.all fun c=>sH lI c.toNat with
 | true=>rw[xi.2 h];rfl
 | false =>
  have:ew lI (fJ lI s)≠[]:=fun e=>by rw[xi.1 e]at h;cases h
  simp[this]
def QA (o:ZC):V:=.tup [.int .i64 (o.getD 0:Nat),.bool o.isSome]
def jf:QA none = .tup [.int .i64 0,.bool false]:=rfl
def pe (n:Nat):QA (some n) = .tup [.int .i64 n,.bool true]:=rfl
def PY (s:ZA)(hs:s.length<=aN)(nm:Nat):Ev cx 180 nm [.str s] ah.nil (QA (je s)) []:=by
 by_cases h0:s=[]
 ·have hn:je s=none:=by unfold je;rw[if_pos (.inl h0)]
  subst h0
  have e0:(([]:ZA)==[])=true:=rfl
  rw[hn,jf]
  refine aG call180 func180 results180 ntmps180 ?_;intro b0 hb0 zN
  (have zF:=e0;repeat' first|refine wS ?_|exact wE | apply Fin.pure)
 have e0:(s==[])=false:=If h0
 by_cases h6:6<s.length
 ·have hn:je s=none:=by unfold je;rw[if_pos (.inr (.inl h6))]
  have e1:decide ((6:Int)<(s.length:Int))=true:=bz
  rw[hn,jf]
  refine aG call180 func180 results180 ntmps180 ?_;intro b0 hb0 zN
  (have zF:=a2 e0 e1;repeat' first|refine wS ?_|exact wE | apply Fin.pure)
 have e1:decide ((6:Int)<(s.length:Int))=false:=aL
 have e4:0<s.length:=Wl.2 h0
 obtain⟨c,hc⟩:∃ c,s[0]? = some c:=⟨_,AT e4⟩
 have e2:((c.toNat:Int)==48)=decide (c=48):=aW c 48
 by_cases h48:c=48
 ·have hn:je s=none:=by unfold je;rw[if_pos (.inr (.inr (by rw[Xc,hc,h48])))]
  have e3:decide (c=48)=true:=AI h48
  rw[e3]at e2
  rw[hn,jf]
  refine aG call180 func180 results180 ntmps180 ?_;intro b0 hb0 zN
  (have zF:=a5 e0 e1 e2 hc e4;repeat' first|refine wS ?_|exact wE | apply Fin.pure)
 have e3:decide (c=48)=false:=WA h48
 rw[e3]at e2
 have hL:je s=hU 0 s:=by
  unfold je;rw[if_neg]
  rintro (h|h|h)
  ·exact h0 h
  ·exact h6 h
  ·rw[Xc,hc]at h;cases h;exact h48 rfl
 have htr:=HO lI s ZI ZI ZI hs
 have hq:=MH (s:=s)
 unfold lI at htr hq
 have hq':(!(ew [48,49,50,51,52,53,54,55,56,57,97,98,99,100,101,102,65,66,67,68,69,70] (fJ [48,49,50,51,52,53,54,55,56,57,97,98,99,100,101,102,65,66,67,68,69,70] s)==[])) = !(hU 0 s).isSome:=hq
 rw[hL]
 cases hv:hU 0 s with
 | none =>
  rw[hv]at hq'
  rw[jf]
  refine aG call180 func180 results180 ntmps180 ?_;intro b0 hb0 zN
  exact xP (a6 e0 e1 e2 hc e4 hq') htr
 | some n =>
  rw[hv]at hq'
  have hn6:=rq s 0 n hv
  have hp6:(16:Nat) ^ s.length<=16 ^ 6:=XZ Y6 Y6
  have hn7:n<16777216:=by simp only[We,X2]at hn6;exact Wi hn6 hp6
  have hw:IntKind.i64.wrap (n:Int)=(n:Int):=aX
  rw[pe]
  refine aG call180 func180 results180 ntmps180 ?_;intro b0 hb0 zN
  (have zF:=a7 e0 e1 e2 hc e4 hq' hw;have cF:=a2 htr (OU s n Y6 h0 hv);repeat' first|refine wS ?_|exact wE|(refine Ai yT ?_) | apply Fin.pure)
def Iq (s:ZA)(hs:s.length<=aN)(nm:Nat):Ev cx 181 nm [.str s] ah.nil (QA (jA s)) []:=by
 have h:=F0 s hs
 cases hd:jA s with
 | none =>
  rw[ec hd]at h
  rw[jf]
  refine aG call181 func181 results181 ntmps181 ?_;intro b0 hb0 zN
  exact xP trivial h
 | some n =>
  rw[kZ hd]at h
  rw[pe]
  refine aG call181 func181 results181 ntmps181 ?_;intro b0 hb0 zN
  exact xP trivial h
def Bh (s p:ZA):V:=if preB s p=true then .tup [.str (s.drop p.length),.bool true] else .tup [.str s,.bool false]
def oE {s p:ZA}(h:preB s p=true):Bh s p = .tup [.str (s.drop p.length),.bool true]:=by unfold Bh;rw[if_pos h]
def rM {s p:ZA}(h:preB s p=false):Bh s p = .tup [.str s,.bool false]:=by unfold Bh;rw[if_neg (by simp[h])]
def EV (s p:ZA)(hs:s.length<=aN)(hp:p.length<=aN)(nm:Nat):Ev cx 157 nm [.str s,.str p] ah.nil (Bh s p) []:=by
 have h:=yQ s p hs hp
 unfold aN at hs hp
 cases hb:preB s p with
 | true =>
  have hle:p.length<=s.length:=by
   unfold preB at hb
   simp only[In,WD]at hb
   exact hb.1
  have hle':(p.length:Int)<=(s.length:Int):=Y6
  rw[oE hb]
  rw[hb]at h
  refine aG call157 func157 results157 ntmps157 ?_;intro b0 hb0 zN
  exact xP (a2 hle hle') h
 | false =>
  rw[rM hb]
  rw[hb]at h
  refine aG call157 func157 results157 ntmps157 ?_;intro b0 hb0 zN
  exact xP trivial h
def oX (s p:ZA)(hs:s.length<=aN)(hp:p.length<=aN)(nm:Nat):Ev cx 108 nm [.str s,.str p] ah.nil (Bh s p) []:=by
 have h:=EV s p hs hp
 cases hb:preB s p with
 | true =>
  rw[oE hb]at h ⊢
  refine aG call108 func108 results108 ntmps108 ?_;intro b0 hb0 zN
  exact xP trivial h
 | false =>
  rw[rM hb]at h ⊢
  refine aG call108 func108 results108 ntmps108 ?_;intro b0 hb0 zN
  exact xP trivial h
def lK:List (V×V):=[(.str [97,109,112],.agg [.str [38]]),(.str [108,116],.agg [.str [60]]),(.str [103,116],.agg [.str [62]]),(.str [113,117,111,116],.agg [.str [34]]),(.str [97,112,111,115],.agg [.str [39]])]
def A5:yd cx.P 229=some (9,227):=Y7
def FS:lK=[(.str [97,109,112],.agg [.str [38]]),(.str [108,116],.agg [.str [60]]),(.str [103,116],.agg [.str [62]]),(.str [113,117,111,116],.agg [.str [34]]),(.str [97,112,111,115],.agg [.str [39]])]:=rfl
def Dq (nm:Nat):Ev cx 179 nm [] ah.nil (.mp nm) [(nm,some (fE lK))]:=by
 refine aG call179 func179 results179 ntmps179 ?_;intro b0 hb0 zN
 (have zF:=a2 @A5 @FS;repeat' first|refine wS ?_|refine jD ?_|(refine kJ (y:=?_) (kv:=?_) (xv:=?_) (kvs:=?_) ?_ ?_ ?_ ?_ A5 ?_ ?_ ?_ ?_ ?_;rotate_left 4;(focus (exact wH));(focus (exact wH));(focus (exact wH));(focus (exact wH));(focus (kernel_rfl));(iterate 3 (focus (exact rfl)))))
 all_goals ((have zF:=a3 @FS @b8 @bg;refine jW [(b0+16,some 0)] [] (FV (l:=[]))))
def qj (s:ZA):(∃ x,dX (.str s) lK=some (some (.agg [.str x]))/\cA s=some x/\x.length<=1)\/(dX (.str s) lK=some none/\cA s=if s.head? = some 35 then (if s.tail.head? = some 120 then eR (je s.tail.tail) else eR (jA s.tail)) else none):=by
 by_cases h1:s=[97,109,112]
 ·subst h1;left;exact⟨_,rfl,ze,by simp⟩
 by_cases h2:s=[108,116]
 ·subst h2;left;exact⟨_,rfl,Dm,by simp⟩
 by_cases h3:s=[103,116]
 ·subst h3;left;exact⟨_,rfl,Dl,by simp⟩
 by_cases h4:s=[113,117,111,116]
 ·subst h4;left;exact⟨_,rfl,we,by simp⟩
 by_cases h5:s=[97,112,111,115]
 ·subst h5;left;exact⟨_,rfl,by decide,by simp⟩
 right
 have e1:(s==[97,109,112])=false:=If h1
 have e2:(s==[108,116])=false:=If h2
 have e3:(s==[103,116])=false:=If h3
 have e4:(s==[113,117,111,116])=false:=If h4
 have e5:(s==[97,112,111,115])=false:=If h5
 refine⟨?_,?_⟩
 ·simp only[FS,dX,lD,e1,e2,e3,e4,e5]
 ·unfold cA;rw[if_neg h1,if_neg h2,if_neg h3,if_neg h4,if_neg h5]
def wL:zeroOf cx.P 227=some (.agg #[.string ⟨#[]⟩]):=Y7
def JY (rest:ZA)(y n:Nat):Blk:=⟨2,[[.str rest,.own y 0 n]]⟩
def eL (rest:ZA)(y n:Nat):JY rest y n=⟨2,[[.str rest,.own y 0 n]]⟩:=rfl
def J0 (rest:ZA)(hr:rest.length<=1000000)(hc:df 59 rest=none)(q y:Nat)(out:ZA)(M:ah)(nm:Nat)(hqy:q≠y)(hq:M q=some (JY rest y out.length))(hy:M y=some (rK out))(ho:∀ w,(M w).isSome=true->w∈[q,y])(hqn:q<nm)(hyn:y<nm) :
  Ev cx 147 nm [.ptr q 0 0] M (.bool false) [(q,some (JY rest y out.length)),(y,some (rK out))]:=by
 have hcv:=qb rest 59 (by unfold aN;omega)
 have ev:jc 59 rest = .tup [.str rest,.str [],.bool false]:=by unfold jc;rw[hc]
 rw[ev]at hcv
 rw[eL]at hq ⊢
 refine aG call147 func147 results147 ntmps147 ?_;intro b0 hb0 zN
 have ly:=aq hb0 hy
 have y0:=fR ly
 have lq:=aq hb0 hq
 have z0:=fR lq
 have n1:=IT hqy;have n4:=IT (WU hqy)
 repeat' first|simp only[results147,ntmps147,hq,Bf,au,aH,seval]|refine ad ?_ (hcv _) ?_
 all_goals ((refine Fin.give [(q,none),(y,none)] [] ?_ ?_ ?_ ?_ ?_ (bc ho (by simp[ba,tgt]))<;>(try simp only[aF,hq,hy,bd,aP,aI,n1,n4,hH,au,seval])<;>(try simp only[aB])<;>(try omega)))
def Gp (rest a b x:ZA)(hr:rest.length<=1000000)(hc:df 59 rest=some (a,b))(hf:dX (.str a) lK=some (some (.agg [.str x])))(hx:x.length<=1)(q y:Nat)(out:ZA)(hout:out.length<=1000000)(M:ah)(nm:Nat)(hqy:q≠y)(hq:M q=some (JY rest y out.length))(hy:M y=some (rK out))(ho:∀ w,(M w).isSome=true->w∈[q,y])(hqn:q<nm)(hyn:y<nm) :
  Ev cx 147 nm [.ptr q 0 0] M (.bool true) [(y,none),(q,some (JY b nm (out++x).length)),(nm,some (rK (out++x)))]:=by
 have hcv:=qb rest 59 (by unfold aN;omega)
 have ev:jc 59 rest = .tup [.str a,.str b,.bool true]:=by unfold jc;rw[hc]
 rw[ev]at hcv
 have hmp:out.map av++x.map av=(out++x).map av:=by rw[WM]
 rw[List.length_append]
 rw[eL]at hq ⊢
 refine aG call147 func147 results147 ntmps147 ?_;intro b0 hb0 zN
 have ly:=aq hb0 hy
 have y0:=aE ly;have y1:=ak ly;have y2:=ay ly;have y3:=ae ly
 have lq:=aq hb0 hq
 have z0:=aE lq;have z1:=ak lq;have z2:=ay lq;have z3:=ae lq
 have n1:=IT hqy;have n4:=IT (WU hqy)
 repeat' first|simp only[aK,results147,ntmps147,aF,hq,hy,hmp,l7,bd,z1,y1,n1,Eo,WQ,cJ,gT,Lm,IN,Option.getD_some,Option.isSome_some,Bt,au,aH,seval]|refine ad ?_ (hcv _) ?_|refine ag ?_ (Dq _) ?_ ?_|(refine kK (y:=?_) (kv:=?_) (kvs:=?_) (q:=?_) ?_ ?_ ?_ A5 ?_ ?_ wL ?_ ?_ ?_;rotate_left 4;(iterate 3 (focus (simp only[WQ,au,seval]<;>exact rfl)));(focus (kernel_rfl));(focus (exact rfl));(focus (simp only[hf,au]<;>exact rfl));(focus (intro v hv;cases hv<;>exact rfl))) | omega|refine bm  ZJ  ?_ | refine Ai Y6 ?_
 all_goals ((refine Fin.give [(q,none),(b0+528,some 0)] [y] ?_ ?_ ?_ ?_ ?_ (bc ho (by simp[ba,tgt]))<;>(try simp only[aF,hq,aP,aI,z1,z3,y3,n1,hH,au,seval])<;>(try simp only[aB])<;>(try omega)))
def uF {s p:ZA} : preB s p=true ↔ ∃ t,s=p++t:=by
 unfold preB
 simp only[In,WD,W3]
 constructor
 ·rintro ⟨_,h⟩
  exact⟨s.drop p.length,by conv=>lhs;rw[<- List.take_append_drop p.length s,h]⟩
 ·rintro ⟨t,rfl⟩
  simp
def sw {a:ZA}(hf:dX (.str a) lK=some none):cA a=if a.head? = some 35 then (if a.tail.head? = some 120 then eR (je a.tail.tail) else eR (jA a.tail)) else none:=by
 rcases qj a with ⟨x,h,_⟩|⟨_,h⟩
 ·rw[hf]at h;cases h
 ·exact h
def Jk {a:ZA}(hf:dX (.str a) lK=some none)(h:preB a [35,120]=true):cA a=eR (je (a.drop 2)):=by
 obtain⟨t,rfl⟩:=uF.1 h
 rw[sw hf];rfl
def Jj {a:ZA}(hf:dX (.str a) lK=some none)(h:preB a [35,120]=false)(h2:preB a [35]=true):cA a=eR (jA (a.drop 1)):=by
 obtain⟨t,rfl⟩:=uF.1 h2
 have h1:([35]++t).head? = some 35:=rfl
 rw[sw hf,if_pos h1,if_neg]
 ·rfl
 ·intro h3
  simp only[List.cons_append,List.nil_append,List.tail_cons]at h3
  cases t with
  | nil=>cases h3
  | cons c t =>
   cases h3
   have:=uF.2 (⟨t,rfl⟩:∃ t',[35]++120::t=[35,120]++t')
   rw[h]at this;cases this
def Jl {a:ZA}(hf:dX (.str a) lK=some none)(h2:preB a [35]=false):cA a=none:=by
 rw[sw hf,if_neg]
 intro h3
 cases a with
 | nil=>cases h3
 | cons c t =>
  cases h3
  have:=uF.2 (⟨t,rfl⟩:∃ t',35::t=[35]++t')
  rw[h2]at this;cases this
def kV:eR none=none:=rfl
def mr {n:Nat}(h:hY (n:Int)=true):eR (some n)=some (encodeRune n):=by simp[eR,h]
def oD {n:Nat}(h:hY (n:Int)=false):eR (some n)=none:=by simp[eR,h]
def Np {n:Int}(h:hY n=true):nD [n]=0/\nc [n]=encodeRune n:=by
 have hl:=be n
 have e:enc [n]=encodeRune n:=by simp[enc]
 have he:nD [n]=0:=by unfold nD;rw[if_pos (by simp[h]),e,if_neg Y6]
 exact⟨he,by unfold nc;rw[if_pos he,e]⟩
def LO:List (List V):=[[.str [35,120],.fn 180 []],[.str [35],.fn 181 []]]
def fL:LO=[[.str [35,120],.fn 180 []],[.str [35],.fn 181 []]]:=rfl
def zH (rest a b:ZA)(hr:rest.length<=1000000)(hc:df 59 rest=some (a,b))(hf:dX (.str a) lK=some none)(q y:Nat)(out:ZA)(hout:out.length<=1000000)(M:ah)(nm:Nat)(hqy:q≠y)(hq:M q=some (JY rest y out.length))(hy:M y=some (rK out))(ho:∀ w,(M w).isSome=true->w∈[q,y])(hqn:q<nm)(hyn:y<nm)
    (v:V) (eff:List (Nat×Option Blk)) (hve:(cA a=none/\v = .bool false/\eff=[(q,some (JY rest y out.length)),(y,some (rK out))])\/(∃ x,cA a=some x/\v = .bool true/\eff=[(y,none),(q,some (JY b nm (out++x).length)),(nm,some (rK (out++x)))])) :
    Ev cx 147 nm [.ptr q 0 0] M v eff:=by
  have hal:a.length<=1000000:=by
    have:=(eB hc).1
    rw[this]at hr;simp at hr;omega
  have hcv:=qb rest 59 (by unfold aN;omega)
  have ev:jc 59 rest = .tup [.str a,.str b,.bool true]:=by unfold jc;rw[hc]
  rw[ev]at hcv
  have hp2:=oX a [35,120] (by unfold aN;omega) ZI
  have hp1:=oX a [35] (by unfold aN;omega) ZI
  simp only[eL]at hq hve
  refine aG call147 func147 results147 ntmps147 ?_;intro b0 hb0 zN
  have ly:=aq hb0 hy
  have y0:=aE ly;have y1:=ak ly;have y2:=ay ly;have y3:=ae ly
  have lq:=aq hb0 hq
  have z0:=aE lq;have z1:=ak lq;have z2:=ay lq;have z3:=ae lq
  have n1:=IT hqy;have n4:=IT (WU hqy)
  repeat' first|simp only[aK,aF,hq,l7,Option.getD_none,Option.isSome_none,Bt,au,aH,seval]|refine ad ?_ (hcv _) ?_|refine ag ?_ (Dq _) ?_ ?_|(refine kK (y:=?_) (kv:=?_) (kvs:=?_) (q:=?_) ?_ ?_ ?_ A5 ?_ ?_ wL ?_ ?_ ?_;rotate_left 4;(iterate 3 (focus (simp only[Option.getD_none,au,seval]<;>exact rfl)));(focus (kernel_rfl));(focus (exact rfl));(focus (simp only[hf,au]<;>exact rfl));(focus (intro v hv;cases hv<;>exact rfl))) | omega
  (refine v8 (fun x:Nat=>2-x) (fun x=>x<=2/\(0<x->preB a [35,120]=false)/\(1<x->preB a [35]=false)) (b0+16) (fun x=>[(0,.ptr q 0 0),(3,.str a),(4,.str b),(49,.own b0 0 2),(50,.int .i64 2),(51,.int .i64 x)]) (fun x=>[(b0,⟨2,LO⟩),(q,⟨2,[[.str rest,.own y 0 out.length]]⟩),(y,rK out)]) (0) [some (b0+432),some q,some y] ?_ ?_ ?_;(focus (refine⟨?_,?_⟩<;>(try simp only[bL,hq,hy,fL,bd,aP,aI,z0,z1,z3,y0,y1,y3,n1,n4,au,aB,seval])<;>(try omega))))
  · exact⟨WB _,fun h=>by omega,fun h=>by omega⟩
  · rintro k ⟨hk,hk1,hk2⟩
    have hdl:∀ j,(a.drop j).length<=aN:=fun j=>by rw[Wd];unfold aN;omega
    rcases(show k=0\/k=1\/k=2 by omega) with rfl|rfl|rfl
    · have hwk:IntKind.i64.wrap 1=1:=by decide
      cases hb:preB a [35,120] with
      | true =>
        have hp:=hp2
        rw[oE hb]at hp
        simp only[List.length_cons,List.length_nil]at hp
        have hm:=Jk hf hb
        have hx:=PY (a.drop 2) (hdl 2)
        cases hL:je (a.drop 2) with
        | none =>
          rw[hL,jf]at hx
          rw[hL,kV]at hm
          rcases hve with ⟨_,rfl,rfl⟩|⟨x,h,_⟩
          · repeat' first|simp only[results147,ntmps147,aF,fL,bd,z2,z3,y2,y3,Bt,Bf,au,aH,seval] | refine ao (v:=.any) ?_|(first|(refine ad ?_ (hp _) ?_)|(refine ad ?_ (hx _) ?_))|((refine aU (g:=?_) ?_ ?_);rotate_left 1;(focus (simp only[aF,au,seval]<;>exact rfl)))
            all_goals ((refine Fin.give [(q,none),(y,none)] [] ?_ ?_ ?_ ?_ ?_ (bc ho (by simp[ba,tgt]))<;>(try simp only[aF,hq,hy,bd,aP,aI,z0,z1,y0,y1,n1,n4,hH,au,seval])<;>(try simp only[aB])<;>(try omega)))
          · rw[hm]at h;cases h
        | some n =>
          rw[hL,pe]at hx
          rw[hL]at hm
          have hmy:=pv (n:Int)
          cases hmm:hY (n:Int) with
          | false =>
            rw[hmm]at hmy
            rw[oD hmm]at hm
            rcases hve with ⟨_,rfl,rfl⟩|⟨x,h,_⟩
            · repeat' first|simp only[results147,ntmps147,aF,fL,bd,z2,z3,y2,y3,Bt,Bf,au,aH,seval]|(first|(refine ad ?_ (hp _) ?_)|(refine ad ?_ (hx _) ?_)|(refine ai ?_ (fun _=>hmy _) ?_))|((refine aU (g:=?_) ?_ ?_);rotate_left 1;(focus (simp only[aF,au,seval]<;>exact rfl)))
              all_goals ((refine Fin.give [(q,none),(y,none)] [] ?_ ?_ ?_ ?_ ?_ (bc ho (by simp[ba,tgt]))<;>(try simp only[aF,hq,hy,bd,aP,aI,z0,z1,y0,y1,n1,n4,hH,au,seval])<;>(try simp only[aB])<;>(try omega)))
            · rw[hm]at h;cases h
          | true =>
            rw[hmm]at hmy
            rw[mr hmm]at hm
            rcases hve with ⟨h,_⟩|⟨x,h,rfl,rfl⟩
            · rw[hm]at h;cases h
            · rw[hm]at h;cases h
              obtain⟨o1,o2⟩:=Np hmm
              have hof:=R4 [(n:Int)] ZH
              rw[o1,o2]at hof
              simp only[dG,Lc,Lo]at hof
              have hel:=be (n:Int)
              have hmp:out.map av++(encodeRune (n:Int)).map av=(out++encodeRune (n:Int)).map av:=by rw[WM]
              rw[List.length_append]
              repeat' first|simp only[aK,results147,ntmps147,aF,fL,bd,z0,z1,z2,z3,y0,y1,y2,y3,n1,n4,hmp,Eo,WQ,cJ,gT,Lm,IN,Bt,au,aH,seval]|exact rfl|(first|(refine ad ?_ (hp _) ?_)|(refine ad ?_ (hx _) ?_)|(refine ai ?_ (fun _=>hmy _) ?_))|((refine bl (xs:=?_) [b0+544] ?_ ?_ ?_ rfl (hof _) ?_);rotate_left 1)|((refine aU (g:=?_) ?_ ?_);rotate_left 1;(focus (simp only[aF,WQ,au,seval]<;>exact rfl))) | refine Ai Y6 ?_
              all_goals ((refine Fin.give [(q,none),(b0+768,some 0)] [y] ?_ ?_ ?_ ?_ ?_ (bc ho (by simp[ba,tgt]))<;>(try simp only[aF,hq,aP,aI,z0,z1,z3,y3,n1,hH,au,seval])<;>(try simp only[aB])<;>(try omega)))
      | false =>
        have hp:=hp2
        rw[rM hb]at hp
        repeat' first|simp only[results147,ntmps147,aF,fL,bd,z2,z3,y2,y3,hwk,Bf,au,aH,seval]|refine ad ?_ (hp _) ?_
        all_goals ((refine pX (1) [some b0,some q,some y] ?_ ?_ ?_;(focus (refine⟨?_,?_⟩<;>(try simp only[bL,aP,aI,z0,z1,z2,y0,y1,y2,n1,n4,au,aB,seval])<;>(try omega)))))
        all_goals (first|omega)
    · have hwk:IntKind.i64.wrap 2=2:=by decide
      cases hb:preB a [35] with
      | true =>
        have hp:=hp1
        rw[oE hb]at hp
        simp only[List.length_cons,List.length_nil]at hp
        have hm:=Jj hf (hk1 Y6) hb
        have hx:=Iq (a.drop 1) (hdl 1)
        cases hL:jA (a.drop 1) with
        | none =>
          rw[hL,jf]at hx
          rw[hL,kV]at hm
          rcases hve with ⟨_,rfl,rfl⟩|⟨x,h,_⟩
          · repeat' first|simp only[results147,ntmps147,aF,fL,bd,z2,z3,y2,y3,Bt,Bf,au,aH,seval] | refine ao (v:=.any) ?_|(first|(refine ad ?_ (hp _) ?_)|(refine ad ?_ (hx _) ?_))|((refine aU (g:=?_) ?_ ?_);rotate_left 1;(focus (simp only[aF,au,seval]<;>exact rfl)))
            all_goals ((refine Fin.give [(q,none),(y,none)] [] ?_ ?_ ?_ ?_ ?_ (bc ho (by simp[ba,tgt]))<;>(try simp only[aF,hq,hy,bd,aP,aI,z0,z1,y0,y1,n1,n4,hH,au,seval])<;>(try simp only[aB])<;>(try omega)))
          · rw[hm]at h;cases h
        | some n =>
          rw[hL,pe]at hx
          rw[hL]at hm
          have hmy:=pv (n:Int)
          cases hmm:hY (n:Int) with
          | false =>
            rw[hmm]at hmy
            rw[oD hmm]at hm
            rcases hve with ⟨_,rfl,rfl⟩|⟨x,h,_⟩
            · repeat' first|simp only[results147,ntmps147,aF,fL,bd,z2,z3,y2,y3,Bt,Bf,au,aH,seval]|(first|(refine ad ?_ (hp _) ?_)|(refine ad ?_ (hx _) ?_)|(refine ai ?_ (fun _=>hmy _) ?_))|((refine aU (g:=?_) ?_ ?_);rotate_left 1;(focus (simp only[aF,au,seval]<;>exact rfl)))
              all_goals ((refine Fin.give [(q,none),(y,none)] [] ?_ ?_ ?_ ?_ ?_ (bc ho (by simp[ba,tgt]))<;>(try simp only[aF,hq,hy,bd,aP,aI,z0,z1,y0,y1,n1,n4,hH,au,seval])<;>(try simp only[aB])<;>(try omega)))
            · rw[hm]at h;cases h
          | true =>
            rw[hmm]at hmy
            rw[mr hmm]at hm
            rcases hve with ⟨h,_⟩|⟨x,h,rfl,rfl⟩
            · rw[hm]at h;cases h
            · rw[hm]at h;cases h
              obtain⟨o1,o2⟩:=Np hmm
              have hof:=R4 [(n:Int)] ZH
              rw[o1,o2]at hof
              simp only[dG,Lc,Lo]at hof
              have hel:=be (n:Int)
              have hmp:out.map av++(encodeRune (n:Int)).map av=(out++encodeRune (n:Int)).map av:=by rw[WM]
              rw[List.length_append]
              repeat' first|simp only[aK,results147,ntmps147,aF,fL,bd,z0,z1,z2,z3,y0,y1,y2,y3,n1,n4,hmp,Eo,WQ,cJ,gT,Lm,IN,Bt,au,aH,seval]|exact rfl|(first|(refine ad ?_ (hp _) ?_)|(refine ad ?_ (hx _) ?_)|(refine ai ?_ (fun _=>hmy _) ?_))|((refine bl (xs:=?_) [b0+544] ?_ ?_ ?_ rfl (hof _) ?_);rotate_left 1)|((refine aU (g:=?_) ?_ ?_);rotate_left 1;(focus (simp only[aF,WQ,au,seval]<;>exact rfl))) | refine Ai Y6 ?_
              all_goals ((refine Fin.give [(q,none),(b0+768,some 0)] [y] ?_ ?_ ?_ ?_ ?_ (bc ho (by simp[ba,tgt]))<;>(try simp only[aF,hq,aP,aI,z0,z1,z3,y3,n1,hH,au,seval])<;>(try simp only[aB])<;>(try omega)))
      | false =>
        have hp:=hp1
        rw[rM hb]at hp
        repeat' first|simp only[results147,ntmps147,aF,fL,bd,z2,z3,y2,y3,hwk,Bf,au,aH,seval]|refine ad ?_ (hp _) ?_
        all_goals ((refine pX (2) [some b0,some q,some y] ?_ ?_ ?_;(focus (refine⟨?_,?_⟩<;>(try simp only[bL,aP,aI,z0,z1,z2,y0,y1,y2,n1,n4,au,aB,seval])<;>(try omega)))))
        all_goals (first|omega | exact⟨by omega,fun _=>hk1 Y6⟩ )
    · have hm:=Jl hf (hk2 Y6)
      rcases hve with ⟨_,rfl,rfl⟩|⟨x,h,_⟩
      · repeat' first|simp only[results147,ntmps147,aF,fL,bd,au,seval]
        all_goals ((refine Fin.give [(q,none),(y,none)] [] ?_ ?_ ?_ ?_ ?_ (bc ho (by simp[ba,tgt]))<;>(try simp only[aF,hq,hy,bd,aP,aI,z0,y0,n1,n4,hH,au,seval])<;>(try simp only[aB])<;>(try omega)))
      · rw[hm]at h;cases h
def An {Q:Post}{st:List Frm}{nm:Nat}{e:Env}{M:ah}{d:Bool}{fs:Y9}{ops:ZD}{dst:Option Tmp}{f:Operand}{args:ZE}{ats:ZF}{t:TypeId}{pos:String}{af:Array Edge}{gd:Option (Nat×Bool)}{r:ZD}{i:Nat}{g:FuncId}{fi:List V}{v:V}
  (hf:ap cx.G false e f = .fnb g fi) (h:bb cx Q st nm (e.putD dst (.gd false v)) M d (fs++[[]]) ops r (i+1)):eZ cx Q st nm e M d fs false ops ⟨dst,.call ⟨.value f,args,ats⟩,t,pos,af,gd⟩ r i:=by
 unfold eZ jx
 refine .inl ?_
 simp only[hf,V.tgt]
 exact⟨[],v,fun h=>(by cases h),h⟩
def rD {a x:ZA}(h:cA a=some x):x.length<=4:=by
 have hp:∀ o,eR o=some x->x.length<=4:=fun o h=>by
  cases o with
  | none=>cases h
  | some n =>
   cases hm:hY (n:Int) with
   | true=>rw[mr hm]at h;cases h;exact(be (n:Int)).2
   | false=>rw[oD hm]at h;cases h
 unfold cA at h
 repeat' split at h
 all_goals (first|(cases h;simp;done)|exact hp _ h|cases h)
def CI (s:ZA):Int:=if az s≠0 then az s else match bp s with|none=>80|some _=>0
def Qr (s:ZA):ZA:=if CI s=0 then (bp s).getD [] else []
def Fl (s:ZA):V:=.tup [.str (Qr s),.int .i64 (CI s)]
def My {s:ZA}(h:az s≠0):Fl s = .tup [.str [],.int .i64 (az s)]:=by
 have he:CI s=az s:=by unfold CI;rw[if_pos h]
 unfold Fl Qr;rw[he,if_neg h]
def l6 {s:ZA}(h:az s=0)(h2:bp s=none):Fl s = .tup [.str [],.int .i64 80]:=by
 have he:CI s=80:=by unfold CI;rw[if_neg (by simp[h]),h2]
 unfold Fl Qr;rw[he];rfl
def sy {s x:ZA}(h:az s=0)(h2:bp s=some x):Fl s = .tup [.str x,.int .i64 0]:=by
 have he:CI s=0:=by unfold CI;rw[if_neg (by simp[h]),h2]
 unfold Fl Qr;rw[he,h2];rfl
section
variable (rest a b:ZA) (hr:rest.length<=1000000) (hc:df 59 rest=some (a,b))
include hr hc
def N3 (hm:cA a=none)(q y:Nat)(out:ZA)(hout:out.length<=1000000)(M:ah)(nm:Nat)(hqy:q≠y)(hq:M q=some (JY rest y out.length))(hy:M y=some (rK out))(ho:∀ w,(M w).isSome=true->w∈[q,y])(hqn:q<nm)(hyn:y<nm) :
  Ev cx 147 nm [.ptr q 0 0] M (.bool false) [(q,some (JY rest y out.length)),(y,some (rK out))]:=by
 rcases qj a with ⟨x,_,h,_⟩|⟨hf,_⟩
 ·rw[hm]at h;cases h
 ·exact zH rest a b hr hc hf q y out hout M nm hqy hq hy ho hqn hyn _ _ (.inl ⟨hm,rfl,rfl⟩)
def J1 (x:ZA)(hm:cA a=some x)(q y:Nat)(out:ZA)(hout:out.length<=1000000)(M:ah)(nm:Nat)(hqy:q≠y)(hq:M q=some (JY rest y out.length))(hy:M y=some (rK out))(ho:∀ w,(M w).isSome=true->w∈[q,y])(hqn:q<nm)(hyn:y<nm) :
  Ev cx 147 nm [.ptr q 0 0] M (.bool true) [(y,none),(q,some (JY b nm (out++x).length)),(nm,some (rK (out++x)))]:=by
 rcases qj a with ⟨x',hf,h,hx⟩|⟨hf,_⟩
 ·rw[hm]at h;cases h
  exact Gp rest a b x hr hc hf hx q y out hout M nm hqy hq hy ho hqn hyn
 ·exact zH rest a b hr hc hf q y out hout M nm hqy hq hy ho hqn hyn _ _ (.inr ⟨x,hm,rfl,rfl⟩)
end
structure RSt where
 rest:ZA
 out:ZA
def RSt.inv (s:ZA)(x:RSt):Prop:=bp s=(bp x.rest).map (x.out ++ ·)/\x.rest.length<=s.length/\x.out.length<=4*(s.length-x.rest.length)
def Hu (o:Option ZA)(a b:ZA):(o.map (b ++ ·)).map (a ++ ·)=o.map ((a++b) ++ ·):=by cases o<;>simp
def uw (s:ZA)(hs:s.length<=aN)(nm:Nat):Ev cx 97 nm [.str s] ah.nil (Fl s) []:=by
  by_cases hz:az s=0
  · have hb:(az s != 0)=false:=by rw[hz];rfl
    have hlen:=qB hz
    refine aG call97 func97 results97 ntmps97 ?_;intro b0 hb0 zN
    (have zF:=hb;have cF:=dD s hs;repeat' first|refine wS ?_|exact wE|((first|(refine aU (g:=?_) ?_ ?_)|(refine aZ (g:=?_) ?_ ?_));rotate_left 1;(focus (exact wH)))|((first|apply b7|apply cM)<;>intro hb)|refine Ai Y6 ?_|(apply Ai<;>intro hb))
    (have zF:=a6 @eL @bd @aP @aI @cg @am;refine fu (fun x:RSt=>x.rest.length) (fun x=>x.inv s) (b0+16) (fun x=>[(5,.ptr b0 0 0),(6,.fnb 147 [.ptr b0 0 0])]) (fun x=>[(b0,JY x.rest (b0+1) x.out.length),(b0+1,rK x.out)]) (RSt.mk s []) [some (b0+144),none] ?_ ?_)
    · refine⟨?_,IS _,WB _⟩
      cases bp s<;>rfl
    · rintro ⟨rest,out⟩ ⟨h1,h2,h3⟩
      simp only at h1 h2 h3
      cases rest with
      | nil =>
        have hd:(([]:ZA) != [])=false:=rfl
        have hr:bp s=some out:=by rw[h1,mw];simp
        have hv:=sy hz hr
        have htk:(out.map av).take out.length=out.map av:=IN ZH
        (have zF:=a5 hd hv htk @eL @bd;repeat' first|refine wS ?_|exact wE|(refine dV (v:=?_) (bs:=out) ?_ ?_ ?_ ?_ ?_ ?_ ?_;rotate_left 1;(iterate 2 (focus (exact wD)));(focus (exact wH));(focus (exact rfl));(focus (exact wM));(focus (exact wH)))|refine im ?_|refine gY ?_|((first|(refine aU (g:=?_) ?_ ?_)|(refine aZ (g:=?_) ?_ ?_));rotate_left 1;(focus (exact wH)))|((first|apply b7|apply cM)<;>intro hb)|refine Ai Y6 ?_|(apply Ai<;>intro hb)|apply Fin.pure|simp only[aB])
      | cons c r =>
        have hd:(!((c::r)==[]))=true:=rfl
        have hl0:0<(c::r).length:=by simp
        have hl1:1<=(c::r).length:=by simp
        have hl2:(1:Int)<=((c::r).length:Int):=by simp only[List.length_cons];omega
        simp only[List.length_cons]at hl0 hl1 hl2 h2 h3
        have q60:((c.toNat:Int)==60)=decide (c=60):=aW c 60
        have q38:((c.toNat:Int)==38)=decide (c=38):=aW c 38
        by_cases c60:c=60
        · have d60:decide (c=60)=true:=AI c60
          rw[d60]at q60
          have hr:bp s=none:=by rw[h1,c60,oH];rfl
          have hv:=l6 hz hr
          (repeat' first|simp only[cC,aK,results97,ntmps97,aF,hd,hl0,hl1,hl2,hv,q60,eL,bd,List.getElem?_cons_zero,WN,WP,au,aH,seval]|exact rfl|refine ao (v:=.any) ?_|((first|(refine aU (g:=?_) ?_ ?_)|(refine aZ (g:=?_) ?_ ?_));rotate_left 1;(focus (simp only[results97,ntmps97,aF,hd,hl0,hl1,hl2,hv,q60,eL,bd,List.getElem?_cons_zero,WN,WP,au,aH,seval]<;>exact rfl)))|((first|apply b7|apply cM)<;>intro hb)|refine Ai Y6 ?_|(apply Ai<;>intro hb)|apply Fin.pure|simp only[aB])
        have d60:decide (c=60)=false:=WA c60
        rw[d60]at q60
        by_cases c38:c=38
        · have d38:decide (c=38)=true:=AI c38
          rw[d38]at q38
          subst c38
          cases hc:df 59 r with
          | none =>
            have hr:bp s=none:=by rw[h1,k7 hc];rfl
            have hv:=l6 hz hr
            have href:=J0 r Y6 hc b0 (b0+1) out
            (repeat' first|simp only[cC,aK,results97,ntmps97,aF,hd,hl0,hl1,hl2,hv,q60,q38,eL,bd,List.getElem?_cons_zero,WN,WP,Bf,au,aH,seval]|exact rfl|refine ao (v:=.any) ?_|((refine nR (fi:=?_) ?_ ?_ [b0,b0+1] (href _ _ Y6 ?_ ?_ ac Y6 Y6) ?_ ?_);rotate_left 1)|((first|(refine aU (g:=?_) ?_ ?_)|(refine aZ (g:=?_) ?_ ?_));rotate_left 1;(focus (simp only[results97,ntmps97,aF,hd,hl0,hl1,hl2,hv,q60,q38,eL,bd,List.getElem?_cons_zero,WN,WP,Bf,au,aH,seval]<;>exact rfl)))|((first|apply b7|apply cM)<;>intro hb)|refine Ai Y6 ?_|(apply Ai<;>intro hb)|apply Fin.pure|simp only[aB])
          | some p =>
            obtain⟨a,b⟩:=p
            have hcl:=Cf hc
            cases hm:cA a with
            | none =>
              have hr:bp s=none:=by rw[h1,mu hc hm];rfl
              have hv:=l6 hz hr
              have href:=N3 r a b Y6 hc hm b0 (b0+1) out Y6
              (repeat' first|simp only[cC,aK,results97,ntmps97,aF,hd,hl0,hl1,hl2,hv,q60,q38,eL,bd,List.getElem?_cons_zero,WN,WP,Bf,au,aH,seval]|exact rfl|refine ao (v:=.any) ?_|((refine nR (fi:=?_) ?_ ?_ [b0,b0+1] (href _ _ Y6 ?_ ?_ ac Y6 Y6) ?_ ?_);rotate_left 1)|((first|(refine aU (g:=?_) ?_ ?_)|(refine aZ (g:=?_) ?_ ?_));rotate_left 1;(focus (simp only[results97,ntmps97,aF,hd,hl0,hl1,hl2,hv,q60,q38,eL,bd,List.getElem?_cons_zero,WN,WP,Bf,au,aH,seval]<;>exact rfl)))|((first|apply b7|apply cM)<;>intro hb)|refine Ai Y6 ?_|(apply Ai<;>intro hb)|apply Fin.pure|simp only[aB])
            | some x =>
              have hxl:=rD hm
              have hr:bp s=(bp b).map ((out++x) ++ ·):=by rw[h1,mz hc hm,Hu]
              have href:=J1 r a b Y6 hc x hm b0 (b0+1) out Y6
              have q38n:(((38:UInt8).toNat:Int) != 38)=false:=rfl
              repeat' first|simp only[cC,aK,results97,ntmps97,aF,hd,hl0,hl1,hl2,q60,q38,q38n,eL,bd,aD,List.getElem?_cons_zero,WN,WP,Bt,au,aH,seval]|exact rfl|refine ao (v:=.any) ?_|((refine nR (fi:=?_) ?_ ?_ [b0,b0+1] (href _ _ Y6 ?_ ?_ ac Y6 Y6) ?_ ?_);rotate_left 1)|((first|(refine aU (g:=?_) ?_ ?_)|(refine aZ (g:=?_) ?_ ?_));rotate_left 1;(focus (simp only[results97,ntmps97,aF,hd,hl0,hl1,hl2,q60,q38,q38n,eL,bd,aD,List.getElem?_cons_zero,WN,WP,Bt,au,aH,seval]<;>exact rfl)))|((first|apply b7|apply cM)<;>intro hb)|refine Ai Y6 ?_|(apply Ai<;>intro hb)
              all_goals ((have zF:=a6 @eL @bd @aP @aI @cg @am;refine c7 (RSt.mk b (out++x)) [some b0,some (b0+448)] ?_ ?_))
              all_goals (first|(show b.length<(38::r).length;simp only[List.length_cons];omega)|(refine⟨hr,?_,?_⟩<;>simp only[List.length_append]<;>omega)|skip)
        · have d38:decide (c=38)=false:=WA c38
          rw[d38]at q38
          have q38n:((c.toNat:Int) != 38)=true:=by unfold bne;rw[q38];rfl
          have hr:bp s=(bp r).map ((out++[c]) ++ ·):=by rw[h1,iC c60 c38];cases bp r<;>simp
          have hsn:out.map av++[[V.int .u8 c.toNat]]=(out++[c]).map av:=by rw[WM];rfl
          repeat' first|simp only[cC,aK,results97,ntmps97,aF,hd,hl0,hl1,hl2,q60,q38,q38n,hsn,eL,bd,aD,Eo,WQ,cJ,gT,Lm,IN,IS,Option.bind_some,List.getElem?_cons_zero,WN,WP,Bt,Bf,au,aH,seval]|exact rfl|refine ao (v:=.any) ?_|((refine An (v:=.any) (g:=?_) (fi:=?_) ?_ ?_);rotate_left 2)|((first|(refine aU (g:=?_) ?_ ?_)|(refine aZ (g:=?_) ?_ ?_));rotate_left 1;(focus (simp only[results97,ntmps97,aF,hd,hl0,hl1,hl2,q60,q38,q38n,hsn,eL,bd,aD,Eo,WQ,cJ,gT,Lm,IN,IS,Option.bind_some,List.getElem?_cons_zero,WN,WP,Bt,Bf,au,aH,seval]<;>exact rfl)))|((first|apply b7|apply cM)<;>intro hb)|refine Ai Y6 ?_|(apply Ai<;>intro hb)
          all_goals ((have zF:=a7 @eL @bd @aP @aI @cg @am @List.length_append.{0};refine c7 (RSt.mk r (out++[c])) [some b0,some (b0+672)] ?_ ?_))
          all_goals (first|(show r.length<(c::r).length;simp only[List.length_cons];omega)|(refine⟨hr,?_,?_⟩<;>simp only[List.length_append,List.length_cons,List.length_nil]<;>omega)|skip)
  · have hb:(az s != 0)=true:=by rw[Yq];exact hz
    have hv:=My hz
    refine aG call97 func97 results97 ntmps97 ?_;intro b0 hb0 zN
    (have zF:=a2 hb hv;have cF:=dD s hs;repeat' first|refine wS ?_|exact wE|((first|(refine aU (g:=?_) ?_ ?_)|(refine aZ (g:=?_) ?_ ?_));rotate_left 1;(focus (exact wH)))|((first|apply b7|apply cM)<;>intro hb)|refine Ai Y6 ?_|(apply Ai<;>intro hb)|apply Fin.pure|simp only[aB])
def yc:∀ p1 p2 p3 p4 p5:Bool,(p1=true/\p2=true)\/(p1=true/\p2=false/\p3=true/\p4=true)\/(p1=true/\p2=false/\p3=true/\p4=false/\p5=true)\/(p1=true/\p2=false/\p3=true/\p4=false/\p5=false)\/(p1=true/\p2=false/\p3=false/\p5=true)\/(p1=true/\p2=false/\p3=false/\p5=false) \/
  (p1=false/\p3=true/\p4=true)\/(p1=false/\p3=true/\p4=false/\p5=true)\/(p1=false/\p3=true/\p4=false/\p5=false)\/(p1=false/\p3=false/\p5=true)\/(p1=false/\p3=false/\p5=false):=by
 intro p1 p2 p3 p4 p5;cases p1<;>cases p2<;>cases p3<;>cases p4<;>cases p5<;>simp
def QL {c:UInt8}{p1 p2 p3 p4 p5:Bool}(h1:decide ((97:Int)<=c.toNat)=p1)(h2:decide ((c.toNat:Int)<=122)=p2)(h3:decide ((65:Int)<=c.toNat)=p3)(h4:decide ((c.toNat:Int)<=90)=p4)(h5:decide (c=95)=p5):A2 c=((p1&&p2)||(p3&&p4)||p5):=by
 unfold A2
 rw[<- h1,<- h2,<- h3,<- h4,<- h5]
 have e1:((97:Int)<=c.toNat)=(97<=c.toNat):=propext Y6
 have e2:((c.toNat:Int)<=122)=(c.toNat<=122):=propext Y6
 have e3:((65:Int)<=c.toNat)=(65<=c.toNat):=propext Y6
 have e4:((c.toNat:Int)<=90)=(c.toNat<=90):=propext Y6
 simp only[e1,e2,e3,e4]
def wA (c:UInt8)(nm:Nat):Ev cx 160 nm [.int .u8 c.toNat] ah.nil (.bool (A2 c)) []:=by
 have hq:((c.toNat:Int)==95)=decide (c=95):=aW c 95
 generalize h1:decide ((97:Int)<=c.toNat)=p1
 generalize h2:decide ((c.toNat:Int)<=122)=p2
 generalize h3:decide ((65:Int)<=c.toNat)=p3
 generalize h4:decide ((c.toNat:Int)<=90)=p4
 generalize h5:decide (c=95)=p5
 have he:=QL h1 h2 h3 h4 h5
 rcases yc p1 p2 p3 p4 p5 with ⟨rfl,rfl⟩|⟨rfl,rfl,rfl,rfl⟩|⟨rfl,rfl,rfl,rfl,rfl⟩|⟨rfl,rfl,rfl,rfl,rfl⟩|⟨rfl,rfl,rfl,rfl⟩|⟨rfl,rfl,rfl,rfl⟩|⟨rfl,rfl,rfl⟩|⟨rfl,rfl,rfl,rfl⟩|⟨rfl,rfl,rfl,rfl⟩|⟨rfl,rfl,rfl⟩|⟨rfl,rfl,rfl⟩
 all_goals simp only[Wq,Wy,Wm,W8,XG,XN,XD,Wz]at he
 all_goals (
  refine aG call160 func160 results160 ntmps160 ?_;intro b0 hb0 zN
  exact xP (a7 hq h1 h2 h3 h4 h5 he) trivial)
def VV:∀ n:Nat,n<256->(decide (97<=IntKind.u8.wrap ((BitVec.ofInt IntKind.u8.bits (n:Int) ||| BitVec.ofInt IntKind.u8.bits 32).toNat:Int))&&decide (IntKind.u8.wrap ((BitVec.ofInt IntKind.u8.bits (n:Int) ||| BitVec.ofInt IntKind.u8.bits 32).toNat:Int)<=122))=((decide (97<=n)&&decide (n<=122))||(decide (65<=n)&&decide (n<=90))):=ZJ
def Dy:∀ p1 p2 p5 f p6 p7 p8 p9:Bool,(p1=true/\p2=true)\/(p1=true/\p2=false/\p5=true)\/(p1=false/\p5=true)\/(p1=true/\p2=false/\p5=false/\f=true)\/(p1=false/\p5=false/\f=true) \/
  (p1=true/\p2=false/\p5=false/\f=false/\p6=true/\p7=true)\/(p1=true/\p2=false/\p5=false/\f=false/\p6=true/\p7=false/\p8=true)\/(p1=true/\p2=false/\p5=false/\f=false/\p6=true/\p7=false/\p8=false) \/
  (p1=true/\p2=false/\p5=false/\f=false/\p6=false/\p8=true)\/(p1=true/\p2=false/\p5=false/\f=false/\p6=false/\p8=false) \/
  (p1=false/\p5=false/\f=false/\p6=true/\p7=true)\/(p1=false/\p5=false/\f=false/\p6=true/\p7=false/\p8=true)\/(p1=false/\p5=false/\f=false/\p6=true/\p7=false/\p8=false) \/
  (p1=false/\p5=false/\f=false/\p6=false/\p8=true)\/(p1=false/\p5=false/\f=false/\p6=false/\p8=false):=by
 intro p1 p2 p5 f p6 p7 p8 p9;cases p1<;>cases p2<;>cases p5<;>cases f<;>cases p6<;>cases p7<;>cases p8<;>simp
def NF {c:UInt8}{f p1 p2 p5 p6 p7 p8 p9:Bool}(h1:decide (97<=IntKind.u8.wrap ((BitVec.ofInt IntKind.u8.bits (c.toNat:Int) ||| BitVec.ofInt IntKind.u8.bits 32).toNat:Int))=p1)(h2:decide (IntKind.u8.wrap ((BitVec.ofInt IntKind.u8.bits (c.toNat:Int) ||| BitVec.ofInt IntKind.u8.bits 32).toNat:Int)<=122)=p2)
  (h5:decide (c=95)=p5) (h6:decide ((48:Int)<=c.toNat)=p6) (h7:decide ((c.toNat:Int)<=57)=p7) (h8:decide (c=46)=p8) (h9:decide (c=45)=p9):ja f c=((p1&&p2)||p5||(!f&&((p6&&p7)||p8||p9))):=by
 have e:=VV c.toNat c.toNat_lt
 rw[h1,h2]at e
 unfold ja A2
 rw[<- e,<- h5,<- h6,<- h7,<- h8,<- h9]
 have e1:((48:Int)<=c.toNat)=(48<=c.toNat):=propext Y6
 have e2:((c.toNat:Int)<=57)=(c.toNat<=57):=propext Y6
 simp only[e1,e2]
def Bg (c:UInt8)(f:Bool)(nm:Nat):Ev cx 165 nm [.int .u8 c.toNat,.bool f] ah.nil (.bool (ja f c)) []:=by
 have q5:((c.toNat:Int)==95)=decide (c=95):=aW c 95
 have q8:((c.toNat:Int)==46)=decide (c=46):=aW c 46
 have q9:((c.toNat:Int)==45)=decide (c=45):=aW c 45
 generalize h1:decide (97<=IntKind.u8.wrap ((BitVec.ofInt IntKind.u8.bits (c.toNat:Int) ||| BitVec.ofInt IntKind.u8.bits 32).toNat:Int))=p1
 generalize h2:decide (IntKind.u8.wrap ((BitVec.ofInt IntKind.u8.bits (c.toNat:Int) ||| BitVec.ofInt IntKind.u8.bits 32).toNat:Int)<=122)=p2
 generalize h5:decide (c=95)=p5
 generalize h6:decide ((48:Int)<=c.toNat)=p6
 generalize h7:decide ((c.toNat:Int)<=57)=p7
 generalize h8:decide (c=46)=p8
 generalize h9:decide (c=45)=p9
 have he:=NF (f:=f) h1 h2 h5 h6 h7 h8 h9
 rcases Dy p1 p2 p5 f p6 p7 p8 p9 with ⟨rfl,rfl⟩|⟨rfl,rfl,rfl⟩|⟨rfl,rfl⟩|⟨rfl,rfl,rfl,rfl⟩|⟨rfl,rfl,rfl⟩|⟨rfl,rfl,rfl,rfl,rfl,rfl⟩|⟨rfl,rfl,rfl,rfl,rfl,rfl,rfl⟩|⟨rfl,rfl,rfl,rfl,rfl,rfl,rfl⟩|⟨rfl,rfl,rfl,rfl,rfl,rfl⟩|⟨rfl,rfl,rfl,rfl,rfl,rfl⟩|⟨rfl,rfl,rfl,rfl,rfl⟩|⟨rfl,rfl,rfl,rfl,rfl,rfl⟩|⟨rfl,rfl,rfl,rfl,rfl,rfl⟩|⟨rfl,rfl,rfl,rfl,rfl⟩|⟨rfl,rfl,rfl,rfl,rfl⟩
 all_goals simp only[Wq,Wy,Wm,W8,XG,XN,XD,Wz,Bt,Bf]at he
 all_goals (
  refine aG call165 func165 results165 ntmps165 ?_;intro b0 hb0 zN
  exact xP (a3 q5 q8 (a9 q9 h1 h2 h5 h6 h7 h8 h9 he)) trivial)
end Go.Proofs.YtgboofebldgdjaaGreatDoor
