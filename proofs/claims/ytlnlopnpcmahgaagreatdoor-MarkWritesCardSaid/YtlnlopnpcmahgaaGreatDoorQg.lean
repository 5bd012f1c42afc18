/-
 Texts joined: XEc,XEd,XEh,XEt,XEi,XGc,XGd.
-/
import Derived.Test.YtlnlopnpcmahgaaGreatDoorQf
set_option linter.all false
namespace Go.Proofs.YtlnlopnpcmahgaaGreatDoor
set_option maxRecDepth 100000
set_option maxHeartbeats 32000000
open Go Go.RowKit Vm Go.Lib Tryz
open Vm renaming aH->Ca,aL->Cb
open And renaming intro->Ai
open List renaming length_map->Lm,not_mem_nil->Ln,map_nil->Lo,map_cons->Lc,mem_cons->Lk
open Bool renaming not_false->Bf,not_true->Bt
def IM (l:List UInt8):List Int:=if 16384<l.length then [] else (cL l).getD []
def eC (z:Int):List V:=[.int .i64 z]
def GY (s p:List UInt8):preB s p=Lib.hasPrefix s p:=by
 unfold preB Lib.hasPrefix
 rw[Bool.eq_iff_iff]
 simp only[Bool.and_eq_true,decide_eq_true_eq,beq_iff_eq,List.isPrefixOf_iff_prefix,List.prefix_iff_eq_take]
 constructor
 ·rintro ⟨_,h⟩;exact h.symm
 ·intro h
  refine⟨?_,h.symm⟩
  have:=congrArg List.length h
  simp at this;omega
def IK {s:List UInt8}{p:Nat}(hp:p<s.length):one (s.drop p)=if ((bP s p).1=65533/\preB (s.drop p) [239,191,189]=false)\/k9 ((bP s p).1:Int)=false then none else some (((bP s p).1:Int),(bP s p).2):=by
 have hne:s.drop p≠[]:=by
  intro h
  have:=congrArg List.length h
  simp at this;omega
 have hd:bP s p=Lib.decodeL (s.drop p):=u7 ⟨s.toArray⟩ p
 rw[hd,GY]
 exact rS hne
def rune_le (s:List UInt8)(p:Nat):(bP s p).1<=2147483647:=decode_le _ _
def uB (l:List Int):(l.map eC).take l.length=l.map eC:=List.take_of_length_le (by simp)
def aB:Ob.isRow instCells=true:=rfl
def cR (l:List Int):plainLL (l.map eC)=true:=bR _ (fun _=>rfl) l
def Eg (σ:List (Nat×Nat))(l:List Int):Blk.ren σ ⟨1,l.map eC⟩=⟨1,l.map eC⟩:=Blk.ren_plain (cR l) rfl
def sP (s:List UInt8)(hs:s.length<=aS)(nm:Nat):Ev cx 125 nm [.str s] am.nil (.tup [.sl false 1 ((IM s).map eC),.int .i64 (az s)]) []:=by
 unfold aS at hs
 by_cases hbig:16384<s.length
 ·have he:az s=4:=by unfold az;rw[if_pos hbig]
  have hq:IM s=[]:=by unfold IM;rw[if_pos hbig]
  have hd:decide ((16384:Int)<s.length)=true:=cn
  refine aV call125 func125 rfl (by kernel_rfl) rfl ?_;intro b0 hb0;have zF:=Ai results125 ntmps125
  (repeat' first|simp only[aj,ag,zF,ap,he,hq,hd,Lo,ai,seval,ah]|exact rfl|refine aa (v:=.any) ?_|((first|apply Ca|apply Cb)<;>intro hb)|refine Ai (by omega) ?_|(apply Ai<;>intro hb)|refine Fin.pure ?_ ?_ ?_|simp only[al])
 ·have hd:decide ((16384:Int)<s.length)=false:=aR
  refine aV call125 func125 rfl (by kernel_rfl) rfl ?_;intro b0 hb0;have zF:=Ai results125 ntmps125
  repeat' first|simp only[aj,ag,zF,ap,hd,ai,seval,ah]|exact rfl|refine aa (v:=.any) ?_|(refine Ad (s:=?_) ?_ ?_ ?_;rotate_left 1;(iterate 2 (focus (simp only[zF,ap,hd,ai,seval,ah]<;>exact rfl))))|(refine bf ?_)|(refine aW ?_)|((first|apply Ca|apply Cb)<;>intro hb)|refine Ai (by omega) ?_|(apply Ai<;>intro hb)
  (refine ay bu (fun x:Nat×List Int=>s.length-x.1) (fun x=>x.1<=s.length/\x.2.length<=x.1/\cL s=(cL (s.drop x.1)).map (x.2 ++ ·)) (b0+16) (fun x=>[(0,.str s),(2,.own (b0+1) 0 x.2.length),(10,.ptr b0 0 0)]) (fun x=>[(b0,kZ s x.1),(b0+1,⟨1,x.2.map eC⟩)]) ((0,[])) [some (b0+96),none] ?_ ?_ ?_ ?_;rotate_left 1;(focus (show b0<=_;omega));(focus (refine⟨?_,?_⟩<;>(try simp only[aM,aB,wl,qI,cR,ai,seval,ah,al])<;>(try omega)));rotate_left 1)
  ·refine⟨Nat.zero_le _,Nat.le_refl _,?_⟩
   rw[List.drop_zero];cases cL s<;>rfl
  ·rintro ⟨p,zs⟩ ⟨h1,h2,h3⟩
   by_cases hp:p<s.length
   ·have ho:=IK hp
    have hne:s.drop p≠[]:=by
     intro h
     have:=congrArg List.length h
     simp at this;omega
    have hrl:=rune_le s p
    have hw:IntKind.i64.wrap ((bP s p).1:Int)=((bP s p).1:Int):=aK
    have hle:(s.drop p).length<=aS:=by unfold aS;simp;omega
    by_cases hbad:((bP s p).1=65533/\preB (s.drop p) [239,191,189]=false)\/k9 ((bP s p).1:Int)=false
    ·rw[if_pos hbad]at ho
     have hd0:cL s=none:=by
      have:=h3
      simp only at this
      rw[this,tA hne ho];rfl
     have he:az s=50:=by unfold az;rw[if_neg hbig,hd0]
     have hq:IM s=[]:=by unfold IM;rw[if_neg hbig,hd0];rfl
     cases hc:(((bP s p).1:Int)==65533)<;>cases hpr:preB (s.drop p) [239,191,189]<;>cases hm:k9 ((bP s p).1:Int)
     all_goals (try (exfalso;simp_all;done))
     all_goals ((repeat' first|simp only[aj,ag,zF,ap,he,hq,hp,hw,hc,hpr,hm,cR,Lo,List.length_drop,ai,seval,ah]|exact rfl|refine aa (v:=.any) ?_|(first|(refine ac ?_ (uk (s.drop p) [239,191,189] hle (by decide) _) ?_)|(refine ab ?_ (fun _=>uk (s.drop p) [239,191,189] hle (by decide) _) ?_)|(refine ac ?_ (pn ((bP s p).1:Int) _) ?_)|(refine ab ?_ (fun _=>pn ((bP s p).1:Int) _) ?_))|(refine vo (s:=?_) (y:=?_) (p:=?_) ?_ ?_ ?_ ?_;rotate_left 3;(iterate 2 (focus (simp only[zF,ap,he,hq,hp,hw,hc,hpr,hm,cR,Lo,List.length_drop,ai,seval,ah]<;>exact rfl)));(focus (simp only[zF,ap,he,hq,hp,hw,hc,hpr,hm,cR,Lo,List.length_drop,ai,seval,ah]<;>omega)))|(refine bf ?_)|(refine aW ?_)|((first|apply Ca|apply Cb)<;>intro hb)|refine Ai (by omega) ?_|(apply Ai<;>intro hb)|refine Fin.pure ?_ ?_ ?_|simp only[al]))
    ·rw[if_neg hbad]at ho
     obtain⟨_,hm,_,hk1,hk2⟩:=iw ho
     have hds:cL s=(cL (s.drop (p+(bP s p).2))).map ((zs++[((bP s p).1:Int)]) ++ ·):=by
      have:=h3
      simp only at this
      rw[this,jK ho,List.drop_drop]
      cases cL (s.drop (p+(bP s p).2))<;>simp
     have hlen:(s.drop p).length=s.length-p:=by simp
     have h2':zs.length<=p:=h2
     have hsn:zs.map eC++[[V.int .i64 ((bP s p).1:Int)]]=(zs++[((bP s p).1:Int)]).map eC:=by simp[eC]
     have hnx:p+(bP s p).2<=s.length:=by omega
     cases hc:(((bP s p).1:Int)==65533)<;>cases hpr:preB (s.drop p) [239,191,189]
     all_goals (try (exfalso;exact hbad (.inl ⟨by have:=beq_iff_eq.1 hc;omega,hpr⟩)))
     all_goals (repeat' first|simp only[aj,ag,zF,ap,hp,hw,hc,hpr,hm,cR,hsn,Lo,List.length_drop,Lm,Nat.le_refl,Option.bind_some,Option.bind_none,ai,seval,ah]|exact rfl|refine aa (v:=.any) ?_|(first|(refine ac ?_ (uk (s.drop p) [239,191,189] hle (by decide) _) ?_)|(refine ab ?_ (fun _=>uk (s.drop p) [239,191,189] hle (by decide) _) ?_)|(refine ac ?_ (pn ((bP s p).1:Int) _) ?_)|(refine ab ?_ (fun _=>pn ((bP s p).1:Int) _) ?_))|(refine vo (s:=?_) (y:=?_) (p:=?_) ?_ ?_ ?_ ?_;rotate_left 3;(iterate 2 (focus (simp only[zF,ap,hp,hw,hc,hpr,hm,cR,hsn,Lo,List.length_drop,Lm,Nat.le_refl,Option.bind_some,Option.bind_none,ai,seval,ah]<;>exact rfl)));(focus (simp only[zF,ap,hp,hw,hc,hpr,hm,cR,hsn,Lo,List.length_drop,Lm,Nat.le_refl,Option.bind_some,Option.bind_none,ai,seval,ah]<;>omega)))|(refine bf ?_)|(refine aW ?_)|((first|apply Ca|apply Cb)<;>intro hb)|refine Ai (by omega) ?_|(apply Ai<;>intro hb))
     all_goals ((refine au bu ((p+(bP s p).2,zs++[((bP s p).1:Int)])) [some b0,some (b0+416)] ?_ ?_ ?_ ?_;rotate_left 2;(focus (show b0<=_;omega));(focus (refine⟨?_,?_⟩<;>(try simp only[aM,aB,wl,qI,cR,hsn,Lm,List.length_append,List.length_cons,List.length_nil,Option.bind_some,Option.bind_none,ai,seval,ah,al])<;>(try omega)))))
     all_goals (first|(show s.length-(p+(bP s p).2)<s.length-p;omega)|exact⟨hnx,by simp;omega,hds⟩|skip)
   ·have hpe:p=s.length:=by omega
    subst hpe
    have he:az s=0:=by
     rw[List.drop_length,l7]at h3
     unfold az;rw[if_neg hbig,h3];rfl
    have hq:IM s=zs:=by
     rw[List.drop_length,l7]at h3
     unfold IM;rw[if_neg hbig,h3];simp
    (repeat' first|simp only[aj,ag,zF,ap,he,hq,cR,uB,aU,bd,Lm,Nat.le_refl,ai,seval,ah]|exact rfl|refine aa (v:=.any) ?_|(refine CM (s:=?_) (y:=?_) (p:=?_) ?_ ?_ ?_ ?_;rotate_left 3;(iterate 2 (focus (simp only[zF,ap,he,hq,cR,uB,aU,bd,Lm,Nat.le_refl,ai,seval,ah]<;>exact rfl)));(focus (simp only[zF,ap,he,hq,cR,uB,aU,bd,Lm,Nat.le_refl,ai,seval,ah]<;>omega)))|(refine bf ?_)|(refine aW ?_)|((first|apply Ca|apply Cb)<;>intro hb)|refine Ai (by omega) ?_|(apply Ai<;>intro hb)|refine Fin.pure ?_ ?_ ?_|simp only[al])
def cE (s:List UInt8)(hs:s.length<=aS)(nm:Nat):Ev cx 74 nm [.str s] am.nil (.int .i64 (az s)) []:=by
 refine aV call74 func74 rfl (by kernel_rfl) rfl ?_;intro b0 hb0
 (repeat' first|simp only[aj,ag,results74,ntmps74,ap,ai,seval,ah]|exact rfl|refine aa (v:=.any) ?_|(first|(refine ac ?_ (sP s hs _) ?_)|(refine ab ?_ (fun _=>sP s hs _) ?_))|((first|apply Ca|apply Cb)<;>intro hb)|refine Ai (by omega) ?_|(apply Ai<;>intro hb)|refine Fin.pure ?_ ?_ ?_|simp only[al])
def Gl (c:Int)(h0:0<=c)(h1:c<256)(nm:Nat):Ev cx 205 nm [.int .i64 c] am.nil (.tup [.int .i64 (fN c),.int .i64 (ij c)]) []:=by
 have w1:IntKind.i64.wrap (c-192)=c-192:=aK
 have w2:IntKind.i64.wrap (c-224)=c-224:=aK
 have w3:IntKind.i64.wrap (c-240)=c-240:=aK
 refine aV call205 func205 rfl (by kernel_rfl) rfl ?_;intro b0 hb0
 (repeat' first|simp only[aj,ag,results205,ntmps205,ap,w1,w2,w3,ai,seval,ah]|exact rfl|refine aa (v:=.any) ?_|((first|apply Ca|apply Cb)<;>intro hb)|refine Ai (by omega) ?_|(apply Ai<;>intro hb)|refine Fin.pure ?_ ?_ ?_|simp only[al])
 all_goals simp only[Bool.and_eq_true,Bool.and_eq_false_iff,decide_eq_true_eq,decide_eq_false_iff_not]at *
 all_goals (unfold fN ij;constructor<;>(repeat' split)<;>omega)
def sQ (n:Int):Bool:=if n<32 then (n==9||n==10||n==13) else (((decide (n<=1114111)&&(decide (n<55296)||decide (57343<n)))&&(n != 65534))&&(n != 65535))
def D9 (n:Int):sQ n=k9 n:=by
 unfold sQ
 rw[Bool.eq_iff_iff,gT]
 split<;>simp<;>omega
def kO (n:Int)(nm:Nat):Ev cx 206 nm [.int .i64 n] am.nil (.bool (k9 n)) []:=by
 rw[<- D9]
 by_cases h:n<32
 ·have hd:decide (n<32)=true:=decide_eq_true h
  have hr:sQ n=(n==9||n==10||n==13):=by unfold sQ;rw[if_pos h]
  refine aV call206 func206 rfl (by kernel_rfl) rfl ?_;intro b0 hb0
  (repeat' first|simp only[aj,ag,results206,ntmps206,ap,hd,hr,ai,seval,ah]|exact rfl|refine aa (v:=.any) ?_|((first|apply Ca|apply Cb)<;>intro hb)|refine Ai (by omega) ?_|(apply Ai<;>intro hb)|refine Fin.pure ?_ ?_ ?_|simp only[al])
 ·have hd:decide (n<32)=false:=decide_eq_false h
  have hr:sQ n=(((decide (n<=1114111)&&(decide (n<55296)||decide (57343<n)))&&(n != 65534))&&(n != 65535)):=by unfold sQ;rw[if_neg h]
  cases h1:decide (n<=1114111)<;>cases h2:decide (n<55296)<;>cases h3:decide (57343<n)<;>rw[h1,h2,h3]at hr<;>(
  refine aV call206 func206 rfl (by kernel_rfl) rfl ?_;intro b0 hb0
  (repeat' first|simp only[aj,ag,results206,ntmps206,ap,hd,hr,h1,h2,h3,ai,seval,ah]|exact rfl|refine aa (v:=.any) ?_|((first|apply Ca|apply Cb)<;>intro hb)|refine Ai (by omega) ?_|(apply Ai<;>intro hb)|refine Fin.pure ?_ ?_ ?_|simp only[al]))
def w7 (n:Int)(b:UInt8)(l:List UInt8):bL n (b::l)=bL (64*n+(b.toNat:Int) % 64) l:=rfl
def uX:∀(l:List UInt8) (n:Int),0<=n->0<=bL n l/\bL n l<(n+1)*64 ^ l.length
 | [],n,h=>by simp only[bL,List.foldl_nil,List.length_nil];omega
 | b::l,n,h=>by
  rw[w7]
  obtain⟨h1,h2⟩:=uX l (64*n+(b.toNat:Int) % 64) (by omega)
  refine⟨h1,Int.lt_of_lt_of_le h2 ?_⟩
  rw[List.length_cons,Int.pow_succ,Int.mul_comm (64 ^ l.length) 64,<- Int.mul_assoc]
  exact Int.mul_le_mul_of_nonneg_right (by omega) (Int.pow_nonneg (by omega))
def dY {z:Int}(h0:0<=z)(h1:z<256):aE (z.toNat.toUInt8)=[V.int .u8 z]:=by
 have:=dF h0 h1
 unfold aE
 rw[this]
 congr 2;omega
def yu (n:Int)(up:Nat)(h0:0<=n)(h1:n<=1114111)(hu:up<=2)(nm:Nat):Ev cx 227 nm [.int .i64 n,.int .i64 up] am.nil (.int .u8 (128+n / 64 ^ up % 64)) []:=by
 refine aV call227 func227 rfl (by kernel_rfl) rfl ?_;intro b0 hb0
 repeat' first|simp only[aj,ag,results227,ntmps227,ap,ai,seval,ah]|exact rfl|refine aa (v:=.any) ?_|((first|apply Ca|apply Cb)<;>intro hb)|refine Ai (by omega) ?_|(apply Ai<;>intro hb)
 (refine ay bu (fun x:Nat=>up-x) (fun x=>x<=up) (b0+16) (fun x=>[(0,.int .i64 (n / 64 ^ x)),(1,.int .i64 up),(5,.int .i64 x)]) (fun x=>[]) (0) [] ?_ ?_ ?_ ?_;rotate_left 1;(focus (show b0<=_;omega));(focus (refine⟨?_,?_⟩<;>(try simp only[aM,Int.pow_zero,Int.ediv_one,ai,seval,ah,al])<;>(try omega)));rotate_left 1)
 ·exact Nat.zero_le _
 ·intro k hk
  have hp:(0:Int)<=n / 64 ^ k:=Int.ediv_nonneg h0 (Int.pow_nonneg (by omega))
  have hp2:n / 64 ^ k<=n:=Int.ediv_le_self _ h0
  by_cases hlt:k<up
  ·have hd:decide (k<up)=true:=decide_eq_true hlt
   have ht:(n / 64 ^ k).tdiv 64=n / 64 ^ (k+1):=by
    rw[Int.tdiv_eq_ediv_of_nonneg hp,Int.pow_succ,Int.ediv_ediv_of_nonneg (Int.pow_nonneg (by omega))]
   have hw:IntKind.i64.wrap (n / 64 ^ (k+1))=n / 64 ^ (k+1):=by
    rw[<- ht,Int.tdiv_eq_ediv_of_nonneg hp]
    exact aK
   have hwk:IntKind.i64.wrap ((k:Int)+1)=((k+1:Nat):Int):=aK
   repeat' first|simp only[aj,ag,results227,ntmps227,ap,hd,ht,hw,hwk,ai,seval,ah]|exact rfl|refine aa (v:=.any) ?_|((first|apply Ca|apply Cb)<;>intro hb)|refine Ai (by omega) ?_|(apply Ai<;>intro hb)
   ((refine au bu (k+1) [] ?_ ?_ ?_ ?_;rotate_left 2;(focus (show b0<=_;omega));(focus (refine⟨?_,?_⟩<;>(try simp only[aM,hd,ht,hw,hwk,ai,seval,ah,al])<;>(try omega)))))
   all_goals (first|(show up-(k+1)<up-k;omega)|(show k+1<=up;omega)|skip)
  ·have hke:k=up:=by omega
   subst hke
   have hd:decide (k<k)=false:=aR
   have ht:(n / 64 ^ k).tmod 64=n / 64 ^ k % 64:=Int.tmod_eq_emod_of_nonneg hp
   have hw1:IntKind.i64.wrap (n / 64 ^ k % 64)=n / 64 ^ k % 64:=aK
   have hw2:IntKind.i64.wrap (128+n / 64 ^ k % 64)=128+n / 64 ^ k % 64:=aK
   have hw3:IntKind.u8.wrap (128+n / 64 ^ k % 64)=128+n / 64 ^ k % 64:=IntWalk.u8_in _ (by omega)
   (repeat' first|simp only[aj,ag,results227,ntmps227,ap,hd,ht,hw1,hw2,hw3,ai,seval,ah]|exact rfl|refine aa (v:=.any) ?_|((first|apply Ca|apply Cb)<;>intro hb)|refine Ai (by omega) ?_|(apply Ai<;>intro hb)|refine Fin.pure ?_ ?_ ?_|simp only[al])
def KS {z:Int}(h0:0<=z)(h1:z<=127):(encodeRune z).map aE=[[V.int .u8 z]]:=by
 simp only[encodeRune,encodeRuneZ_one h0 h1,Lc,Lo]
 rw[dY (by omega) (by omega)]
def KT {z:Int}(h0:128<=z)(h1:z<=2047):(encodeRune z).map aE=[[V.int .u8 (192+z / 64)],[V.int .u8 (128+z % 64)]]:=by
 simp only[encodeRune,encodeRuneZ_two h0 h1,Lc,Lo]
 rw[dY (by omega) (by omega),dY (by omega) (by omega)]
def KU {z:Int}(h0:(2048<=z/\z<55296)\/(57343<z/\z<=65535)):(encodeRune z).map aE=[[V.int .u8 (224+z / 4096)],[V.int .u8 (128+z / 64 % 64)],[V.int .u8 (128+z % 64)]]:=by
 simp only[encodeRune,encodeRuneZ_three h0,Lc,Lo]
 rw[dY (by omega) (by omega),dY (by omega) (by omega),dY (by omega) (by omega)]
def KV {z:Int}(h0:65536<=z)(h1:z<=1114111):(encodeRune z).map aE=[[V.int .u8 (240+z / 262144)],[V.int .u8 (128+z / 4096 % 64)],[V.int .u8 (128+z / 64 % 64)],[V.int .u8 (128+z % 64)]]:=by
 simp only[encodeRune,encodeRuneZ_four h0 h1,Lc,Lo]
 rw[dY (by omega) (by omega),dY (by omega) (by omega),dY (by omega) (by omega),dY (by omega) (by omega)]
def kN (n:Int)(hm:k9 n=true)(nm:Nat):Ev cx 207 nm [.int .i64 n] am.nil (.sl false 1 ((encodeRune n).map aE)) []:=by
 have hmz:=(gT n).1 hm
 have h0:0<=n:=by omega
 have hm1:n<=1114111:=by omega
 have q1:n.tdiv 64=n / 64:=Int.tdiv_eq_ediv_of_nonneg h0
 have q2:n.tdiv 4096=n / 4096:=Int.tdiv_eq_ediv_of_nonneg h0
 have q3:n.tdiv 262144=n / 262144:=Int.tdiv_eq_ediv_of_nonneg h0
 have w1:IntKind.i64.wrap (n / 64)=n / 64:=aK
 have w2:IntKind.i64.wrap (n / 4096)=n / 4096:=aK
 have w3:IntKind.i64.wrap (n / 262144)=n / 262144:=aK
 have u1:IntKind.i64.wrap (192+n / 64)=192+n / 64:=aK
 have u2:IntKind.i64.wrap (224+n / 4096)=224+n / 4096:=aK
 have u3:IntKind.i64.wrap (240+n / 262144)=240+n / 262144:=aK
 have s0:=yu n 0 h0 hm1 (by omega)
 have s1:=yu n 1 h0 hm1 (by omega)
 have s2:=yu n 2 h0 hm1 (by omega)
 simp only[Int.pow_zero,Int.ediv_one,Int.pow_one,Int.ofNat_zero,Int.ofNat_one,show(64:Int) ^ 1=64 from rfl,show(64:Int) ^ 2=4096 from rfl,show((0:Nat):Int)=0 from rfl,show((1:Nat):Int)=1 from rfl,show((2:Nat):Int)=2 from rfl]at s0 s1 s2
 by_cases c1:n<128
 ·have d1:decide (n<128)=true:=decide_eq_true c1
  have v1:IntKind.u8.wrap n=n:=IntWalk.u8_in _ (by omega)
  rw[KS h0 (by omega)]
  refine aV call207 func207 rfl (by kernel_rfl) rfl ?_;intro b0 hb0
  (repeat' first|simp only[aj,ag,results207,ntmps207,ap,d1,v1,ai,seval,ah]|exact rfl|refine aa (v:=.any) ?_|((first|apply Ca|apply Cb)<;>intro hb)|refine Ai (by omega) ?_|(apply Ai<;>intro hb)|refine Fin.pure ?_ ?_ ?_|simp only[al])
 by_cases c2:n<2048
 ·have d1:decide (n<128)=false:=decide_eq_false c1
  have d2:decide (n<2048)=true:=decide_eq_true c2
  have v1:IntKind.u8.wrap (192+n / 64)=192+n / 64:=IntWalk.u8_in _ (by omega)
  rw[KT (by omega) (by omega)]
  refine aV call207 func207 rfl (by kernel_rfl) rfl ?_;intro b0 hb0
  (repeat' first|simp only[aj,ag,results207,ntmps207,ap,d1,d2,q1,w1,u1,v1,ai,seval,ah]|exact rfl|refine aa (v:=.any) ?_|(first|(refine ac ?_ (s0 _) ?_)|(refine ab ?_ (fun _=>s0 _) ?_))|((first|apply Ca|apply Cb)<;>intro hb)|refine Ai (by omega) ?_|(apply Ai<;>intro hb)|refine Fin.pure ?_ ?_ ?_|simp only[al])
 by_cases c3:n<65536
 ·have d1:decide (n<128)=false:=decide_eq_false c1
  have d2:decide (n<2048)=false:=decide_eq_false c2
  have d3:decide (n<65536)=true:=decide_eq_true c3
  have v1:IntKind.u8.wrap (224+n / 4096)=224+n / 4096:=IntWalk.u8_in _ (by omega)
  rw[KU (by omega)]
  refine aV call207 func207 rfl (by kernel_rfl) rfl ?_;intro b0 hb0
  (repeat' first|simp only[aj,ag,results207,ntmps207,ap,d1,d2,d3,q2,w2,u2,v1,ai,seval,ah]|exact rfl|refine aa (v:=.any) ?_|((first|(refine ac ?_ (s0 _) ?_)|(refine ab ?_ (fun _=>s0 _) ?_));(focus (simp only[results207,ntmps207,ap,d1,d2,d3,q2,w2,u2,v1,ai,seval,ah]<;>exact rfl)))|((first|(refine ac ?_ (s1 _) ?_)|(refine ab ?_ (fun _=>s1 _) ?_));(focus (simp only[results207,ntmps207,ap,d1,d2,d3,q2,w2,u2,v1,ai,seval,ah]<;>exact rfl)))|((first|apply Ca|apply Cb)<;>intro hb)|refine Ai (by omega) ?_|(apply Ai<;>intro hb)|refine Fin.pure ?_ ?_ ?_|simp only[al])
 ·have d1:decide (n<128)=false:=decide_eq_false c1
  have d2:decide (n<2048)=false:=decide_eq_false c2
  have d3:decide (n<65536)=false:=decide_eq_false c3
  have v1:IntKind.u8.wrap (240+n / 262144)=240+n / 262144:=IntWalk.u8_in _ (by omega)
  rw[KV (by omega) (by omega)]
  refine aV call207 func207 rfl (by kernel_rfl) rfl ?_;intro b0 hb0
  (repeat' first|simp only[aj,ag,results207,ntmps207,ap,d1,d2,d3,q3,w3,u3,v1,ai,seval,ah]|exact rfl|refine aa (v:=.any) ?_|((first|(refine ac ?_ (s0 _) ?_)|(refine ab ?_ (fun _=>s0 _) ?_));(focus (simp only[results207,ntmps207,ap,d1,d2,d3,q3,w3,u3,v1,ai,seval,ah]<;>exact rfl)))|((first|(refine ac ?_ (s1 _) ?_)|(refine ab ?_ (fun _=>s1 _) ?_));(focus (simp only[results207,ntmps207,ap,d1,d2,d3,q3,w3,u3,v1,ai,seval,ah]<;>exact rfl)))|((first|(refine ac ?_ (s2 _) ?_)|(refine ab ?_ (fun _=>s2 _) ?_));(focus (simp only[results207,ntmps207,ap,d1,d2,d3,q3,w3,u3,v1,ai,seval,ah]<;>exact rfl)))|((first|apply Ca|apply Cb)<;>intro hb)|refine Ai (by omega) ?_|(apply Ai<;>intro hb)|refine Fin.pure ?_ ?_ ?_|simp only[al])
def GQ (bs:List UInt8):((bs.map aE).all fun r=>r.all V.one)=true:=by
 rw[List.all_eq_true]
 intro r hr
 obtain⟨c,_,rfl⟩:=List.mem_map.1 hr
 rfl
def vQ (t:TypeId):(Ob.typed t).isRow=true:=rfl
def LF (s:Nat)(r:List (List V))(t:TypeId):Blk.ty (@Blk.mk s r (.typed t))=some t:=rfl
def yl (σ:List (Nat×Nat))(bs:List UInt8)(t:TypeId):Blk.ren σ (@Blk.mk 1 (bs.map aE) (.typed t)) = @Blk.mk 1 (bs.map aE) (.typed t):=by
 have h:plainLL (bs.map aE)=true:=bR _ (fun _=>rfl) bs
 simp only[Blk.ren,fT,h,if_true]
def uq (σ:List (Nat×Nat))(bs:List UInt8)(t:TypeId):Blk.renOk σ (@Blk.mk 1 (bs.map aE) (.typed t))=true:=by
 have h:plainLL (bs.map aE)=true:=bR _ (fun _=>rfl) bs
 simp only[Blk.renOk,ek,h,Bool.true_or,Bool.true_and]
 rfl
def w9 {n:Int}{l:List UInt8}{k:Nat}{b:UInt8}(h:l[k]? = some b):bL n (l.take (k+1))=64*bL n (l.take k)+(b.toNat:Int) % 64:=by
 obtain⟨hk,rfl⟩:=List.getElem?_eq_some_iff.1 h
 rw[List.take_succ_eq_append_getElem hk,w8]
def zY (n:Int):bL n []=n:=rfl
def zg:one []=none:=rfl
def iv {s:List UInt8}(h:one s=none):DP s=0:=by unfold DP;rw[h]
def iu {s:List UInt8}(h:one s=none):DO s=0:=by unfold DO;rw[h]
def sI {s:List UInt8}{z:Int}{k:Nat}(h:one s=some (z,k)):DP s=z:=by unfold DP;rw[h]
def sH {s:List UInt8}{z:Int}{k:Nat}(h:one s=some (z,k)):DO s=k:=by unfold DO;rw[h]
def pk (s:List UInt8)(hs:s.length<=aS)(nm:Nat):Ev cx 176 nm [.str s] am.nil (.tup [.int .i64 (DP s),.int .i64 (DO s)]) []:=by
 unfold aS at hs
 by_cases hne:s=[]
 ·subst hne
  have e1:=iv zg
  have e2:=iu zg
  have hd:(([]:List UInt8)==[])=true:=rfl
  refine aV call176 func176 rfl (by kernel_rfl) rfl ?_;intro b0 hb0;have zF:=Ai results176 ntmps176
  (repeat' first|simp only[aj,ag,zF,ap,e1,e2,hd,ai,seval,ah]|exact rfl|refine aa (v:=.any) ?_|refine aq (ps:=[(5,9)]) (by decide +kernel) (by simp only[List.forall_mem_cons,List.getD_cons_zero,List.getD_cons_succ,zF,ap,e1,e2,hd,ai,seval,ah]<;>(try simp)<;>(try omega)) ?_|refine ao (by decide +kernel) ?_|((first|apply Ca|apply Cb)<;>intro hb)|refine Ai (by omega) ?_|(apply Ai<;>intro hb)|refine Fin.pure ?_ ?_ ?_|simp only[al])
 obtain⟨b,l,rfl⟩:=List.exists_cons_of_ne_nil hne
 have hd:((b::l)==[])=false:=rfl
 have hb:(b.toNat:Int)<256:=by have:=b.toNat_lt;omega
 have hb0:(0:Int)<=(b.toNat:Int):=by omega
 have hwb:IntKind.i64.wrap (b.toNat:Int)=(b.toNat:Int):=aK
 obtain⟨hr1,hr2⟩:=vM (b.toNat:Int)
 obtain⟨hn1,hn2,hn3⟩:=vL (c:=(b.toNat:Int)) ⟨hb0,hb⟩
 have hhd:=Gl (b.toNat:Int) hb0 hb
 obtain⟨k,hk⟩:∃ k:Nat,fN (b.toNat:Int)=k:=⟨(fN (b.toNat:Int)).toNat,by omega⟩
 have hk4:k<=4:=by omega
 rw[hk]at hhd
 generalize hN:ij (b.toNat:Int)=n0 at hhd hn1 hn2 hn3
 by_cases hbad:k=0\/(b::l).length<k
 ·have ho:one (b::l)=none:=xY hk (by rcases hbad with h|h;exact .inl h;exact .inr (.inl h))
  have e1:=iv ho
  have e2:=iu ho
  by_cases h0:k=0
  ·subst h0
   refine aV call176 func176 rfl (by kernel_rfl) rfl ?_;intro b0 hb0;have zF:=Ai results176 ntmps176
   (repeat' first|simp only[aj,ag,zF,ap,e1,e2,hd,hwb,ai,seval,ah]|exact rfl|refine aa (v:=.any) ?_|(first|(refine ac ?_ (hhd _) ?_)|(refine ab ?_ (fun _=>hhd _) ?_))|refine aq (ps:=[(5,9)]) (by decide +kernel) (by simp only[List.forall_mem_cons,List.getD_cons_zero,List.getD_cons_succ,zF,ap,e1,e2,hd,hwb,ai,seval,ah]<;>(try simp)<;>(try omega)) ?_|refine ao (by decide +kernel) ?_|((first|apply Ca|apply Cb)<;>intro hb)|refine Ai (by omega) ?_|(apply Ai<;>intro hb)|refine Fin.pure ?_ ?_ ?_|simp only[al])
  ·have hg:decide (l.length+1<k)=true:=decide_eq_true (by simpa using hbad.resolve_left h0)
   have hg0:((k:Int)==0)=false:=beq_false_of_ne (by omega)
   refine aV call176 func176 rfl (by kernel_rfl) rfl ?_;intro b0 hb0;have zF:=Ai results176 ntmps176
   (repeat' first|simp only[aj,ag,zF,ap,e1,e2,hd,hwb,hg,hg0,List.length_cons,ai,seval,ah]|exact rfl|refine aa (v:=.any) ?_|(first|(refine ac ?_ (hhd _) ?_)|(refine ab ?_ (fun _=>hhd _) ?_))|refine aq (ps:=[(5,9)]) (by decide +kernel) (by simp only[List.forall_mem_cons,List.getD_cons_zero,List.getD_cons_succ,zF,ap,e1,e2,hd,hwb,hg,hg0,List.length_cons,ai,seval,ah]<;>(try simp)<;>(try omega)) ?_|refine ao (by decide +kernel) ?_|((first|apply Ca|apply Cb)<;>intro hb)|refine Ai (by omega) ?_|(apply Ai<;>intro hb)|refine Fin.pure ?_ ?_ ?_|simp only[al])
 ·have hg:decide (l.length+1<k)=false:=decide_eq_false (by simp at hbad;omega)
  have hg0:((k:Int)==0)=false:=beq_false_of_ne (by omega)
  have hkl:k<=l.length+1:=by simp at hbad;omega
  have hk1:1<=k:=by omega
  simp only[List.length_cons]at hs
  refine aV call176 func176 rfl (by kernel_rfl) rfl ?_;intro b0 hb0;have zF:=Ai results176 ntmps176
  repeat' first|simp only[aj,ag,zF,ap,hd,hwb,hg,hg0,List.length_cons,ai,seval,ah]|exact rfl|refine aa (v:=.any) ?_|(first|(refine ac ?_ (hhd _) ?_)|(refine ab ?_ (fun _=>hhd _) ?_))|refine aq (ps:=[(5,9)]) (by decide +kernel) (by simp only[List.forall_mem_cons,List.getD_cons_zero,List.getD_cons_succ,zF,ap,hd,hwb,hg,hg0,List.length_cons,ai,seval,ah]<;>(try simp)<;>(try omega)) ?_|refine ao (by decide +kernel) ?_|refine Ai (by omega) ?_
  (refine ay bu (fun x:Nat=>k-x) (fun x=>1<=x/\x<=k) (b0+16) (fun x=>[(0,.str (b::l)),(4,.int .i64 k),(5,.int .i64 (bL n0 (l.take (x-1)))),(6,.int .i64 x)]) (fun x=>[]) (1) [] ?_ ?_ ?_ ?_;rotate_left 1;(focus (show b0<=_;omega));(focus (refine⟨?_,?_⟩<;>(try simp only[aM,List.take_zero,zY,ai,seval,ah,al])<;>(try omega)));rotate_left 1)
  ·exact⟨Nat.le_refl _,hk1⟩
  ·rintro i ⟨hi1,hi2⟩
   by_cases hlt:i<k
   ·have hdi:decide (i<k)=true:=decide_eq_true hlt
    obtain⟨j,rfl⟩:∃ j,i=j+1:=⟨i-1,by omega⟩
    simp only[Nat.add_sub_cancel]at *
    obtain⟨c,hc⟩:∃ c,l[j]? = some c:=⟨_,List.getElem?_eq_getElem (by omega)⟩
    have hcs:bL n0 (l.take (j+1))=64*bL n0 (l.take j)+(c.toNat:Int) % 64:=w9 hc
    have hcl:=uX (l.take j) n0 hn1
    have hj2:(l.take j).length=j:=by rw[List.length_take];omega
    rw[hj2]at hcl
    have hj3:j<=2:=by omega
    have hn31:n0<=31:=by
     refine hn3 ?_
     omega
    have hpw:(n0+1)*64 ^ j<=131072:=by
     rcases(show j=0\/j=1\/j=2 by omega) with rfl|rfl|rfl<;>simp only[Int.pow_zero,Int.pow_one,show(64:Int) ^ 1=64 from rfl,show(64:Int) ^ 2=4096 from rfl]<;>omega
    have hcw:(c.toNat:Int)<256:=by have:=c.toNat_lt;omega
    have hcm:(c.toNat:Int).tmod 64=(c.toNat:Int) % 64:=Int.tmod_eq_emod_of_nonneg (by omega)
    have w1:IntKind.i64.wrap (64*bL n0 (l.take j))=64*bL n0 (l.take j):=aK
    have w2:IntKind.i64.wrap (c.toNat:Int)=(c.toNat:Int):=aK
    have w3:IntKind.i64.wrap ((c.toNat:Int) % 64)=(c.toNat:Int) % 64:=aK
    have w4:IntKind.i64.wrap (64*bL n0 (l.take j)+(c.toNat:Int) % 64)=bL n0 (l.take (j+1)):=by
     rw[hcs];exact aK
    have w5:IntKind.i64.wrap (((j+1:Nat):Int)+1)=((j+1+1:Nat):Int):=aK
    repeat' first|simp only[aj,ag,zF,ap,hdi,hc,hcm,w1,w2,w3,w4,w5,List.getElem?_cons_succ,List.length_cons,ai,seval,ah]|exact rfl|refine aa (v:=.any) ?_|refine aq (ps:=[(5,9)]) (by decide +kernel) (by simp only[List.forall_mem_cons,List.getD_cons_zero,List.getD_cons_succ,zF,ap,hdi,hc,hcm,w1,w2,w3,w4,w5,List.getElem?_cons_succ,List.length_cons,ai,seval,ah]<;>(try simp)<;>(try omega)) ?_|refine ao (by decide +kernel) ?_|((first|apply Ca|apply Cb)<;>intro hb)|refine Ai (by omega) ?_|(apply Ai<;>intro hb)
    ((refine au bu (j+1+1) [] ?_ ?_ ?_ ?_;rotate_left 2;(focus (show b0<=_;omega));(focus (refine⟨?_,?_⟩<;>(try simp only[aM,hdi,hcm,w1,w2,w3,w4,w5,Nat.add_sub_cancel,show j+2-1=j+1 from rfl,ai,seval,ah,al])<;>(try omega)))))
    all_goals (first|(show k-(j+1+1)<k-(j+1);omega)|(show 1<=j+1+1/\j+1+1<=k;omega)|skip)
   ·have hke:i=k:=by omega
    subst hke
    have hdi:decide (i<i)=false:=aR
    cases hm:k9 (bL n0 (l.take (i-1))) with
    | false =>
     have ho:one (b::l)=none:=xY hk (.inr (.inr ⟨by simp only[List.length_cons];exact hkl,fun n hn hmn=>by rw[hn,hN,hm]at hmn;cases hmn⟩))
     have e1:=iv ho
     have e2:=iu ho
     (repeat' first|simp only[aj,ag,zF,ap,hdi,e1,e2,ai,seval,ah]|exact rfl|refine aa (v:=.any) ?_|(first|(refine ac ?_ ((by have:=kO (bL n0 (l.take (i-1)));rw[hm]at this;exact this _)) ?_)|(refine ab ?_ (fun _=>(by have:=kO (bL n0 (l.take (i-1)));rw[hm]at this;exact this _)) ?_))|(refine aa (v:=.any) ?_)|(refine fh (v:=?_) (bs:=?_) ?_ ?_ ?_ ?_ ?_ ?_ ?_;rotate_left 2;(iterate 2 (focus (simp only[zF,ap,hdi,e1,e2,ai,seval,ah];done)));(focus (simp only[zF,ap,hdi,e1,e2,ai,seval,ah]<;>exact rfl));(focus (exact rfl));(focus (simp only[ag,zF,ap,hdi,e1,e2,ai,seval,ah];done));(focus (simp only[zF,ap,hdi,e1,e2,ai,seval,ah]<;>exact rfl)))|(refine bf ?_)|(refine aW ?_)|refine aq (ps:=[(5,9)]) (by decide +kernel) (by simp only[List.forall_mem_cons,List.getD_cons_zero,List.getD_cons_succ,zF,ap,hdi,e1,e2,ai,seval,ah]<;>(try simp)<;>(try omega)) ?_|refine ao (by decide +kernel) ?_|((first|apply Ca|apply Cb)<;>intro hb)|refine Ai (by omega) ?_|(apply Ai<;>intro hb)|refine Fin.pure ?_ ?_ ?_|simp only[al])
    | true =>
     have hc0:((l.length:Int)+1)=((l.length+1:Nat):Int):=by omega
     have hsl:(i:Int)<=((l.length+1:Nat):Int):=by omega
     have hnn:i<=(b::l).length:=by simp only[List.length_cons];exact hkl
     by_cases heq:encodeRune (bL n0 (l.take (i-1)))=(b::l).take i
     ·have ho:one (b::l)=some (bL n0 (l.take (i-1)),i):=GT hm heq hnn
      have e1:=sI ho
      have e2:=sH ho
      have hq:(encodeRune (bL n0 (l.take (i-1)))==(b::l).take i)=true:=by rw[heq];simp
      (repeat' first|simp only[aj,ag,zF,ap,hdi,e1,e2,hq,hnn,hsl,hkl,ai,seval,ah]|exact rfl|refine aa (v:=.any) ?_|(first|(refine ac ?_ ((by have:=kO (bL n0 (l.take (i-1)));rw[hm]at this;exact this _)) ?_)|(refine ab ?_ (fun _=>(by have:=kO (bL n0 (l.take (i-1)));rw[hm]at this;exact this _)) ?_)|(refine ac ?_ (kN (bL n0 (l.take (i-1))) hm _) ?_)|(refine ab ?_ (fun _=>kN (bL n0 (l.take (i-1))) hm _) ?_))|(refine fh (v:=?_) (bs:=?_) ?_ ?_ ?_ ?_ ?_ ?_ ?_;rotate_left 2;(iterate 2 (focus (simp only[zF,ap,hdi,e1,e2,hq,hnn,hsl,hkl,ai,seval,ah];done)));(focus (simp only[zF,ap,hdi,e1,e2,hq,hnn,hsl,hkl,ai,seval,ah]<;>exact rfl));(focus (exact rfl));(focus (simp only[ag,zF,ap,hdi,e1,e2,hq,hnn,hsl,hkl,ai,seval,ah];done));(focus (simp only[zF,ap,hdi,e1,e2,hq,hnn,hsl,hkl,ai,seval,ah]<;>exact rfl)))|(refine bf ?_)|(refine aW ?_)|refine aq (ps:=[(5,9)]) (by decide +kernel) (by simp only[List.forall_mem_cons,List.getD_cons_zero,List.getD_cons_succ,zF,ap,hdi,e1,e2,hq,hnn,hsl,hkl,ai,seval,ah]<;>(try simp)<;>(try omega)) ?_|refine ao (by decide +kernel) ?_|((first|apply Ca|apply Cb)<;>intro hb)|refine Ai (by omega) ?_|(apply Ai<;>intro hb)|refine Fin.pure ?_ ?_ ?_|simp only[al])
     ·have ho:one (b::l)=none:=xY hk (.inr (.inr ⟨hnn,fun n hn _=>by rw[hn,hN];exact heq⟩))
      have e1:=iv ho
      have e2:=iu ho
      have hq:(encodeRune (bL n0 (l.take (i-1)))==(b::l).take i)=false:=beq_false_of_ne heq
      (repeat' first|simp only[aj,ag,zF,ap,hdi,e1,e2,hq,hnn,hsl,hkl,ai,seval,ah]|exact rfl|refine aa (v:=.any) ?_|(first|(refine ac ?_ ((by have:=kO (bL n0 (l.take (i-1)));rw[hm]at this;exact this _)) ?_)|(refine ab ?_ (fun _=>(by have:=kO (bL n0 (l.take (i-1)));rw[hm]at this;exact this _)) ?_)|(refine ac ?_ (kN (bL n0 (l.take (i-1))) hm _) ?_)|(refine ab ?_ (fun _=>kN (bL n0 (l.take (i-1))) hm _) ?_))|(refine fh (v:=?_) (bs:=?_) ?_ ?_ ?_ ?_ ?_ ?_ ?_;rotate_left 2;(iterate 2 (focus (simp only[zF,ap,hdi,e1,e2,hq,hnn,hsl,hkl,ai,seval,ah];done)));(focus (simp only[zF,ap,hdi,e1,e2,hq,hnn,hsl,hkl,ai,seval,ah]<;>exact rfl));(focus (exact rfl));(focus (simp only[ag,zF,ap,hdi,e1,e2,hq,hnn,hsl,hkl,ai,seval,ah];done));(focus (simp only[zF,ap,hdi,e1,e2,hq,hnn,hsl,hkl,ai,seval,ah]<;>exact rfl)))|(refine bf ?_)|(refine aW ?_)|refine aq (ps:=[(5,9)]) (by decide +kernel) (by simp only[List.forall_mem_cons,List.getD_cons_zero,List.getD_cons_succ,zF,ap,hdi,e1,e2,hq,hnn,hsl,hkl,ai,seval,ah]<;>(try simp)<;>(try omega)) ?_|refine ao (by decide +kernel) ?_|((first|apply Ca|apply Cb)<;>intro hb)|refine Ai (by omega) ?_|(apply Ai<;>intro hb)|refine Fin.pure ?_ ?_ ?_|simp only[al])
def zl (s:List UInt8)(hs:s.length<=16384)(nm:Nat):Ev cx 138 nm [.str s] am.nil (.tup [.sl false 1 (((cL s).getD []).map eC),.bool (cL s).isSome]) []:=by
 refine aV call138 func138 rfl (by kernel_rfl) rfl ?_;intro b0 hb0;have zF:=Ai results138 ntmps138
 repeat' first|simp only[aj,ag,zF,ap,ai,seval,ah]|exact rfl|refine aa (v:=.any) ?_|((first|apply Ca|apply Cb)<;>intro hb)|refine Ai (by omega) ?_|(apply Ai<;>intro hb)
 (refine ay bu (fun x:List UInt8×List Int=>x.1.length) (fun x=>x.1.length+x.2.length<=s.length/\cL s=(cL x.1).map (x.2 ++ ·)) (b0+16) (fun x=>[(0,.str x.1),(4,.own b0 0 x.2.length)]) (fun x=>[(b0,⟨1,x.2.map eC⟩)]) ((s,[])) [none] ?_ ?_ ?_ ?_;rotate_left 1;(focus (show b0<=_;omega));(focus (refine⟨?_,?_⟩<;>(try simp only[aM,aB,cR,Lo,ai,seval,ah,al])<;>(try omega)));rotate_left 1)
 ·refine⟨by simp,?_⟩
  cases cL s<;>rfl
 ·rintro ⟨r,zs⟩ ⟨h1,h2⟩
  simp only at h1 h2
  have hr:r.length<=aS:=by unfold aS;omega
  by_cases hne:r=[]
  ·subst hne
   have hd:(([]:List UInt8)==[])=true:=rfl
   have e0:cL s=some zs:=by rw[h2,l7];simp
   have e1:(cL s).isSome=true:=by rw[e0];rfl
   have e2:(cL s).getD []=zs:=by rw[e0];rfl
   (repeat' first|simp only[aj,ag,zF,ap,hd,e1,e2,cR,uB,aU,bd,Lm,Nat.le_refl,ai,seval,ah]|exact rfl|refine aa (v:=.any) ?_|((first|apply Ca|apply Cb)<;>intro hb)|refine Ai (by omega) ?_|(apply Ai<;>intro hb)|refine Fin.pure ?_ ?_ ?_|simp only[al])
  ·have hd:(r==[])=false:=beq_false_of_ne hne
   cases ho:one r with
   | none =>
    have k1:=iv ho
    have k2:=iu ho
    have e0:cL s=none:=by rw[h2,tA hne ho];rfl
    have e1:(cL s).isSome=false:=by rw[e0];rfl
    have e2:(cL s).getD []=[]:=by rw[e0];rfl
    (repeat' first|simp only[aj,ag,zF,ap,hd,e1,e2,k1,k2,cR,Lo,ai,seval,ah]|exact rfl|refine aa (v:=.any) ?_|(first|(refine ac ?_ (pk r hr _) ?_)|(refine ab ?_ (fun _=>pk r hr _) ?_))|((first|apply Ca|apply Cb)<;>intro hb)|refine Ai (by omega) ?_|(apply Ai<;>intro hb)|refine Fin.pure ?_ ?_ ?_|simp only[al])
   | some p =>
    obtain⟨z,k⟩:=p
    obtain⟨_,hm,_,hk1,hk2⟩:=iw ho
    have k1:=sI ho
    have k2:=sH ho
    have hk0:((k:Int)==0)=false:=beq_false_of_ne (by omega)
    have hds:cL s=(cL (r.drop k)).map ((zs++[z]) ++ ·):=by
     rw[h2,jK ho]
     cases cL (r.drop k)<;>simp
    have hlen:(r.drop k).length=r.length-k:=by simp
    have hsn:zs.map eC++[[V.int .i64 z]]=(zs++[z]).map eC:=by simp[eC]
    repeat' first|simp only[aj,ag,zF,ap,hd,hk0,k1,k2,hk2,cR,hsn,Lo,Lm,Nat.le_refl,Option.bind_some,Option.bind_none,ai,seval,ah]|exact rfl|refine aa (v:=.any) ?_|(first|(refine ac ?_ (pk r hr _) ?_)|(refine ab ?_ (fun _=>pk r hr _) ?_))|((first|apply Ca|apply Cb)<;>intro hb)|refine Ai (by omega) ?_|(apply Ai<;>intro hb)
    ((refine au bu ((r.drop k,zs++[z])) [some (b0+240)] ?_ ?_ ?_ ?_;rotate_left 2;(focus (show b0<=_;omega));(focus (refine⟨?_,?_⟩<;>(try simp only[aM,aB,cR,Eg,List.length_append,List.length_cons,List.length_nil,ai,seval,ah,al])<;>(try omega)))))
    all_goals (first|(show(r.drop k).length<r.length;omega)|exact⟨by simp only[List.length_append,List.length_cons,List.length_nil];omega,hds⟩|skip)
def D6 (s:List UInt8)(hs:s.length<=16384)(nm:Nat):Ev cx 91 nm [.str s] am.nil (.bool (cL s).isSome) []:=by
 refine aV call91 func91 rfl (by kernel_rfl) rfl ?_;intro b0 hb0
 (repeat' first|simp only[aj,ag,results91,ntmps91,ap,ai,seval,ah]|exact rfl|refine aa (v:=.any) ?_|(first|(refine ac ?_ (zl s hs _) ?_)|(refine ab ?_ (fun _=>zl s hs _) ?_))|((first|apply Ca|apply Cb)<;>intro hb)|refine Ai (by omega) ?_|(apply Ai<;>intro hb)|refine Fin.pure ?_ ?_ ?_|simp only[al])
def fw (s:List UInt8)(hs:s.length<=aS)(nm:Nat):Ev cx 50 nm [.str s] am.nil (.int .i64 (az s)) []:=by
 unfold aS at hs
 by_cases hb:16384<s.length
 ·have hd:decide ((16384:Int)<s.length)=true:=cn
  have he:az s=4:=by unfold az;rw[if_pos hb]
  refine aV call50 func50 rfl (by kernel_rfl) rfl ?_;intro b0 hb0
  (repeat' first|simp only[aj,ag,results50,ntmps50,ap,hd,he,ai,seval,ah]|exact rfl|refine aa (v:=.any) ?_|((first|apply Ca|apply Cb)<;>intro hb)|refine Ai (by omega) ?_|(apply Ai<;>intro hb)|refine Fin.pure ?_ ?_ ?_|simp only[al])
 ·have hd:decide ((16384:Int)<s.length)=false:=aR
  cases hq:cL s with
  | none =>
   have he:az s=50:=by unfold az;rw[if_neg hb,hq]
   have hi:(cL s).isSome=false:=by rw[hq];rfl
   have hev:=D6 s (by omega)
   rw[hi]at hev
   refine aV call50 func50 rfl (by kernel_rfl) rfl ?_;intro b0 hb0
   (repeat' first|simp only[aj,ag,results50,ntmps50,ap,hd,he,ai,seval,ah]|exact rfl|refine aa (v:=.any) ?_|(first|(refine ac ?_ (hev _) ?_)|(refine ab ?_ (fun _=>hev _) ?_))|((first|apply Ca|apply Cb)<;>intro hb)|refine Ai (by omega) ?_|(apply Ai<;>intro hb)|refine Fin.pure ?_ ?_ ?_|simp only[al])
  | some zs =>
   have he:az s=0:=by unfold az;rw[if_neg hb,hq]
   have hi:(cL s).isSome=true:=by rw[hq];rfl
   have hev:=D6 s (by omega)
   rw[hi]at hev
   refine aV call50 func50 rfl (by kernel_rfl) rfl ?_;intro b0 hb0
   (repeat' first|simp only[aj,ag,results50,ntmps50,ap,hd,he,ai,seval,ah]|exact rfl|refine aa (v:=.any) ?_|(first|(refine ac ?_ (hev _) ?_)|(refine ab ?_ (fun _=>hev _) ?_))|((first|apply Ca|apply Cb)<;>intro hb)|refine Ai (by omega) ?_|(apply Ai<;>intro hb)|refine Fin.pure ?_ ?_ ?_|simp only[al])
end Go.Proofs.YtlnlopnpcmahgaaGreatDoor
