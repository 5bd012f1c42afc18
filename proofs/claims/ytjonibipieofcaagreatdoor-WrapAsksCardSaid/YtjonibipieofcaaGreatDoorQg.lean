/-
 Texts joined: XEc,XEd,XEh,XEt,XEi,XGc,XGd.
-/
import Derived.Test.YtjonibipieofcaaGreatDoorQf
set_option linter.all false
namespace Go.Proofs.YtjonibipieofcaaGreatDoor
set_option maxRecDepth 100000
set_option maxHeartbeats 32000000
open Go Go.RowKit Vm Go.Lib Tryz
open Vm renaming aI->Ca,aP->Cb
open And renaming intro->Ai
open List renaming length_map->Lm,not_mem_nil->Ln,map_nil->Lo,map_cons->Lc,mem_cons->Lk
open Bool renaming not_false->Bf,not_true->Bt
def MW (l:List UInt8):List Int:=if 16384<l.length then [] else (dp l).getD []
def cH (z:Int):List V:=[.int .i64 z]
def Kz (s p:List UInt8):preB s p=Lib.hasPrefix s p:=by
 unfold preB Lib.hasPrefix
 rw[Bool.eq_iff_iff]
 simp only[Bool.and_eq_true,decide_eq_true_eq,beq_iff_eq,List.isPrefixOf_iff_prefix,List.prefix_iff_eq_take]
 constructor
 ·rintro ⟨_,h⟩;exact h.symm
 ·intro h
  refine⟨?_,h.symm⟩
  have:=congrArg List.length h
  simp at this;omega
def MU {s:List UInt8}{p:Nat}(hp:p<s.length):one (s.drop p)=if ((bx s p).1=65533/\preB (s.drop p) [239,191,189]=false)\/mW ((bx s p).1:Int)=false then none else some (((bx s p).1:Int),(bx s p).2):=by
 have hne:s.drop p≠[]:=by
  intro h
  have:=congrArg List.length h
  simp at this;omega
 have hd:bx s p=Lib.decodeL (s.drop p):=xI ⟨s.toArray⟩ p
 rw[hd,Kz]
 exact ul hne
def rune_le (s:List UInt8)(p:Nat):(bx s p).1<=2147483647:=decode_le _ _
def w8 (l:List Int):(l.map cH).take l.length=l.map cH:=List.take_of_length_le (by simp)
def al:Ob.isRow instCells=true:=rfl
def cR (l:List Int):plainLL (l.map cH)=true:=ce _ (fun _=>rfl) l
def Ht (σ:List (Nat×Nat))(l:List Int):Blk.ren σ ⟨1,l.map cH⟩=⟨1,l.map cH⟩:=Blk.ren_plain (cR l) rfl
def Ed (s:List UInt8)(hs:s.length<=aT)(nm:Nat):Ev cx 115 nm [.str s] ao.nil (.tup [.sl false 1 ((MW s).map cH),.int .i64 (aF s)]) []:=by
 unfold aT at hs
 by_cases hbig:16384<s.length
 ·have he:aF s=4:=by unfold aF;rw[if_pos hbig]
  have hq:MW s=[]:=by unfold MW;rw[if_pos hbig]
  have hd:decide ((16384:Int)<s.length)=true:=dh
  refine aX call115 func115 ?_;intro b0 hb0
  exact wP (a5 results115 ntmps115 he hq hd) trivial
 ·have hd:decide ((16384:Int)<s.length)=false:=bi
  refine aX call115 func115 ?_;intro b0 hb0
  repeat' first|simp only[au,ap,results115,ntmps115,am,hd,aj,ai,seval]|exact rfl|refine aa (v:=.any) ?_|(refine uK (s:=?_) ?_ ?_ ?_;rotate_left 1;(iterate 2 (focus (simp only[results115,ntmps115,am,hd,aj,ai,seval]<;>exact rfl))))|(refine bo ?_)|(refine bc ?_)|((first|apply Ca|apply Cb)<;>intro hb)|refine Ai (by omega) ?_|(apply Ai<;>intro hb)
  (refine ew (fun x:Nat×List Int=>s.length-x.1) (fun x=>x.1<=s.length/\x.2.length<=x.1/\dp s=(dp (s.drop x.1)).map (x.2 ++ ·)) (b0+16) (fun x=>[(0,.str s),(2,.own (b0+1) 0 x.2.length),(10,.ptr b0 0 0)]) (fun x=>[(b0,lM s x.1),(b0+1,⟨1,x.2.map cH⟩)]) ((0,[])) [some (b0+96),none] ?_ ?_ ?_;(focus (refine⟨?_,?_⟩<;>(try simp only[aE,al,oS,kD,cR,aj,ai,aq,seval])<;>(try omega))))
  ·refine⟨Nat.zero_le _,Nat.le_refl _,?_⟩
   rw[List.drop_zero];cases dp s<;>rfl
  ·rintro ⟨p,zs⟩ ⟨h1,h2,h3⟩
   by_cases hp:p<s.length
   ·have ho:=MU hp
    have hne:s.drop p≠[]:=by
     intro h
     have:=congrArg List.length h
     simp at this;omega
    have hrl:=rune_le s p
    have hw:IntKind.i64.wrap ((bx s p).1:Int)=((bx s p).1:Int):=bH
    have hle:(s.drop p).length<=aT:=by unfold aT;simp;omega
    by_cases hbad:((bx s p).1=65533/\preB (s.drop p) [239,191,189]=false)\/mW ((bx s p).1:Int)=false
    ·rw[if_pos hbad]at ho
     have hd0:dp s=none:=by
      have:=h3
      simp only at this
      rw[this,vP hne ho];rfl
     have he:aF s=50:=by unfold aF;rw[if_neg hbig,hd0]
     have hq:MW s=[]:=by unfold MW;rw[if_neg hbig,hd0];rfl
     cases hc:(((bx s p).1:Int)==65533)<;>cases hpr:preB (s.drop p) [239,191,189]<;>cases hm:mW ((bx s p).1:Int)
     all_goals (try (exfalso;simp_all;done))
     all_goals ((repeat' first|simp only[au,ap,results115,ntmps115,am,he,hq,hp,hw,hc,hpr,hm,cR,Lo,List.length_drop,aj,ai,seval]|exact rfl|refine aa (v:=.any) ?_|(first|(refine ah ?_ (wI (s.drop p) [239,191,189] hle (by decide) _) ?_)|(refine ac ?_ (fun _=>wI (s.drop p) [239,191,189] hle (by decide) _) ?_)|(refine ah ?_ (rm ((bx s p).1:Int) _) ?_)|(refine ac ?_ (fun _=>rm ((bx s p).1:Int) _) ?_))|(refine lE (s:=?_) (y:=?_) (p:=?_) ?_ ?_ ?_ ?_;rotate_left 3;(iterate 2 (focus (simp only[results115,ntmps115,am,he,hq,hp,hw,hc,hpr,hm,cR,Lo,List.length_drop,aj,ai,seval]<;>exact rfl)));(focus (simp only[results115,ntmps115,am,he,hq,hp,hw,hc,hpr,hm,cR,Lo,List.length_drop,aj,ai,seval]<;>omega)))|(refine bo ?_)|(refine bc ?_)|((first|apply Ca|apply Cb)<;>intro hb)|refine Ai (by omega) ?_|(apply Ai<;>intro hb)|apply Fin.pure|simp only[aq]))
    ·rw[if_neg hbad]at ho
     obtain⟨_,hm,_,hk1,hk2⟩:=jT ho
     have hds:dp s=(dp (s.drop (p+(bx s p).2))).map ((zs++[((bx s p).1:Int)]) ++ ·):=by
      have:=h3
      simp only at this
      rw[this,lA ho,List.drop_drop]
      cases dp (s.drop (p+(bx s p).2))<;>simp
     have hlen:(s.drop p).length=s.length-p:=by simp
     have h2':zs.length<=p:=h2
     have hsn:zs.map cH++[[V.int .i64 ((bx s p).1:Int)]]=(zs++[((bx s p).1:Int)]).map cH:=by simp[cH]
     have hnx:p+(bx s p).2<=s.length:=by omega
     cases hc:(((bx s p).1:Int)==65533)<;>cases hpr:preB (s.drop p) [239,191,189]
     all_goals (try (exfalso;exact hbad (.inl ⟨by have:=beq_iff_eq.1 hc;omega,hpr⟩)))
     all_goals (repeat' first|simp only[au,ap,results115,ntmps115,am,hp,hw,hc,hpr,hm,cR,hsn,Lo,List.length_drop,Lm,Nat.le_refl,Option.bind_some,Option.bind_none,aj,ai,seval]|exact rfl|refine aa (v:=.any) ?_|(first|(refine ah ?_ (wI (s.drop p) [239,191,189] hle (by decide) _) ?_)|(refine ac ?_ (fun _=>wI (s.drop p) [239,191,189] hle (by decide) _) ?_)|(refine ah ?_ (rm ((bx s p).1:Int) _) ?_)|(refine ac ?_ (fun _=>rm ((bx s p).1:Int) _) ?_))|(refine lE (s:=?_) (y:=?_) (p:=?_) ?_ ?_ ?_ ?_;rotate_left 3;(iterate 2 (focus (simp only[results115,ntmps115,am,hp,hw,hc,hpr,hm,cR,hsn,Lo,List.length_drop,Lm,Nat.le_refl,Option.bind_some,Option.bind_none,aj,ai,seval]<;>exact rfl)));(focus (simp only[results115,ntmps115,am,hp,hw,hc,hpr,hm,cR,hsn,Lo,List.length_drop,Lm,Nat.le_refl,Option.bind_some,Option.bind_none,aj,ai,seval]<;>omega)))|(refine bo ?_)|(refine bc ?_)|((first|apply Ca|apply Cb)<;>intro hb)|refine Ai (by omega) ?_|(apply Ai<;>intro hb))
     all_goals ((refine de ((p+(bx s p).2,zs++[((bx s p).1:Int)])) [some b0,some (b0+416)] ?_ ?_ ?_;(focus (refine⟨?_,?_⟩<;>(try simp only[aE,al,oS,kD,cR,hsn,Lm,List.length_append,List.length_cons,List.length_nil,Option.bind_some,Option.bind_none,aj,ai,aq,seval])<;>(try omega)))))
     all_goals (first|(show s.length-(p+(bx s p).2)<s.length-p;omega)|exact⟨hnx,by simp;omega,hds⟩|skip)
   ·have hpe:p=s.length:=by omega
    subst hpe
    have he:aF s=0:=by
     rw[List.drop_length,oc]at h3
     unfold aF;rw[if_neg hbig,h3];rfl
    have hq:MW s=zs:=by
     rw[List.drop_length,oc]at h3
     unfold MW;rw[if_neg hbig,h3];simp
    (repeat' first|simp only[au,ap,results115,ntmps115,am,he,hq,cR,w8,aH,aO,Lm,Nat.le_refl,aj,ai,seval]|exact rfl|refine aa (v:=.any) ?_|(refine xX (s:=?_) (y:=?_) (p:=?_) ?_ ?_ ?_ ?_;rotate_left 3;(iterate 2 (focus (simp only[results115,ntmps115,am,he,hq,cR,w8,aH,aO,Lm,Nat.le_refl,aj,ai,seval]<;>exact rfl)));(focus (simp only[results115,ntmps115,am,he,hq,cR,w8,aH,aO,Lm,Nat.le_refl,aj,ai,seval]<;>omega)))|(refine bo ?_)|(refine bc ?_)|((first|apply Ca|apply Cb)<;>intro hb)|refine Ai (by omega) ?_|(apply Ai<;>intro hb)|apply Fin.pure|simp only[aq])
def db (s:List UInt8)(hs:s.length<=aT)(nm:Nat):Ev cx 70 nm [.str s] ao.nil (.int .i64 (aF s)) []:=by
 refine aX call70 func70 ?_;intro b0 hb0
 exact wP (a2 results70 ntmps70) (Ed s hs)
def Jx (c:Int)(h0:0<=c)(h1:c<256)(nm:Nat):Ev cx 183 nm [.int .i64 c] ao.nil (.tup [.int .i64 (gX c),.int .i64 (jL c)]) []:=by
 have w1:IntKind.i64.wrap (c-192)=c-192:=bH
 have w2:IntKind.i64.wrap (c-224)=c-224:=bH
 have w3:IntKind.i64.wrap (c-240)=c-240:=bH
 refine aX call183 func183 ?_;intro b0 hb0
 (repeat' first|simp only[au,ap,results183,ntmps183,am,w1,w2,w3,aj,ai,seval]|exact rfl|refine aa (v:=.any) ?_|((first|apply Ca|apply Cb)<;>intro hb)|refine Ai (by omega) ?_|(apply Ai<;>intro hb)|apply Fin.pure|simp only[aq])
 all_goals simp only[Bool.and_eq_true,Bool.and_eq_false_iff,decide_eq_true_eq,decide_eq_false_iff_not]at *
 all_goals (unfold gX jL;constructor<;>(repeat' split)<;>omega)
def vg (n:Int):Bool:=if n<32 then (n==9||n==10||n==13) else (((decide (n<=1114111)&&(decide (n<55296)||decide (57343<n)))&&(n != 65534))&&(n != 65535))
def Hp (n:Int):vg n=mW n:=by
 unfold vg
 rw[Bool.eq_iff_iff,jn]
 split<;>simp<;>omega
def mC (n:Int)(nm:Nat):Ev cx 184 nm [.int .i64 n] ao.nil (.bool (mW n)) []:=by
 rw[<- Hp]
 by_cases h:n<32
 ·have hd:decide (n<32)=true:=decide_eq_true h
  have hr:vg n=(n==9||n==10||n==13):=by unfold vg;rw[if_pos h]
  refine aX call184 func184 ?_;intro b0 hb0
  exact wP (a4 results184 ntmps184 hd hr) trivial
 ·have hd:decide (n<32)=false:=decide_eq_false h
  have hr:vg n=(((decide (n<=1114111)&&(decide (n<55296)||decide (57343<n)))&&(n != 65534))&&(n != 65535)):=by unfold vg;rw[if_neg h]
  cases h1:decide (n<=1114111)<;>cases h2:decide (n<55296)<;>cases h3:decide (57343<n)<;>rw[h1,h2,h3]at hr<;>(
  refine aX call184 func184 ?_;intro b0 hb0
  exact wP (a7 results184 ntmps184 hd hr h1 h2 h3) trivial)
def zU (n:Int)(b:UInt8)(l:List UInt8):co n (b::l)=co (64*n+(b.toNat:Int) % 64) l:=rfl
def xB:∀(l:List UInt8) (n:Int),0<=n->0<=co n l/\co n l<(n+1)*64 ^ l.length
 | [],n,h=>by simp only[co,List.foldl_nil,List.length_nil];omega
 | b::l,n,h=>by
  rw[zU]
  obtain⟨h1,h2⟩:=xB l (64*n+(b.toNat:Int) % 64) (by omega)
  refine⟨h1,Int.lt_of_lt_of_le h2 ?_⟩
  rw[List.length_cons,Int.pow_succ,Int.mul_comm (64 ^ l.length) 64,<- Int.mul_assoc]
  exact Int.mul_le_mul_of_nonneg_right (by omega) (Int.pow_nonneg (by omega))
def ff {z:Int}(h0:0<=z)(h1:z<256):aL (z.toNat.toUInt8)=[V.int .u8 z]:=by
 have:=eL h0 h1
 unfold aL
 rw[this]
 congr 2;omega
def Bo (n:Int)(up:Nat)(h0:0<=n)(h1:n<=1114111)(hu:up<=2)(nm:Nat):Ev cx 191 nm [.int .i64 n,.int .i64 up] ao.nil (.int .u8 (128+n / 64 ^ up % 64)) []:=by
 refine aX call191 func191 ?_;intro b0 hb0
 refine wR (a2 results191 ntmps191) trivial ?_
 (refine ew (fun x:Nat=>up-x) (fun x=>x<=up) (b0+16) (fun x=>[(0,.int .i64 (n / 64 ^ x)),(1,.int .i64 up),(5,.int .i64 x)]) (fun x=>[]) (0) [] ?_ ?_ ?_;(focus (refine⟨?_,?_⟩<;>(try simp only[aE,Int.pow_zero,Int.ediv_one,aj,ai,aq,seval])<;>(try omega))))
 ·exact Nat.zero_le _
 ·intro k hk
  have hp:(0:Int)<=n / 64 ^ k:=Int.ediv_nonneg h0 (Int.pow_nonneg (by omega))
  have hp2:n / 64 ^ k<=n:=Int.ediv_le_self _ h0
  by_cases hlt:k<up
  ·have hd:=decide_eq_true hlt
   have ht:(n / 64 ^ k).tdiv 64=n / 64 ^ (k+1):=by
    rw[Int.tdiv_eq_ediv_of_nonneg hp,Int.pow_succ,Int.ediv_ediv_of_nonneg (Int.pow_nonneg (by omega))]
   have hw:IntKind.i64.wrap (n / 64 ^ (k+1))=n / 64 ^ (k+1):=by
    rw[<- ht,Int.tdiv_eq_ediv_of_nonneg hp]
    exact bH
   have hwk:=eD k
   refine wR (a6 results191 ntmps191 hd ht hw hwk) trivial ?_
   ((refine de (k+1) [] ?_ ?_ ?_;(focus (refine⟨?_,?_⟩<;>(try simp only[aE,hd,ht,hw,hwk,aj,ai,aq,seval])<;>(try omega)))))
   all_goals (first|(show up-(k+1)<up-k;omega)|(show k+1<=up;omega)|skip)
  ·have hke:k=up:=by omega
   subst hke
   have hd:decide (k<k)=false:=bi
   have ht:(n / 64 ^ k).tmod 64=n / 64 ^ k % 64:=Int.tmod_eq_emod_of_nonneg hp
   have hw1:IntKind.i64.wrap (n / 64 ^ k % 64)=n / 64 ^ k % 64:=bH
   have hw2:IntKind.i64.wrap (128+n / 64 ^ k % 64)=128+n / 64 ^ k % 64:=bH
   have hw3:IntKind.u8.wrap (128+n / 64 ^ k % 64)=128+n / 64 ^ k % 64:=IntWalk.u8_in _ (by omega)
   exact wP (a7 results191 ntmps191 hd ht hw1 hw2 hw3) trivial
def O3 {z:Int}(h0:0<=z)(h1:z<=127):(encodeRune z).map aL=[[V.int .u8 z]]:=by
 simp only[encodeRune,encodeRuneZ_one h0 h1,Lc,Lo]
 rw[ff (by omega) (by omega)]
def O4 {z:Int}(h0:128<=z)(h1:z<=2047):(encodeRune z).map aL=[[V.int .u8 (192+z / 64)],[V.int .u8 (128+z % 64)]]:=by
 simp only[encodeRune,encodeRuneZ_two h0 h1,Lc,Lo]
 rw[ff (by omega) (by omega),ff (by omega) (by omega)]
def O5 {z:Int}(h0:(2048<=z/\z<55296)\/(57343<z/\z<=65535)):(encodeRune z).map aL=[[V.int .u8 (224+z / 4096)],[V.int .u8 (128+z / 64 % 64)],[V.int .u8 (128+z % 64)]]:=by
 simp only[encodeRune,encodeRuneZ_three h0,Lc,Lo]
 rw[ff (by omega) (by omega),ff (by omega) (by omega),ff (by omega) (by omega)]
def O6 {z:Int}(h0:65536<=z)(h1:z<=1114111):(encodeRune z).map aL=[[V.int .u8 (240+z / 262144)],[V.int .u8 (128+z / 4096 % 64)],[V.int .u8 (128+z / 64 % 64)],[V.int .u8 (128+z % 64)]]:=by
 simp only[encodeRune,encodeRuneZ_four h0 h1,Lc,Lo]
 rw[ff (by omega) (by omega),ff (by omega) (by omega),ff (by omega) (by omega),ff (by omega) (by omega)]
def mB (n:Int)(hm:mW n=true)(nm:Nat):Ev cx 185 nm [.int .i64 n] ao.nil (.sl false 1 ((encodeRune n).map aL)) []:=by
 have hmz:=(jn n).1 hm
 have h0:0<=n:=by omega
 have hm1:n<=1114111:=by omega
 have q1:n.tdiv 64=n / 64:=Int.tdiv_eq_ediv_of_nonneg h0
 have q2:n.tdiv 4096=n / 4096:=Int.tdiv_eq_ediv_of_nonneg h0
 have q3:n.tdiv 262144=n / 262144:=Int.tdiv_eq_ediv_of_nonneg h0
 have w1:IntKind.i64.wrap (n / 64)=n / 64:=bH
 have w2:IntKind.i64.wrap (n / 4096)=n / 4096:=bH
 have w3:IntKind.i64.wrap (n / 262144)=n / 262144:=bH
 have u1:IntKind.i64.wrap (192+n / 64)=192+n / 64:=bH
 have u2:IntKind.i64.wrap (224+n / 4096)=224+n / 4096:=bH
 have u3:IntKind.i64.wrap (240+n / 262144)=240+n / 262144:=bH
 have s0:=Bo n 0 h0 hm1 (by omega)
 have s1:=Bo n 1 h0 hm1 (by omega)
 have s2:=Bo n 2 h0 hm1 (by omega)
 simp only[Int.pow_zero,Int.ediv_one,Int.pow_one,Int.ofNat_zero,Int.ofNat_one,show(64:Int) ^ 1=64 from rfl,show(64:Int) ^ 2=4096 from rfl,show((0:Nat):Int)=0 from rfl,show((1:Nat):Int)=1 from rfl,show((2:Nat):Int)=2 from rfl]at s0 s1 s2
 by_cases c1:n<128
 ·have d1:decide (n<128)=true:=decide_eq_true c1
  have v1:IntKind.u8.wrap n=n:=IntWalk.u8_in _ (by omega)
  rw[O3 h0 (by omega)]
  refine aX call185 func185 ?_;intro b0 hb0
  exact wP (a4 results185 ntmps185 d1 v1) trivial
 by_cases c2:n<2048
 ·have d1:decide (n<128)=false:=decide_eq_false c1
  have d2:decide (n<2048)=true:=decide_eq_true c2
  have v1:IntKind.u8.wrap (192+n / 64)=192+n / 64:=IntWalk.u8_in _ (by omega)
  rw[O4 (by omega) (by omega)]
  refine aX call185 func185 ?_;intro b0 hb0
  exact wP (a8 results185 ntmps185 d1 d2 q1 w1 u1 v1) s0
 by_cases c3:n<65536
 ·have d1:decide (n<128)=false:=decide_eq_false c1
  have d2:decide (n<2048)=false:=decide_eq_false c2
  have d3:decide (n<65536)=true:=decide_eq_true c3
  have v1:IntKind.u8.wrap (224+n / 4096)=224+n / 4096:=IntWalk.u8_in _ (by omega)
  rw[O5 (by omega)]
  refine aX call185 func185 ?_;intro b0 hb0
  exact wP (a9 results185 ntmps185 d1 d2 d3 q2 w2 u2 v1) (a2 s0 s1)
 ·have d1:decide (n<128)=false:=decide_eq_false c1
  have d2:decide (n<2048)=false:=decide_eq_false c2
  have d3:decide (n<65536)=false:=decide_eq_false c3
  have v1:IntKind.u8.wrap (240+n / 262144)=240+n / 262144:=IntWalk.u8_in _ (by omega)
  rw[O6 (by omega) (by omega)]
  refine aX call185 func185 ?_;intro b0 hb0
  exact wP (a9 results185 ntmps185 d1 d2 d3 q3 w3 u3 v1) (a3 s0 s1 s2)
def J8 (bs:List UInt8):((bs.map aL).all fun r=>r.all V.one)=true:=by
 rw[List.all_eq_true]
 intro r hr
 obtain⟨c,_,rfl⟩:=List.mem_map.1 hr
 rfl
def yA (t:TypeId):(Ob.typed t).isRow=true:=rfl
def PK (s:Nat)(r:List (List V))(t:TypeId):Blk.ty (@Blk.mk s r (.typed t))=some t:=rfl
def Bg (σ:List (Nat×Nat))(bs:List UInt8)(t:TypeId):Blk.ren σ (@Blk.mk 1 (bs.map aL) (.typed t)) = @Blk.mk 1 (bs.map aL) (.typed t):=by
 have h:plainLL (bs.map aL)=true:=ce _ (fun _=>rfl) bs
 simp only[Blk.ren,hU,h,if_true]
def wT (σ:List (Nat×Nat))(bs:List UInt8)(t:TypeId):Blk.renOk σ (@Blk.mk 1 (bs.map aL) (.typed t))=true:=by
 have h:plainLL (bs.map aL)=true:=ce _ (fun _=>rfl) bs
 simp only[Blk.renOk,fp,h,Bool.true_or,Bool.true_and]
 rfl
def zW {n:Int}{l:List UInt8}{k:Nat}{b:UInt8}(h:l[k]? = some b):co n (l.take (k+1))=64*co n (l.take k)+(b.toNat:Int) % 64:=by
 obtain⟨hk,rfl⟩:=List.getElem?_eq_some_iff.1 h
 rw[List.take_succ_eq_append_getElem hk,zV]
def CT (n:Int):co n []=n:=rfl
def Ch:one []=none:=rfl
def jS {s:List UInt8}(h:one s=none):G4 s=0:=by unfold G4;rw[h]
def jR {s:List UInt8}(h:one s=none):G2 s=0:=by unfold G2;rw[h]
def u4 {s:List UInt8}{z:Int}{k:Nat}(h:one s=some (z,k)):G4 s=z:=by unfold G4;rw[h]
def u0 {s:List UInt8}{z:Int}{k:Nat}(h:one s=some (z,k)):G2 s=k:=by unfold G2;rw[h]
def rk (s:List UInt8)(hs:s.length<=aT)(nm:Nat):Ev cx 174 nm [.str s] ao.nil (.tup [.int .i64 (G4 s),.int .i64 (G2 s)]) []:=by
 unfold aT at hs
 by_cases hne:s=[]
 ·subst hne
  have e1:=jS Ch
  have e2:=jR Ch
  have hd:(([]:List UInt8)==[])=true:=rfl
  refine aX call174 func174 ?_;intro b0 hb0;have zF:=Ai results174 ntmps174
  (repeat' first|simp only[au,ap,zF,am,e1,e2,hd,aj,ai,seval]|exact rfl|refine aa (v:=.any) ?_|refine ag (ps:=[(5,9)]) (by decide +kernel) (by simp only[List.forall_mem_cons,List.getD_cons_zero,List.getD_cons_succ,zF,am,e1,e2,hd,aj,ai,seval]<;>(try simp)<;>(try omega)) ?_|refine av (by decide +kernel) ?_|((first|apply Ca|apply Cb)<;>intro hb)|refine Ai (by omega) ?_|(apply Ai<;>intro hb)|apply Fin.pure|simp only[aq])
 obtain⟨b,l,rfl⟩:=List.exists_cons_of_ne_nil hne
 have hd:((b::l)==[])=false:=rfl
 have hb:(b.toNat:Int)<256:=by have:=b.toNat_lt;omega
 have hb0:(0:Int)<=(b.toNat:Int):=by omega
 have hwb:IntKind.i64.wrap (b.toNat:Int)=(b.toNat:Int):=bH
 obtain⟨hr1,hr2⟩:=yr (b.toNat:Int)
 obtain⟨hn1,hn2,hn3⟩:=yq (c:=(b.toNat:Int)) ⟨hb0,hb⟩
 have hhd:=Jx (b.toNat:Int) hb0 hb
 obtain⟨k,hk⟩:∃ k:Nat,gX (b.toNat:Int)=k:=⟨(gX (b.toNat:Int)).toNat,by omega⟩
 have hk4:k<=4:=by omega
 rw[hk]at hhd
 generalize hN:jL (b.toNat:Int)=n0 at hhd hn1 hn2 hn3
 by_cases hbad:k=0\/(b::l).length<k
 ·have ho:one (b::l)=none:=AR hk (by rcases hbad with h|h;exact .inl h;exact .inr (.inl h))
  have e1:=jS ho
  have e2:=jR ho
  by_cases h0:k=0
  ·subst h0
   refine aX call174 func174 ?_;intro b0 hb0;have zF:=Ai results174 ntmps174
   (repeat' first|simp only[au,ap,zF,am,e1,e2,hd,hwb,aj,ai,seval]|exact rfl|refine aa (v:=.any) ?_|(first|(refine ah ?_ (hhd _) ?_)|(refine ac ?_ (fun _=>hhd _) ?_))|refine ag (ps:=[(5,9)]) (by decide +kernel) (by simp only[List.forall_mem_cons,List.getD_cons_zero,List.getD_cons_succ,zF,am,e1,e2,hd,hwb,aj,ai,seval]<;>(try simp)<;>(try omega)) ?_|refine av (by decide +kernel) ?_|((first|apply Ca|apply Cb)<;>intro hb)|refine Ai (by omega) ?_|(apply Ai<;>intro hb)|apply Fin.pure|simp only[aq])
  ·have hg:decide (l.length+1<k)=true:=decide_eq_true (by simpa using hbad.resolve_left h0)
   have hg0:((k:Int)==0)=false:=beq_false_of_ne (by omega)
   refine aX call174 func174 ?_;intro b0 hb0;have zF:=Ai results174 ntmps174
   (repeat' first|simp only[au,ap,zF,am,e1,e2,hd,hwb,hg,hg0,List.length_cons,aj,ai,seval]|exact rfl|refine aa (v:=.any) ?_|(first|(refine ah ?_ (hhd _) ?_)|(refine ac ?_ (fun _=>hhd _) ?_))|refine ag (ps:=[(5,9)]) (by decide +kernel) (by simp only[List.forall_mem_cons,List.getD_cons_zero,List.getD_cons_succ,zF,am,e1,e2,hd,hwb,hg,hg0,List.length_cons,aj,ai,seval]<;>(try simp)<;>(try omega)) ?_|refine av (by decide +kernel) ?_|((first|apply Ca|apply Cb)<;>intro hb)|refine Ai (by omega) ?_|(apply Ai<;>intro hb)|apply Fin.pure|simp only[aq])
 ·have hg:decide (l.length+1<k)=false:=decide_eq_false (by simp at hbad;omega)
  have hg0:((k:Int)==0)=false:=beq_false_of_ne (by omega)
  have hkl:k<=l.length+1:=by simp at hbad;omega
  have hk1:1<=k:=by omega
  simp only[List.length_cons]at hs
  refine aX call174 func174 ?_;intro b0 hb0;have zF:=Ai results174 ntmps174
  repeat' first|simp only[au,ap,zF,am,hd,hwb,hg,hg0,List.length_cons,aj,ai,seval]|exact rfl|refine aa (v:=.any) ?_|(first|(refine ah ?_ (hhd _) ?_)|(refine ac ?_ (fun _=>hhd _) ?_))|refine ag (ps:=[(5,9)]) (by decide +kernel) (by simp only[List.forall_mem_cons,List.getD_cons_zero,List.getD_cons_succ,zF,am,hd,hwb,hg,hg0,List.length_cons,aj,ai,seval]<;>(try simp)<;>(try omega)) ?_|refine av (by decide +kernel) ?_|refine Ai (by omega) ?_
  (refine ew (fun x:Nat=>k-x) (fun x=>1<=x/\x<=k) (b0+16) (fun x=>[(0,.str (b::l)),(4,.int .i64 k),(5,.int .i64 (co n0 (l.take (x-1)))),(6,.int .i64 x)]) (fun x=>[]) (1) [] ?_ ?_ ?_;(focus (refine⟨?_,?_⟩<;>(try simp only[aE,List.take_zero,CT,aj,ai,aq,seval])<;>(try omega))))
  ·exact⟨Nat.le_refl _,hk1⟩
  ·rintro i ⟨hi1,hi2⟩
   by_cases hlt:i<k
   ·have hdi:=decide_eq_true hlt
    obtain⟨j,rfl⟩:∃ j,i=j+1:=⟨i-1,by omega⟩
    simp only[Nat.add_sub_cancel]at *
    obtain⟨c,hc⟩:∃ c,l[j]? = some c:=⟨_,List.getElem?_eq_getElem (by omega)⟩
    have hcs:co n0 (l.take (j+1))=64*co n0 (l.take j)+(c.toNat:Int) % 64:=zW hc
    have hcl:=xB (l.take j) n0 hn1
    have hj2:(l.take j).length=j:=by rw[List.length_take];omega
    rw[hj2]at hcl
    have hj3:j<=2:=by omega
    have hn31:n0<=31:=by
     refine hn3 ?_
     omega
    have hpw:(n0+1)*64 ^ j<=131072:=by
     rcases(show j=0\/j=1\/j=2 by omega) with rfl|rfl|rfl<;>simp only[Int.pow_zero,Int.pow_one,show(64:Int) ^ 1=64 from rfl,show(64:Int) ^ 2=4096 from rfl]<;>omega
    have hcw:(c.toNat:Int)<256:=by have:=c.toNat_lt;omega
    have hcm:(c.toNat:Int).tmod 64=(c.toNat:Int) % 64:=Int.tmod_eq_emod_of_nonneg (by omega)
    have w1:IntKind.i64.wrap (64*co n0 (l.take j))=64*co n0 (l.take j):=bH
    have w2:IntKind.i64.wrap (c.toNat:Int)=(c.toNat:Int):=bH
    have w3:IntKind.i64.wrap ((c.toNat:Int) % 64)=(c.toNat:Int) % 64:=bH
    have w4:IntKind.i64.wrap (64*co n0 (l.take j)+(c.toNat:Int) % 64)=co n0 (l.take (j+1)):=by
     rw[hcs];exact bH
    have w5:IntKind.i64.wrap (((j+1:Nat):Int)+1)=((j+1+1:Nat):Int):=bH
    repeat' first|simp only[au,ap,zF,am,hdi,hc,hcm,w1,w2,w3,w4,w5,List.getElem?_cons_succ,List.length_cons,aj,ai,seval]|exact rfl|refine aa (v:=.any) ?_|refine ag (ps:=[(5,9)]) (by decide +kernel) (by simp only[List.forall_mem_cons,List.getD_cons_zero,List.getD_cons_succ,zF,am,hdi,hc,hcm,w1,w2,w3,w4,w5,List.getElem?_cons_succ,List.length_cons,aj,ai,seval]<;>(try simp)<;>(try omega)) ?_|refine av (by decide +kernel) ?_|((first|apply Ca|apply Cb)<;>intro hb)|refine Ai (by omega) ?_|(apply Ai<;>intro hb)
    ((refine de (j+1+1) [] ?_ ?_ ?_;(focus (refine⟨?_,?_⟩<;>(try simp only[aE,hdi,hcm,w1,w2,w3,w4,w5,Nat.add_sub_cancel,show j+2-1=j+1 from rfl,aj,ai,aq,seval])<;>(try omega)))))
    all_goals (first|(show k-(j+1+1)<k-(j+1);omega)|(show 1<=j+1+1/\j+1+1<=k;omega)|skip)
   ·have hke:i=k:=by omega
    subst hke
    have hdi:decide (i<i)=false:=bi
    cases hm:mW (co n0 (l.take (i-1))) with
    | false =>
     have ho:one (b::l)=none:=AR hk (.inr (.inr ⟨by simp only[List.length_cons];exact hkl,fun n hn hmn=>by rw[hn,hN,hm]at hmn;cases hmn⟩))
     have e1:=jS ho
     have e2:=jR ho
     (repeat' first|simp only[au,ap,zF,am,hdi,e1,e2,aj,ai,seval]|exact rfl|refine aa (v:=.any) ?_|(first|(refine ah ?_ ((by have:=mC (co n0 (l.take (i-1)));rw[hm]at this;exact this _)) ?_)|(refine ac ?_ (fun _=>(by have:=mC (co n0 (l.take (i-1)));rw[hm]at this;exact this _)) ?_))|(refine aa (v:=.any) ?_)|(refine gw (v:=?_) (bs:=?_) ?_ ?_ ?_ ?_ ?_ ?_ ?_;rotate_left 2;(iterate 2 (focus (simp only[zF,am,hdi,e1,e2,aj,ai,seval];done)));(focus (simp only[zF,am,hdi,e1,e2,aj,ai,seval]<;>exact rfl));(focus (exact rfl));(focus (simp only[ap,zF,am,hdi,e1,e2,aj,ai,seval];done));(focus (simp only[zF,am,hdi,e1,e2,aj,ai,seval]<;>exact rfl)))|(refine bo ?_)|(refine bc ?_)|refine ag (ps:=[(5,9)]) (by decide +kernel) (by simp only[List.forall_mem_cons,List.getD_cons_zero,List.getD_cons_succ,zF,am,hdi,e1,e2,aj,ai,seval]<;>(try simp)<;>(try omega)) ?_|refine av (by decide +kernel) ?_|((first|apply Ca|apply Cb)<;>intro hb)|refine Ai (by omega) ?_|(apply Ai<;>intro hb)|apply Fin.pure|simp only[aq])
    | true =>
     have hc0:((l.length:Int)+1)=((l.length+1:Nat):Int):=by omega
     have hsl:(i:Int)<=((l.length+1:Nat):Int):=by omega
     have hnn:i<=(b::l).length:=by simp only[List.length_cons];exact hkl
     by_cases heq:encodeRune (co n0 (l.take (i-1)))=(b::l).take i
     ·have ho:one (b::l)=some (co n0 (l.take (i-1)),i):=Ku hm heq hnn
      have e1:=u4 ho
      have e2:=u0 ho
      have hq:(encodeRune (co n0 (l.take (i-1)))==(b::l).take i)=true:=by rw[heq];simp
      (repeat' first|simp only[au,ap,zF,am,hdi,e1,e2,hq,hnn,hsl,hkl,aj,ai,seval]|exact rfl|refine aa (v:=.any) ?_|(first|(refine ah ?_ ((by have:=mC (co n0 (l.take (i-1)));rw[hm]at this;exact this _)) ?_)|(refine ac ?_ (fun _=>(by have:=mC (co n0 (l.take (i-1)));rw[hm]at this;exact this _)) ?_)|(refine ah ?_ (mB (co n0 (l.take (i-1))) hm _) ?_)|(refine ac ?_ (fun _=>mB (co n0 (l.take (i-1))) hm _) ?_))|(refine gw (v:=?_) (bs:=?_) ?_ ?_ ?_ ?_ ?_ ?_ ?_;rotate_left 2;(iterate 2 (focus (simp only[zF,am,hdi,e1,e2,hq,hnn,hsl,hkl,aj,ai,seval];done)));(focus (simp only[zF,am,hdi,e1,e2,hq,hnn,hsl,hkl,aj,ai,seval]<;>exact rfl));(focus (exact rfl));(focus (simp only[ap,zF,am,hdi,e1,e2,hq,hnn,hsl,hkl,aj,ai,seval];done));(focus (simp only[zF,am,hdi,e1,e2,hq,hnn,hsl,hkl,aj,ai,seval]<;>exact rfl)))|(refine bo ?_)|(refine bc ?_)|refine ag (ps:=[(5,9)]) (by decide +kernel) (by simp only[List.forall_mem_cons,List.getD_cons_zero,List.getD_cons_succ,zF,am,hdi,e1,e2,hq,hnn,hsl,hkl,aj,ai,seval]<;>(try simp)<;>(try omega)) ?_|refine av (by decide +kernel) ?_|((first|apply Ca|apply Cb)<;>intro hb)|refine Ai (by omega) ?_|(apply Ai<;>intro hb)|apply Fin.pure|simp only[aq])
     ·have ho:one (b::l)=none:=AR hk (.inr (.inr ⟨hnn,fun n hn _=>by rw[hn,hN];exact heq⟩))
      have e1:=jS ho
      have e2:=jR ho
      have hq:(encodeRune (co n0 (l.take (i-1)))==(b::l).take i)=false:=beq_false_of_ne heq
      (repeat' first|simp only[au,ap,zF,am,hdi,e1,e2,hq,hnn,hsl,hkl,aj,ai,seval]|exact rfl|refine aa (v:=.any) ?_|(first|(refine ah ?_ ((by have:=mC (co n0 (l.take (i-1)));rw[hm]at this;exact this _)) ?_)|(refine ac ?_ (fun _=>(by have:=mC (co n0 (l.take (i-1)));rw[hm]at this;exact this _)) ?_)|(refine ah ?_ (mB (co n0 (l.take (i-1))) hm _) ?_)|(refine ac ?_ (fun _=>mB (co n0 (l.take (i-1))) hm _) ?_))|(refine gw (v:=?_) (bs:=?_) ?_ ?_ ?_ ?_ ?_ ?_ ?_;rotate_left 2;(iterate 2 (focus (simp only[zF,am,hdi,e1,e2,hq,hnn,hsl,hkl,aj,ai,seval];done)));(focus (simp only[zF,am,hdi,e1,e2,hq,hnn,hsl,hkl,aj,ai,seval]<;>exact rfl));(focus (exact rfl));(focus (simp only[ap,zF,am,hdi,e1,e2,hq,hnn,hsl,hkl,aj,ai,seval];done));(focus (simp only[zF,am,hdi,e1,e2,hq,hnn,hsl,hkl,aj,ai,seval]<;>exact rfl)))|(refine bo ?_)|(refine bc ?_)|refine ag (ps:=[(5,9)]) (by decide +kernel) (by simp only[List.forall_mem_cons,List.getD_cons_zero,List.getD_cons_succ,zF,am,hdi,e1,e2,hq,hnn,hsl,hkl,aj,ai,seval]<;>(try simp)<;>(try omega)) ?_|refine av (by decide +kernel) ?_|((first|apply Ca|apply Cb)<;>intro hb)|refine Ai (by omega) ?_|(apply Ai<;>intro hb)|apply Fin.pure|simp only[aq])
def KC (s:List UInt8)(hs:s.length<=16384)(nm:Nat):Ev cx 162 nm [.str s] ao.nil (.tup [.sl false 1 (((dp s).getD []).map cH),.bool (dp s).isSome]) []:=by
 refine aX call162 func162 ?_;intro b0 hb0;have zF:=Ai results162 ntmps162
 repeat' first|simp only[au,ap,zF,am,aj,ai,seval]|exact rfl|refine aa (v:=.any) ?_|((first|apply Ca|apply Cb)<;>intro hb)|refine Ai (by omega) ?_|(apply Ai<;>intro hb)
 (refine ew (fun x:List UInt8×List Int=>x.1.length) (fun x=>x.1.length+x.2.length<=s.length/\dp s=(dp x.1).map (x.2 ++ ·)) (b0+16) (fun x=>[(0,.str x.1),(4,.own b0 0 x.2.length)]) (fun x=>[(b0,⟨1,x.2.map cH⟩)]) ((s,[])) [none] ?_ ?_ ?_;(focus (refine⟨?_,?_⟩<;>(try simp only[aE,al,cR,Lo,aj,ai,aq,seval])<;>(try omega))))
 ·refine⟨by simp,?_⟩
  cases dp s<;>rfl
 ·rintro ⟨r,zs⟩ ⟨h1,h2⟩
  simp only at h1 h2
  have hr:r.length<=aT:=by unfold aT;omega
  by_cases hne:r=[]
  ·subst hne
   have hd:(([]:List UInt8)==[])=true:=rfl
   have e0:dp s=some zs:=by rw[h2,oc];simp
   have e1:(dp s).isSome=true:=by rw[e0];rfl
   have e2:(dp s).getD []=zs:=by rw[e0];rfl
   (repeat' first|simp only[au,ap,zF,am,hd,e1,e2,cR,w8,aH,aO,Lm,Nat.le_refl,aj,ai,seval]|exact rfl|refine aa (v:=.any) ?_|((first|apply Ca|apply Cb)<;>intro hb)|refine Ai (by omega) ?_|(apply Ai<;>intro hb)|apply Fin.pure|simp only[aq])
  ·have hd:(r==[])=false:=beq_false_of_ne hne
   cases ho:one r with
   | none =>
    have k1:=jS ho
    have k2:=jR ho
    have e0:dp s=none:=by rw[h2,vP hne ho];rfl
    have e1:(dp s).isSome=false:=by rw[e0];rfl
    have e2:(dp s).getD []=[]:=by rw[e0];rfl
    (repeat' first|simp only[au,ap,zF,am,hd,e1,e2,k1,k2,cR,Lo,aj,ai,seval]|exact rfl|refine aa (v:=.any) ?_|(first|(refine ah ?_ (rk r hr _) ?_)|(refine ac ?_ (fun _=>rk r hr _) ?_))|((first|apply Ca|apply Cb)<;>intro hb)|refine Ai (by omega) ?_|(apply Ai<;>intro hb)|apply Fin.pure|simp only[aq])
   | some p =>
    obtain⟨z,k⟩:=p
    obtain⟨_,hm,_,hk1,hk2⟩:=jT ho
    have k1:=u4 ho
    have k2:=u0 ho
    have hk0:((k:Int)==0)=false:=beq_false_of_ne (by omega)
    have hds:dp s=(dp (r.drop k)).map ((zs++[z]) ++ ·):=by
     rw[h2,lA ho]
     cases dp (r.drop k)<;>simp
    have hlen:(r.drop k).length=r.length-k:=by simp
    have hsn:zs.map cH++[[V.int .i64 z]]=(zs++[z]).map cH:=by simp[cH]
    repeat' first|simp only[au,ap,zF,am,hd,hk0,k1,k2,hk2,cR,hsn,Lo,Lm,Nat.le_refl,Option.bind_some,Option.bind_none,aj,ai,seval]|exact rfl|refine aa (v:=.any) ?_|(first|(refine ah ?_ (rk r hr _) ?_)|(refine ac ?_ (fun _=>rk r hr _) ?_))|((first|apply Ca|apply Cb)<;>intro hb)|refine Ai (by omega) ?_|(apply Ai<;>intro hb)
    ((refine de ((r.drop k,zs++[z])) [some (b0+240)] ?_ ?_ ?_;(focus (refine⟨?_,?_⟩<;>(try simp only[aE,al,cR,Ht,List.length_append,List.length_cons,List.length_nil,aj,ai,aq,seval])<;>(try omega)))))
    all_goals (first|(show(r.drop k).length<r.length;omega)|exact⟨by simp only[List.length_append,List.length_cons,List.length_nil];omega,hds⟩|skip)
def Hm (s:List UInt8)(hs:s.length<=16384)(nm:Nat):Ev cx 139 nm [.str s] ao.nil (.bool (dp s).isSome) []:=by
 refine aX call139 func139 ?_;intro b0 hb0
 exact wP (a2 results139 ntmps139) (KC s hs)
def fN (s:List UInt8)(hs:s.length<=aT)(nm:Nat):Ev cx 96 nm [.str s] ao.nil (.int .i64 (aF s)) []:=by
 unfold aT at hs
 by_cases hb:16384<s.length
 ·have hd:decide ((16384:Int)<s.length)=true:=dh
  have he:aF s=4:=by unfold aF;rw[if_pos hb]
  refine aX call96 func96 ?_;intro b0 hb0
  exact wP (a4 results96 ntmps96 hd he) trivial
 ·have hd:decide ((16384:Int)<s.length)=false:=bi
  cases hq:dp s with
  | none =>
   have he:aF s=50:=by unfold aF;rw[if_neg hb,hq]
   have hi:(dp s).isSome=false:=by rw[hq];rfl
   have hev:=Hm s (by omega)
   rw[hi]at hev
   refine aX call96 func96 ?_;intro b0 hb0
   exact wP (a4 results96 ntmps96 hd he) hev
  | some zs =>
   have he:aF s=0:=by unfold aF;rw[if_neg hb,hq]
   have hi:(dp s).isSome=true:=by rw[hq];rfl
   have hev:=Hm s (by omega)
   rw[hi]at hev
   refine aX call96 func96 ?_;intro b0 hb0
   exact wP (a4 results96 ntmps96 hd he) hev
end Go.Proofs.YtjonibipieofcaaGreatDoor
