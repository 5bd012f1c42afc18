/-
 Texts joined: XEc,XEd,XEh,XEt,XEi,XGc,XGd.
-/
import Derived.Test.YtlnlopnpcmahgaaGreatDoorQf
set_option linter.all false
namespace Go.Proofs.YtlnlopnpcmahgaaGreatDoor
set_option maxRecDepth 100000
set_option maxHeartbeats 32000000
open Go Go.RowKit Vm Go.Lib Tryz
open Vm renaming aW->Ca,bf->Cb
open And renaming intro->Ai
open List renaming length_map->Lm,not_mem_nil->Ln,map_nil->Lo,map_cons->Lc,mem_cons->Lk
open Bool renaming not_false->Bf,not_true->Bt
def Qs (l:List UInt8):List Int:=if 16384<l.length then [] else (dW l).getD []
def bN (z:Int):List V:=[.int .i64 z]
def N9 (s p:List UInt8):preB s p=Lib.hasPrefix s p:=by
 unfold preB Lib.hasPrefix
 rw[Bool.eq_iff_iff]
 simp only[Bool.and_eq_true,decide_eq_true_eq,beq_iff_eq,List.isPrefixOf_iff_prefix,List.prefix_iff_eq_take]
 constructor
 ·rintro ⟨_,h⟩;exact h.symm
 ·intro h
  refine⟨?_,h.symm⟩
  have:=congrArg List.length h
  simp at this;omega
def Kz {s:List UInt8}{p:Nat}(hp:p<s.length):one (s.drop p)=if ((bn s p).1=65533/\preB (s.drop p) [239,191,189]=false)\/gV ((bn s p).1:Int)=false then none else some (((bn s p).1:Int),(bn s p).2):=by
 have hne:s.drop p≠[]:=by
  intro h
  have:=congrArg List.length h
  simp at this;omega
 have hd:bn s p=Lib.decodeL (s.drop p):=zz ⟨s.toArray⟩ p
 rw[hd,N9]
 exact vI hne
def rune_le (s:List UInt8)(p:Nat):(bn s p).1<=2147483647:=decode_le _ _
def DL (l:List Int):(l.map bN).take l.length=l.map bN:=List.take_of_length_le (by simp)
def aJ:Ob.isRow instCells=true:=rfl
def eV (l:List Int):plainLL (l.map bN)=true:=cA _ (fun _=>rfl) l
def wJ (s:List UInt8)(hs:s.length<=bc)(nm:Nat):Ev cx 125 nm [.str s] am.nil (.tup [.sl false 1 ((Qs s).map bN),.int .i64 (aN s)]) []:=by
 unfold bc at hs
 by_cases hbig:16384<s.length
 ·have he:aN s=4:=by unfold aN;rw[if_pos hbig]
  have hq:Qs s=[]:=by unfold Qs;rw[if_pos hbig]
  have hd:decide ((16384:Int)<s.length)=true:=bR
  refine bh call125 func125 rfl (by kernel_rfl) rfl ?_;intro b0 hb0;have zF:=Ai results125 ntmps125
  (repeat' first|simp only[ak,ag,zF,al,he,hq,hd,Lo,ai,seval,ah]|exact rfl|refine aa (v:=.any) ?_|((first|apply Ca|apply Cb)<;>intro hb)|refine Ai (by omega) ?_|(apply Ai<;>intro hb)|refine Fin.pure ?_ ?_ ?_|simp only[ap])
 ·have hd:decide ((16384:Int)<s.length)=false:=bm
  refine bh call125 func125 rfl (by kernel_rfl) rfl ?_;intro b0 hb0;have zF:=Ai results125 ntmps125
  repeat' first|simp only[ak,ag,zF,al,hd,ai,seval,ah]|exact rfl|refine aa (v:=.any) ?_|(refine nJ (s:=?_) ?_ ?_ ?_;rotate_left 1;(iterate 2 (focus (simp only[zF,al,hd,ai,seval,ah]<;>exact rfl))))|(refine ba ?_)|(refine aU ?_)|((first|apply Ca|apply Cb)<;>intro hb)|refine Ai (by omega) ?_|(apply Ai<;>intro hb)
  (refine aQ bM (fun x:Nat×List Int=>s.length-x.1) (fun x=>x.1<=s.length/\x.2.length<=x.1/\dW s=(dW (s.drop x.1)).map (x.2 ++ ·)) (b0+16) (fun x=>[(0,.str s),(2,.own (b0+1) 0 x.2.length),(10,.ptr b0 0 0)]) (fun x=>[(b0,kQ s x.1),(b0+1,⟨1,x.2.map bN⟩)]) ((0,[])) [some (b0+96),none] ?_ ?_ ?_ ?_;rotate_left 1;(focus (show b0<=_;omega));(focus (refine⟨?_,?_⟩<;>(try simp only[aX,aJ,fT,ei,eV,ai,seval,ah,ap])<;>(try omega)));rotate_left 1)
  ·refine⟨Nat.zero_le _,Nat.le_refl _,?_⟩
   rw[List.drop_zero];cases dW s<;>rfl
  ·rintro ⟨p,zs⟩ ⟨h1,h2,h3⟩
   by_cases hp:p<s.length
   ·have ho:=Kz hp
    have hne:s.drop p≠[]:=by
     intro h
     have:=congrArg List.length h
     simp at this;omega
    have hrl:=rune_le s p
    have hw:IntKind.i64.wrap ((bn s p).1:Int)=((bn s p).1:Int):=bd
    have hle:(s.drop p).length<=bc:=by unfold bc;simp;omega
    by_cases hbad:((bn s p).1=65533/\preB (s.drop p) [239,191,189]=false)\/gV ((bn s p).1:Int)=false
    ·rw[if_pos hbad]at ho
     have hd0:dW s=none:=by
      have:=h3
      simp only at this
      rw[this,xC hne ho];rfl
     have he:aN s=50:=by unfold aN;rw[if_neg hbig,hd0]
     have hq:Qs s=[]:=by unfold Qs;rw[if_neg hbig,hd0];rfl
     cases hc:(((bn s p).1:Int)==65533)<;>cases hpr:preB (s.drop p) [239,191,189]<;>cases hm:gV ((bn s p).1:Int)
     all_goals (try (exfalso;simp_all;done))
     all_goals ((repeat' first|simp only[ak,ag,zF,al,he,hq,hp,hw,hc,hpr,hm,eV,Lo,List.length_drop,ai,seval,ah]|exact rfl|refine aa (v:=.any) ?_|(first|(refine ae ?_ (yu (s.drop p) [239,191,189] hle (by decide) _) ?_)|(refine ab ?_ (fun _=>yu (s.drop p) [239,191,189] hle (by decide) _) ?_)|(refine ae ?_ (ks ((bn s p).1:Int) _) ?_)|(refine ab ?_ (fun _=>ks ((bn s p).1:Int) _) ?_))|(refine iB (s:=?_) (y:=?_) (p:=?_) ?_ ?_ ?_ ?_;rotate_left 3;(iterate 2 (focus (simp only[zF,al,he,hq,hp,hw,hc,hpr,hm,eV,Lo,List.length_drop,ai,seval,ah]<;>exact rfl)));(focus (simp only[zF,al,he,hq,hp,hw,hc,hpr,hm,eV,Lo,List.length_drop,ai,seval,ah]<;>omega)))|(refine ba ?_)|(refine aU ?_)|((first|apply Ca|apply Cb)<;>intro hb)|refine Ai (by omega) ?_|(apply Ai<;>intro hb)|refine Fin.pure ?_ ?_ ?_|simp only[ap]))
    ·rw[if_neg hbad]at ho
     obtain⟨_,hm,_,hk1,hk2⟩:=ng ho
     have hds:dW s=(dW (s.drop (p+(bn s p).2))).map ((zs++[((bn s p).1:Int)]) ++ ·):=by
      have:=h3
      simp only at this
      rw[this,mG ho,List.drop_drop]
      cases dW (s.drop (p+(bn s p).2))<;>simp
     have hlen:(s.drop p).length=s.length-p:=by simp
     have h2':zs.length<=p:=h2
     have hsn:zs.map bN++[[V.int .i64 ((bn s p).1:Int)]]=(zs++[((bn s p).1:Int)]).map bN:=by simp[bN]
     have hnx:p+(bn s p).2<=s.length:=by omega
     cases hc:(((bn s p).1:Int)==65533)<;>cases hpr:preB (s.drop p) [239,191,189]
     all_goals (try (exfalso;exact hbad (.inl ⟨by have:=beq_iff_eq.1 hc;omega,hpr⟩)))
     all_goals (repeat' first|simp only[ak,ag,zF,al,hp,hw,hc,hpr,hm,eV,hsn,Lo,List.length_drop,Lm,Nat.le_refl,Option.bind_some,Option.bind_none,ai,seval,ah]|exact rfl|refine aa (v:=.any) ?_|(first|(refine ae ?_ (yu (s.drop p) [239,191,189] hle (by decide) _) ?_)|(refine ab ?_ (fun _=>yu (s.drop p) [239,191,189] hle (by decide) _) ?_)|(refine ae ?_ (ks ((bn s p).1:Int) _) ?_)|(refine ab ?_ (fun _=>ks ((bn s p).1:Int) _) ?_))|(refine iB (s:=?_) (y:=?_) (p:=?_) ?_ ?_ ?_ ?_;rotate_left 3;(iterate 2 (focus (simp only[zF,al,hp,hw,hc,hpr,hm,eV,hsn,Lo,List.length_drop,Lm,Nat.le_refl,Option.bind_some,Option.bind_none,ai,seval,ah]<;>exact rfl)));(focus (simp only[zF,al,hp,hw,hc,hpr,hm,eV,hsn,Lo,List.length_drop,Lm,Nat.le_refl,Option.bind_some,Option.bind_none,ai,seval,ah]<;>omega)))|(refine ba ?_)|(refine aU ?_)|((first|apply Ca|apply Cb)<;>intro hb)|refine Ai (by omega) ?_|(apply Ai<;>intro hb))
     all_goals ((refine aC bM ((p+(bn s p).2,zs++[((bn s p).1:Int)])) [some b0,some (b0+416)] ?_ ?_ ?_ ?_;rotate_left 2;(focus (show b0<=_;omega));(focus (refine⟨?_,?_⟩<;>(try simp only[aX,aJ,fT,ei,eV,hsn,Lm,List.length_append,List.length_cons,List.length_nil,Option.bind_some,Option.bind_none,ai,seval,ah,ap])<;>(try omega)))))
     all_goals (first|(show s.length-(p+(bn s p).2)<s.length-p;omega)|exact⟨hnx,by simp;omega,hds⟩|skip)
   ·have hpe:p=s.length:=by omega
    subst hpe
    have he:aN s=0:=by
     rw[List.drop_length,sB]at h3
     unfold aN;rw[if_neg hbig,h3];rfl
    have hq:Qs s=zs:=by
     rw[List.drop_length,sB]at h3
     unfold Qs;rw[if_neg hbig,h3];simp
    (repeat' first|simp only[ak,ag,zF,al,he,hq,eV,DL,hZ,jL,Lm,Nat.le_refl,ai,seval,ah]|exact rfl|refine aa (v:=.any) ?_|(refine pJ (s:=?_) (y:=?_) (p:=?_) ?_ ?_ ?_ ?_;rotate_left 3;(iterate 2 (focus (simp only[zF,al,he,hq,eV,DL,hZ,jL,Lm,Nat.le_refl,ai,seval,ah]<;>exact rfl)));(focus (simp only[zF,al,he,hq,eV,DL,hZ,jL,Lm,Nat.le_refl,ai,seval,ah]<;>omega)))|(refine ba ?_)|(refine aU ?_)|((first|apply Ca|apply Cb)<;>intro hb)|refine Ai (by omega) ?_|(apply Ai<;>intro hb)|refine Fin.pure ?_ ?_ ?_|simp only[ap])
def ce (s:List UInt8)(hs:s.length<=bc)(nm:Nat):Ev cx 74 nm [.str s] am.nil (.int .i64 (aN s)) []:=by
 refine bh call74 func74 rfl (by kernel_rfl) rfl ?_;intro b0 hb0
 (repeat' first|simp only[ak,ag,results74,ntmps74,al,ai,seval,ah]|exact rfl|refine aa (v:=.any) ?_|(first|(refine ae ?_ (wJ s hs _) ?_)|(refine ab ?_ (fun _=>wJ s hs _) ?_))|((first|apply Ca|apply Cb)<;>intro hb)|refine Ai (by omega) ?_|(apply Ai<;>intro hb)|refine Fin.pure ?_ ?_ ?_|simp only[ap])
def fP {z:Int}(h0:0<=z)(h1:z<256):aI (z.toNat.toUInt8)=[V.int .u8 z]:=by
 have:=fx h0 h1
 unfold aI
 rw[this]
 congr 2;omega
def Ro {z:Int}(h0:0<=z)(h1:z<=127):(encodeRune z).map aI=[[V.int .u8 z]]:=by
 simp only[encodeRune,encodeRuneZ_one h0 h1,Lc,Lo]
 rw[fP (by omega) (by omega)]
def Sd {z:Int}(h0:128<=z)(h1:z<=2047):(encodeRune z).map aI=[[V.int .u8 (192+z / 64)],[V.int .u8 (128+z % 64)]]:=by
 simp only[encodeRune,encodeRuneZ_two h0 h1,Lc,Lo]
 rw[fP (by omega) (by omega),fP (by omega) (by omega)]
def Se {z:Int}(h0:(2048<=z/\z<55296)\/(57343<z/\z<=65535)):(encodeRune z).map aI=[[V.int .u8 (224+z / 4096)],[V.int .u8 (128+z / 64 % 64)],[V.int .u8 (128+z % 64)]]:=by
 simp only[encodeRune,encodeRuneZ_three h0,Lc,Lo]
 rw[fP (by omega) (by omega),fP (by omega) (by omega),fP (by omega) (by omega)]
def Sf {z:Int}(h0:65536<=z)(h1:z<=1114111):(encodeRune z).map aI=[[V.int .u8 (240+z / 262144)],[V.int .u8 (128+z / 4096 % 64)],[V.int .u8 (128+z / 64 % 64)],[V.int .u8 (128+z % 64)]]:=by
 simp only[encodeRune,encodeRuneZ_four h0 h1,Lc,Lo]
 rw[fP (by omega) (by omega),fP (by omega) (by omega),fP (by omega) (by omega),fP (by omega) (by omega)]
def eU (bs:List UInt8):((bs.map aI).all fun r=>r.all V.one)=true:=by
 rw[List.all_eq_true]
 intro r hr
 obtain⟨c,_,rfl⟩:=List.mem_map.1 hr
 rfl
def dE (t:TypeId):(Ob.typed t).isRow=true:=rfl
def DP (s:Nat)(r:List (List V))(t:TypeId):Blk.ty (@Blk.mk s r (.typed t))=some t:=rfl
def bi (O:List (Nat×Nat))(bs:List UInt8)(t:TypeId):Blk.ren O (@Blk.mk 1 (bs.map aI) (.typed t)) = @Blk.mk 1 (bs.map aI) (.typed t):=by
 have h:plainLL (bs.map aI)=true:=cA _ (fun _=>rfl) bs
 simp only[Blk.ren,gW,h,if_true]
def aY (O:List (Nat×Nat))(bs:List UInt8)(t:TypeId):Blk.renOk O (@Blk.mk 1 (bs.map aI) (.typed t))=true:=by
 have h:plainLL (bs.map aI)=true:=cA _ (fun _=>rfl) bs
 simp only[Blk.renOk,fH,h,Bool.true_or,Bool.true_and]
 rfl
def kX (bs:List UInt8):plainLL (bs.map aI)=true:=cA _ (fun _=>rfl) bs
def FG {s:List UInt8}{k:Nat}{c:UInt8}(h:s[k]? = some c):ls 0 (s.take (k+1))=(ls 0 (s.take k)).bind fun m=>(tA c).map fun d=>10*m+d:=by
 obtain⟨hk,rfl⟩:=List.getElem?_eq_some_iff.1 h
 rw[List.take_succ_eq_append_getElem hk,vZ]
def vY:∀ {s t:List UInt8} {n:Nat},ls n s=none->ls n (s++t)=none
 | [],t,n,h=>by simp[ls]at h
 | c::s,t,n,h=>by
  simp only[List.cons_append,ls]at h ⊢
  cases hc:tA c with
  | none=>rfl
  | some d=>rw[hc]at h;exact vY h
def AN (s:List UInt8):V:=match oM s with
 | some n=>.tup [.int .i64 n,.int .i64 0]
 | none=>.tup [.int .i64 0,.int .i64 60]
def lQ {s:List UInt8}(h:oM s=none):AN s = .tup [.int .i64 0,.int .i64 60]:=by unfold AN;rw[h]
def uB {s:List UInt8}{n:Nat}(h:oM s=some n):AN s = .tup [.int .i64 n,.int .i64 0]:=by unfold AN;rw[h]
def C4 (s:List UInt8)(hs:s.length<=bc)(nm:Nat):Ev cx 234 nm [.str s] am.nil (AN s) []:=by
  unfold bc at hs
  by_cases hbad:s=[]\/16<s.length\/(s.head? = some 48/\s≠[48])
  · have hn:oM s=none:=by unfold oM;rw[if_pos hbad]
    have hr:=lQ hn
    by_cases h0:s=[]
    · subst h0
      have e0:(([]:List UInt8)==[])=true:=rfl
      refine bh call234 func234 rfl (by kernel_rfl) rfl ?_;intro b0 hb0;have zF:=Ai results234 ntmps234
      (repeat' first|simp only[ak,ag,zF,al,e0,hr,ai,seval,ah]|exact rfl|refine aa (v:=.any) ?_|((first|apply Ca|apply Cb)<;>intro hb)|refine Ai (by omega) ?_|(apply Ai<;>intro hb)|refine Fin.pure ?_ ?_ ?_|simp only[ap])
    · have e0:(s==[])=false:=beq_false_of_ne h0
      by_cases h16:16<s.length
      · have e1:decide ((16:Int)<(s.length:Int))=true:=bR
        refine bh call234 func234 rfl (by kernel_rfl) rfl ?_;intro b0 hb0;have zF:=Ai results234 ntmps234
        (repeat' first|simp only[ak,ag,zF,al,e0,e1,hr,ai,seval,ah]|exact rfl|refine aa (v:=.any) ?_|((first|apply Ca|apply Cb)<;>intro hb)|refine Ai (by omega) ?_|(apply Ai<;>intro hb)|refine Fin.pure ?_ ?_ ?_|simp only[ap])
      · obtain⟨h1,h2⟩:s.head? = some 48/\s≠[48]:=by rcases hbad with h|h|h;exact absurd h h0;exact absurd h h16;exact h
        have e1:decide ((16:Int)<(s.length:Int))=false:=bm
        have e2:s[0]? = some 48:=by rw[<- List.head?_eq_getElem?];exact h1
        have e3:(s==[48])=false:=beq_false_of_ne h2
        have e4:0<s.length:=List.length_pos_iff.2 h0
        have e6:(((48:UInt8).toNat:Int)==48)=true:=rfl
        refine bh call234 func234 rfl (by kernel_rfl) rfl ?_;intro b0 hb0;have zF:=Ai results234 ntmps234
        (repeat' first|simp only[ak,ag,zF,al,e0,e1,e2,e3,e4,e6,hr,Bf,ai,seval,ah]|exact rfl|refine aa (v:=.any) ?_|((first|apply Ca|apply Cb)<;>intro hb)|refine Ai (by omega) ?_|(apply Ai<;>intro hb)|refine Fin.pure ?_ ?_ ?_|simp only[ap])
  · have h0:s≠[]:=fun h=>hbad (.inl h)
    have h16:¬ 16<s.length:=fun h=>hbad (.inr (.inl h))
    have h48:¬(s.head? = some 48/\s≠[48]):=fun h=>hbad (.inr (.inr h))
    have hdl:oM s=(ls 0 s).bind fun n=>if n<=9007199254740991 then some n else none:=by unfold oM;rw[if_neg hbad]
    have e0:(s==[])=false:=beq_false_of_ne h0
    have e1:decide ((16:Int)<(s.length:Int))=false:=bm
    have e4:0<s.length:=List.length_pos_iff.2 h0
    obtain⟨c0,hc0⟩:∃ c,s[0]? = some c:=⟨_,List.getElem?_eq_getElem e4⟩
    have e2:((c0.toNat:Int)==48)=decide (c0=48):=gE c0 48
    have e3:c0=48->(s==[48])=true:=fun h=>by
      by_cases h5:s=[48]
      · rw[h5];rfl
      · exact absurd ⟨by rw[List.head?_eq_getElem?,hc0,h],h5⟩ h48
    have hround:∀ b:Bool,decide (c0=48)=b->(b=true->(s==[48])=true):=fun b h h2=>e3 (of_decide_eq_true (h.trans h2))
    generalize hb:decide (c0=48)=b at e2
    have e5:=hround b hb
    clear hround
    refine bh call234 func234 rfl (by kernel_rfl) rfl ?_;intro b0 hb0;have zF:=Ai results234 ntmps234
    cases b
    all_goals (
      first|have e6:=e5 rfl|have e6:True:=trivial
      repeat' first|simp only[ak,ag,zF,al,e0,e1,hc0,e2,e4,e6,Bt,Bf,ai,seval,ah]|exact rfl|refine aa (v:=.any) ?_|(refine mQ (bs:=?_) ?_ ?_ ?_ ?_;rotate_left 1;(iterate 2 (focus (simp only[zF,al,e0,e1,hc0,e2,e4,e6,Bt,Bf,ai,seval,ah];done)));(focus (simp only[zF,al,e0,e1,hc0,e2,e4,e6,Bt,Bf,ai,seval,ah]<;>exact rfl)))|(refine ba ?_)|(refine aU ?_)|((first|apply Ca|apply Cb)<;>intro hb)|refine Ai (by omega) ?_|(apply Ai<;>intro hb)
      (refine aQ bM (fun x:Nat×Nat=>s.length-x.1) (fun x=>x.1<=s.length/\ls 0 (s.take x.1)=some x.2) (b0+16) (fun x=>[(2,.int .i64 x.2),(4,.bool false),(25,.sl false 1 (s.map aI)),(26,.int .i64 s.length),(27,.int .i64 x.1)]) (fun x=>[]) ((0,0)) [] ?_ ?_ ?_ ?_;rotate_left 1;(focus (show b0<=_;omega));(focus (refine⟨?_,?_⟩<;>(try simp only[aX,kX,Lm,show ls 0 []=some 0 from rfl,ai,seval,ah,ap])<;>(try omega)));rotate_left 1)
      · exact⟨Nat.zero_le _,rfl⟩
      · rintro ⟨k,m⟩ ⟨hk,hv⟩
        simp only at hk hv
        have hmb:=(D6 _ _ _ hv).2
        have hkl:(s.take k).length=k:=by rw[List.length_take];omega
        rw[hkl]at hmb
        have hp16:(10:Nat) ^ k<=10 ^ 16:=Nat.pow_le_pow_right (by omega) (by omega)
        have hm16:m<10000000000000000:=by simp only[Nat.zero_add,Nat.one_mul]at hmb;exact Nat.lt_of_lt_of_le hmb hp16
        by_cases hlt:k<s.length
        · obtain⟨c,hc⟩:∃ c,s[k]? = some c:=⟨_,List.getElem?_eq_getElem hlt⟩
          have hh:(s.map aI)[k]? = some (aI c):=by rw[List.getElem?_map,hc];rfl
          have hd:decide (k<s.length)=true:=decide_eq_true hlt
          have hwk:IntKind.i64.wrap ((k:Int)+1)=((k+1:Nat):Int):=bd
          have hcn:c.toNat<256:=c.toNat_lt
          have hw1:IntKind.i64.wrap (c.toNat:Int)=(c.toNat:Int):=bd
          have hw2:IntKind.i64.wrap ((c.toNat:Int)-48)=(c.toNat:Int)-48:=bd
          have hnx:=FG hc
          rw[hv]at hnx
          simp only[Option.bind_some]at hnx
          cases hdc:tA c with
          | none =>
            have hno:ls 0 s=none:=by
              rw[hdc]at hnx
              rw[<- List.take_append_drop (k+1) s]
              exact vY hnx
            have hr:=lQ (s:=s) (by rw[hdl,hno];rfl)
            have hcs:decide ((c.toNat:Int)-48<0)=true\/(decide ((c.toNat:Int)-48<0)=false/\decide ((9:Int)<(c.toNat:Int)-48)=true):=by
              by_cases h1:(c.toNat:Int)-48<0
              · exact .inl (decide_eq_true h1)
              · refine .inr ⟨decide_eq_false h1,decide_eq_true ?_⟩
                unfold tA at hdc
                split at hdc
                · cases hdc
                · omega
            rcases hcs with h1|⟨h1,h2⟩
            · (repeat' first|simp only[ak,ag,zF,al,hh,hd,hlt,hw1,hw2,h1,hr,aI,Lm,ai,seval,ah]|exact rfl|refine aa (v:=.any) ?_|((first|apply Ca|apply Cb)<;>intro hb)|refine Ai (by omega) ?_|(apply Ai<;>intro hb)|refine Fin.pure ?_ ?_ ?_|simp only[ap])
            · (repeat' first|simp only[ak,ag,zF,al,hh,hd,hlt,hw1,hw2,h1,h2,hr,aI,Lm,ai,seval,ah]|exact rfl|refine aa (v:=.any) ?_|((first|apply Ca|apply Cb)<;>intro hb)|refine Ai (by omega) ?_|(apply Ai<;>intro hb)|refine Fin.pure ?_ ?_ ?_|simp only[ap])
          | some d =>
            obtain⟨d9,_,hcd⟩:=tB hdc
            rw[hdc]at hnx
            have h1:decide ((c.toNat:Int)-48<0)=false:=bm
            have h2:decide ((9:Int)<(c.toNat:Int)-48)=false:=bm
            have hw3:IntKind.i64.wrap (10*(m:Int))=10*(m:Int):=bd
            have hw4:IntKind.i64.wrap (10*(m:Int)+((c.toNat:Int)-48))=((10*m+d:Nat):Int):=by rw[bd];omega
            repeat' first|simp only[ak,ag,zF,al,hh,hd,hlt,hw1,hw2,hw3,hw4,h1,h2,aI,Lm,ai,seval,ah]|exact rfl|refine aa (v:=.any) ?_|((first|apply Ca|apply Cb)<;>intro hb)|refine Ai (by omega) ?_|(apply Ai<;>intro hb)
            all_goals ((refine aC bM ((k+1,10*m+d)) [] ?_ ?_ ?_ ?_;rotate_left 2;(focus (show b0<=_;omega));(focus (refine⟨?_,?_⟩<;>(try simp only[aX,kX,hwk,hw4,Lm,ai,seval,ah,ap])<;>(try omega)))))
            all_goals (first|(show s.length-(k+1)<s.length-k;omega)|exact⟨hlt,hnx⟩|skip)
        · have hke:k=s.length:=by omega
          subst hke
          rw[List.take_length]at hv
          have hd:decide (s.length<s.length)=false:=bm
          by_cases hmx:m<=9007199254740991
          · have hr:=uB (s:=s) (n:=m) (by rw[hdl,hv];simp only[Option.bind_some];rw[if_pos hmx])
            have h1:decide ((9007199254740991:Int)<(m:Int))=false:=bm
            (repeat' first|simp only[ak,ag,zF,al,hd,h1,hr,Lm,ai,seval,ah]|exact rfl|refine aa (v:=.any) ?_|((first|apply Ca|apply Cb)<;>intro hb)|refine Ai (by omega) ?_|(apply Ai<;>intro hb)|refine Fin.pure ?_ ?_ ?_|simp only[ap])
          · have hr:=lQ (s:=s) (by rw[hdl,hv];simp only[Option.bind_some];rw[if_neg hmx])
            have h1:decide ((9007199254740991:Int)<(m:Int))=true:=bR
            (repeat' first|simp only[ak,ag,zF,al,hd,h1,hr,Lm,ai,seval,ah]|exact rfl|refine aa (v:=.any) ?_|((first|apply Ca|apply Cb)<;>intro hb)|refine Ai (by omega) ?_|(apply Ai<;>intro hb)|refine Fin.pure ?_ ?_ ?_|simp only[ap]))
def sn (c:UInt8):Int:=IntKind.u8.wrap ((BitVec.ofInt IntKind.u8.bits (c.toNat:Int) ||| BitVec.ofInt IntKind.u8.bits 32).toNat:Int)
def AA (c:UInt8)(nm:Nat):Ev cx 256 nm [.int .u8 c.toNat] am.nil (.int .u8 (sn c)) []:=by
 have h:IntKind.u8.wrap ((BitVec.ofInt IntKind.u8.bits (c.toNat:Int) ||| BitVec.ofInt IntKind.u8.bits 32).toNat:Int)=sn c:=rfl
 refine bh call256 func256 rfl (by kernel_rfl) rfl ?_;intro b0 hb0
 (repeat' first|simp only[ak,ag,results256,ntmps256,al,h,ai,seval,ah]|exact rfl|refine aa (v:=.any) ?_|((first|apply Ca|apply Cb)<;>intro hb)|refine Ai (by omega) ?_|(apply Ai<;>intro hb)|refine Fin.pure ?_ ?_ ?_|simp only[ap])
def NL {c:UInt8}{d:Nat}(h:oc c=some d):(48<=c.toNat/\c.toNat<=57/\d=c.toNat-48)\/(57<c.toNat/\c.toNat≠95/\97<=sn c/\sn c<=102/\(d:Int)=sn c-87):=by
 have key:∀ n:Fin 256,(97<=n.val/\n.val<=102->sn (UInt8.ofNat n.val)=n.val)/\(65<=n.val/\n.val<=70->sn (UInt8.ofNat n.val)=n.val+32):=by decide +kernel
 have hk:=key ⟨c.toNat,c.toNat_lt⟩
 simp only[UInt8.ofNat_toNat]at hk
 unfold oc at h
 split at h
 ·rename_i h1;cases h;left;omega
 ·split at h
  ·rename_i h1;cases h;right
   have:=hk.1 h1
   omega
  ·split at h
   ·rename_i h1;cases h;right
    have:=hk.2 h1
    omega
   ·cases h
def wi:∀(s:List UInt8) (n:Nat) (c:UInt8),g9 n (s++[c])=(g9 n s).bind fun m=>(oc c).map fun d=>16*m+d
 | [],n,c=>by
  simp only[List.nil_append,g9,Option.bind_some]
  cases oc c<;>rfl
 | x::s,n,c=>by
  simp only[List.cons_append,g9]
  cases oc x with
  | none=>rfl
  | some d=>exact wi s _ c
def Gp {s:List UInt8}{k:Nat}{c:UInt8}(h:s[k]? = some c):g9 0 (s.take (k+1))=(g9 0 (s.take k)).bind fun m=>(oc c).map fun d=>16*m+d:=by
 obtain⟨hk,rfl⟩:=List.getElem?_eq_some_iff.1 h
 rw[List.take_succ_eq_append_getElem hk,wi]
def Eo {c:UInt8}{d:Nat}(h:oc c=some d):d<16:=by
 unfold oc at h
 split at h
 ·cases h;omega
 ·split at h
  ·cases h;omega
  ·split at h
   ·cases h;omega
   ·cases h
def x9:∀(s:List UInt8) (n m:Nat),g9 n s=some m->m<(n+1)*16 ^ s.length
 | [],n,m,h=>by simp only[g9]at h;cases h;simp
 | x::s,n,m,h=>by
  simp only[g9]at h
  cases hx:oc x with
  | none=>rw[hx]at h;cases h
  | some d =>
   rw[hx]at h
   have hd:=Eo hx
   refine Nat.lt_of_lt_of_le (x9 s _ m h) ?_
   rw[List.length_cons,Nat.pow_succ',<- Nat.mul_assoc]
   exact Nat.mul_le_mul_right _ (by omega)
def wh:∀ {s t:List UInt8} {n:Nat},g9 n s=none->g9 n (s++t)=none
 | [],t,n,h=>by simp[g9]at h
 | c::s,t,n,h=>by
  simp only[List.cons_append,g9]at h ⊢
  cases hc:oc c with
  | none=>rfl
  | some d=>rw[hc]at h;exact wh h
def xe (s:List UInt8):Bool:=s.all fun c=>(oc c).isSome
def Ag:∀(s:List UInt8) (n:Nat),xe s=(g9 n s).isSome
 | [],n=>rfl
 | c::s,n=>by
  simp only[xe,List.all_cons,g9]
  cases hc:oc c with
  | none=>simp
  | some d=>simpa [xe] using Ag s (16*n+d)
def E4 (s:List UInt8)(n:Nat)(hl:s.length<=6)(h0:s≠[])(hv:g9 0 s=some n)(nm:Nat):Ev cx 249 nm [.str s,.int .i64 16,.int .i64 32] am.nil (.tup [.int .u64 n,.val .nilIface]) []:=by
 have e0:(s==[])=false:=beq_false_of_ne h0
 have hsh:IntKind.u64.wrap (1*2 ^ min 32 IntKind.u64.bits)=4294967296:=by decide
 have hsh2:IntKind.u64.wrap (4294967296-1)=4294967295:=by decide
 have hsh3:IntKind.u64.wrap 4294967295=4294967295:=by decide
 have hL:s.length<=6:=hl
 have hw32:IntKind.u64.wrap 32=32:=by decide
 have q16:IntKind.u8.wrap 16=16:=by decide
 have q16':IntKind.u64.wrap 16=16:=by decide
 refine bh call249 func249 rfl (by kernel_rfl) rfl ?_;intro b0 hb0;have zF:=Ai results249 ntmps249
 repeat' first|simp only[ak,ag,zF,al,e0,hw32,hsh,hsh2,hsh3,ai,seval,ah]|exact rfl|refine aa (v:=.any) ?_|(refine mQ (bs:=?_) ?_ ?_ ?_ ?_;rotate_left 1;(iterate 2 (focus (simp only[zF,al,e0,hw32,hsh,hsh2,hsh3,ai,seval,ah];done)));(focus (simp only[zF,al,e0,hw32,hsh,hsh2,hsh3,ai,seval,ah]<;>exact rfl)))|(refine ba ?_)|(refine aU ?_)|((first|apply Ca|apply Cb)<;>intro hb)|refine Ai (by omega) ?_|(apply Ai<;>intro hb)
 (refine aQ bM (fun x:Nat×Nat=>s.length-x.1) (fun x=>x.1<=s.length/\g9 0 (s.take x.1)=some x.2) (b0+16) (fun x=>[(1,.int .i64 16),(8,.bool false),(9,.str s),(10,.int .u64 1152921504606846976),(11,.int .u64 4294967295),(12,.bool false),(13,.int .u64 x.2),(99,.sl false 1 (s.map aI)),(100,.int .i64 s.length),(101,.int .i64 x.1)]) (fun x=>[]) ((0,0)) [] ?_ ?_ ?_ ?_;rotate_left 1;(focus (show b0<=_;omega));(focus (refine⟨?_,?_⟩<;>(try simp only[aX,kX,Lm,show g9 0 []=some 0 from rfl,ai,seval,ah,ap])<;>(try omega)));rotate_left 1)
 ·exact⟨Nat.zero_le _,rfl⟩
 ·rintro ⟨k,m⟩ ⟨hk,hm⟩
  simp only at hk hm
  have hmb:=x9 _ _ _ hm
  have hkl:(s.take k).length=k:=by rw[List.length_take];omega
  rw[hkl]at hmb
  have hp6:(16:Nat) ^ k<=16 ^ 6:=Nat.pow_le_pow_right (by omega) (by omega)
  have hm6:m<16777216:=by simp only[Nat.zero_add,Nat.one_mul]at hmb;exact Nat.lt_of_lt_of_le hmb hp6
  by_cases hlt:k<s.length
  ·obtain⟨c,hc⟩:∃ c,s[k]? = some c:=⟨_,List.getElem?_eq_getElem hlt⟩
   have hh:(s.map aI)[k]? = some (aI c):=by rw[List.getElem?_map,hc];rfl
   have hd:decide (k<s.length)=true:=decide_eq_true hlt
   have hwk:IntKind.i64.wrap ((k:Int)+1)=((k+1:Nat):Int):=bd
   have hcn:c.toNat<256:=c.toNat_lt
   have hnx:=Gp hc
   rw[hm]at hnx
   simp only[Option.bind_some]at hnx
   cases hdc:oc c with
   | none =>
    exfalso
    rw[hdc]at hnx
    have:g9 0 s=none:=by rw[<- List.take_append_drop (k+1) s];exact wh hnx
    rw[this]at hv;cases hv
   | some d =>
    rw[hdc]at hnx
    have hdl:=Eo hdc
    have hd16:decide ((16:Int)<=(d:Int))=false:=bm
    have hcu:decide ((1152921504606846976:Int)<=(m:Int))=false:=bm
    have hw3:IntKind.u64.wrap ((m:Int)*16)=(m:Int)*16:=IntWalk.u64_in _ (by omega)
    have hw4:IntKind.u64.wrap (d:Int)=(d:Int):=IntWalk.u64_in _ (by omega)
    have hw5:IntKind.u64.wrap ((m:Int)*16+(d:Int))=((16*m+d:Nat):Int):=by rw[IntWalk.u64_in _ (by omega)];omega
    have hc1:decide (((16*m+d:Nat):Int)<(m:Int)*16)=false:=bm
    have hc2:decide ((4294967295:Int)<((16*m+d:Nat):Int))=false:=bm
    rcases NL hdc with ⟨h1,h2,h3⟩|⟨h1,h2,h3,h4,h5⟩
    ·have q95:((c.toNat:Int)==95)=false:=beq_false_of_ne (by omega)
     have q48:decide ((48:Int)<=(c.toNat:Int))=true:=bR
     have q57:decide ((c.toNat:Int)<=57)=true:=bR
     have hw1:IntKind.u8.wrap ((c.toNat:Int)-48)=(d:Int):=by rw[IntWalk.u8_in _ (by omega)];omega
     repeat' first|simp only[ak,ag,zF,al,hh,hd,hlt,hw1,hw3,hw4,hw5,hd16,hcu,hc1,hc2,q95,q48,q57,q16,q16',aI,Lm,ai,seval,ah]|exact rfl|refine aa (v:=.any) ?_|((first|apply Ca|apply Cb)<;>intro hb)|refine Ai (by omega) ?_|(apply Ai<;>intro hb)
     all_goals ((refine aC bM ((k+1,16*m+d)) [] ?_ ?_ ?_ ?_;rotate_left 2;(focus (show b0<=_;omega));(focus (refine⟨?_,?_⟩<;>(try simp only[aX,kX,hwk,Lm,ai,seval,ah,ap])<;>(try omega)))))
     all_goals (first|(show s.length-(k+1)<s.length-k;omega)|exact⟨hlt,hnx⟩|skip)
    ·have q95:((c.toNat:Int)==95)=false:=beq_false_of_ne (by omega)
     have q48:decide ((48:Int)<=(c.toNat:Int))=true:=bR
     have q57:decide ((c.toNat:Int)<=57)=false:=bm
     have q97:decide ((97:Int)<=sn c)=true:=bR
     have q122:decide (sn c<=(122:Int))=true:=bR
     have hw1:IntKind.u8.wrap (sn c-97)=sn c-97:=IntWalk.u8_in _ (by omega)
     have hw2:IntKind.u8.wrap (sn c-97+10)=(d:Int):=by rw[IntWalk.u8_in _ (by omega)];omega
     repeat' first|simp only[ak,ag,zF,al,hh,hd,hlt,hw1,hw2,hw3,hw4,hw5,hd16,hcu,hc1,hc2,q95,q48,q57,q97,q122,q16,q16',aI,Lm,ai,seval,ah]|exact rfl|refine aa (v:=.any) ?_|(first|(refine ae ?_ (AA c _) ?_)|(refine ab ?_ (fun _=>AA c _) ?_))|((first|apply Ca|apply Cb)<;>intro hb)|refine Ai (by omega) ?_|(apply Ai<;>intro hb)
     all_goals ((refine aC bM ((k+1,16*m+d)) [] ?_ ?_ ?_ ?_;rotate_left 2;(focus (show b0<=_;omega));(focus (refine⟨?_,?_⟩<;>(try simp only[aX,kX,hwk,Lm,ai,seval,ah,ap])<;>(try omega)))))
     all_goals (first|(show s.length-(k+1)<s.length-k;omega)|exact⟨hlt,hnx⟩|skip)
  ·have hke:k=s.length:=by omega
   subst hke
   rw[List.take_length,hv]at hm
   cases hm
   have hd:decide (s.length<s.length)=false:=bm
   (repeat' first|simp only[ak,ag,zF,al,hd,Lm,ai,seval,ah]|exact rfl|refine aa (v:=.any) ?_|((first|apply Ca|apply Cb)<;>intro hb)|refine Ai (by omega) ?_|(apply Ai<;>intro hb)|refine Fin.pure ?_ ?_ ?_|simp only[ap])
end Go.Proofs.YtlnlopnpcmahgaaGreatDoor
