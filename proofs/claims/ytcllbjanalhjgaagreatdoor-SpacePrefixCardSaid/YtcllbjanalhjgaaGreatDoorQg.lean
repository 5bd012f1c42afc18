/-
 Texts joined: XEc,XEd,XEh,XEt,XEi,XGc,XGd.
-/
import Derived.Test.YtcllbjanalhjgaaGreatDoorQf
namespace Go.Proofs.YtcllbjanalhjgaaGreatDoor
set_option maxRecDepth 100000
set_option maxHeartbeats 32000000
set_option linter.unusedSimpArgs false
set_option linter.unusedVariables false
open Go Go.RowKit Vm Go.Lib Tryz
open Vm renaming be→Ca,bo→Cb
open And renaming intro→Ai
open List renaming length_map→Lm,not_mem_nil→Ln,map_nil→Lo,map_cons→Lc,mem_cons→Lk
open Bool renaming not_false→Bf,not_true→Bt
def LM (l:List UInt8):List Int:=if 16384<l.length then [] else (dN l).getD []
def bH (z:Int):List V:=[.int .i64 z]
theorem Ji (s p:List UInt8):preB s p=Lib.hasPrefix s p:=by
 unfold preB Lib.hasPrefix
 rw[Bool.eq_iff_iff]
 simp only[Bool.and_eq_true,decide_eq_true_eq,beq_iff_eq,List.isPrefixOf_iff_prefix,List.prefix_iff_eq_take]
 constructor
 ·rintro ⟨_,h⟩;exact h.symm
 ·intro h
  refine⟨?_,h.symm⟩
  have:=congrArg List.length h
  simp at this;omega
theorem GA {s:List UInt8}{p:Nat}(hp:p<s.length):one (s.drop p)=if ((bp s p).1=65533∧preB (s.drop p) [239,191,189]=false)∨gD ((bp s p).1:Int)=false then none else some (((bp s p).1:Int),(bp s p).2):=by
 have hne:s.drop p≠[]:=by
  intro h
  have:=congrArg List.length h
  simp at this;omega
 have hd:bp s p=Lib.decodeL (s.drop p):=wZ ⟨s.toArray⟩ p
 rw[hd,Ji]
 exact tM hne
theorem rune_le (s:List UInt8)(p:Nat):(bp s p).1≤2147483647:=decode_le _ _
theorem A5 (l:List Int):(l.map bH).take l.length=l.map bH:=List.take_of_length_le (by simp)
theorem aU:Ob.isRow instCells=true:=rfl
theorem dY (l:List Int):plainLL (l.map bH)=true:=cn _ (fun _=>rfl) l
theorem uL (s:List UInt8)(hs:s.length≤bk)(nm:Nat):Ev cx 59 nm [.str s] ao.nil (.tup [.sl false 1 ((LM s).map bH),.int .i64 (aO s)]) []:=by
 unfold bk at hs
 by_cases hbig:16384<s.length
 ·have he:aO s=4:=by unfold aO;rw[if_pos hbig]
  have hq:LM s=[]:=by unfold LM;rw[if_pos hbig]
  have hd:decide ((16384:Int)<s.length)=true:=decide_eq_true (by omega)
  refine ay rfl (fun cargs w=>call59 cargs w) func59 rfl mixed (by kernel_rfl) rfl ?_;intro b0 hb0
  (repeat' first|simp only[am,ah,results59,ntmps59,ap,he,hq,hd,Lo,ag,seval,ae]|exact rfl|refine aa (v:=.any) ?_|((first|apply Ca|apply Cb)<;>intro hb)|refine Ai (by omega) ?_|(apply Ai<;>intro hb)|refine Fin.pure ?_ ?_ ?_|simp only[au])
 ·have hd:decide ((16384:Int)<s.length)=false:=decide_eq_false (by omega)
  refine ay rfl (fun cargs w=>call59 cargs w) func59 rfl mixed (by kernel_rfl) rfl ?_;intro b0 hb0
  repeat' first|simp only[am,ah,results59,ntmps59,ap,hd,ag,seval,ae]|exact rfl|refine aa (v:=.any) ?_|(refine lW (s:=?_) ?_ ?_ ?_;rotate_left 1;(iterate 2 (focus (simp only[results59,ntmps59,ap,hd,ag,seval,ae]<;>exact rfl))))|(refine bh ?_)|(refine ba ?_)|((first|apply Ca|apply Cb)<;>intro hb)|refine Ai (by omega) ?_|(apply Ai<;>intro hb)
  (refine aV cm (fun x:Nat×List Int=>s.length-x.1) (fun x=>x.1≤s.length∧x.2.length≤x.1∧dN s=(dN (s.drop x.1)).map (x.2 ++ ·)) (b0+16) (fun x=>[(0,.str s),(2,.own (b0+1) 0 x.2.length),(10,.ptr b0 0 0)]) (fun x=>[(b0,jH s x.1),(b0+1,⟨1,x.2.map bH⟩)]) ((0,[])) [some (b0+96),none] ?_ ?_ ?_ ?_;rotate_left 1;(focus (show b0≤_;omega));(focus (refine⟨?_,?_⟩<;>(try simp only[bj,aU,fk,dF,dY,ag,seval,ae,au])<;>(try omega)));rotate_left 1)
  ·refine⟨Nat.zero_le _,Nat.le_refl _,?_⟩
   rw[List.drop_zero];cases dN s<;>rfl
  ·rintro ⟨p,zs⟩ ⟨h1,h2,h3⟩
   by_cases hp:p<s.length
   ·have ho:=GA hp
    have hne:s.drop p≠[]:=by
     intro h
     have:=congrArg List.length h
     simp at this;omega
    have hrl:=rune_le s p
    have hw:IntKind.i64.wrap ((bp s p).1:Int)=((bp s p).1:Int):=aR (by omega) (by omega)
    have hle:(s.drop p).length≤bk:=by unfold bk;simp;omega
    by_cases hbad:((bp s p).1=65533∧preB (s.drop p) [239,191,189]=false)∨gD ((bp s p).1:Int)=false
    ·rw[if_pos hbad]at ho
     have hd0:dN s=none:=by
      have:=h3
      simp only at this
      rw[this,vj hne ho];rfl
     have he:aO s=50:=by unfold aO;rw[if_neg hbig,hd0]
     have hq:LM s=[]:=by unfold LM;rw[if_neg hbig,hd0];rfl
     cases hc:(((bp s p).1:Int)==65533)<;>cases hpr:preB (s.drop p) [239,191,189]<;>cases hm:gD ((bp s p).1:Int)
     all_goals (try (exfalso;simp_all;done))
     all_goals ((repeat' first|simp only[am,ah,results59,ntmps59,ap,he,hq,hp,hw,hc,hpr,hm,dY,Lo,List.length_drop,ag,seval,ae]|exact rfl|refine aa (v:=.any) ?_|(first|(refine ac ?_ (wc (s.drop p) [239,191,189] hle (by decide) _) ?_)|(refine ab ?_ (fun _=>wc (s.drop p) [239,191,189] hle (by decide) _) ?_)|(refine ac ?_ (jo ((bp s p).1:Int) _) ?_)|(refine ab ?_ (fun _=>jo ((bp s p).1:Int) _) ?_))|(refine gJ (s:=?_) (y:=?_) (p:=?_) ?_ ?_ ?_ ?_;rotate_left 3;(iterate 2 (focus (simp only[results59,ntmps59,ap,he,hq,hp,hw,hc,hpr,hm,dY,Lo,List.length_drop,ag,seval,ae]<;>exact rfl)));(focus (simp only[results59,ntmps59,ap,he,hq,hp,hw,hc,hpr,hm,dY,Lo,List.length_drop,ag,seval,ae]<;>omega)))|(refine bh ?_)|(refine ba ?_)|((first|apply Ca|apply Cb)<;>intro hb)|refine Ai (by omega) ?_|(apply Ai<;>intro hb)|refine Fin.pure ?_ ?_ ?_|simp only[au]))
    ·rw[if_neg hbad]at ho
     obtain⟨_,hm,_,hk1,hk2⟩:=lD ho
     have hds:dN s=(dN (s.drop (p+(bp s p).2))).map ((zs++[((bp s p).1:Int)]) ++ ·):=by
      have:=h3
      simp only at this
      rw[this,k9 ho,List.drop_drop]
      cases dN (s.drop (p+(bp s p).2))<;>simp
     have hlen:(s.drop p).length=s.length-p:=by simp
     have h2':zs.length≤p:=h2
     have hsn:zs.map bH++[[V.int .i64 ((bp s p).1:Int)]]=(zs++[((bp s p).1:Int)]).map bH:=by simp[bH]
     have hnx:p+(bp s p).2≤s.length:=by omega
     cases hc:(((bp s p).1:Int)==65533)<;>cases hpr:preB (s.drop p) [239,191,189]
     all_goals (try (exfalso;exact hbad (.inl ⟨by have:=beq_iff_eq.1 hc;omega,hpr⟩)))
     all_goals (repeat' first|simp only[am,ah,results59,ntmps59,ap,hp,hw,hc,hpr,hm,dY,hsn,Lo,List.length_drop,Lm,Nat.le_refl,Option.bind_some,Option.bind_none,ag,seval,ae]|exact rfl|refine aa (v:=.any) ?_|(first|(refine ac ?_ (wc (s.drop p) [239,191,189] hle (by decide) _) ?_)|(refine ab ?_ (fun _=>wc (s.drop p) [239,191,189] hle (by decide) _) ?_)|(refine ac ?_ (jo ((bp s p).1:Int) _) ?_)|(refine ab ?_ (fun _=>jo ((bp s p).1:Int) _) ?_))|(refine gJ (s:=?_) (y:=?_) (p:=?_) ?_ ?_ ?_ ?_;rotate_left 3;(iterate 2 (focus (simp only[results59,ntmps59,ap,hp,hw,hc,hpr,hm,dY,hsn,Lo,List.length_drop,Lm,Nat.le_refl,Option.bind_some,Option.bind_none,ag,seval,ae]<;>exact rfl)));(focus (simp only[results59,ntmps59,ap,hp,hw,hc,hpr,hm,dY,hsn,Lo,List.length_drop,Lm,Nat.le_refl,Option.bind_some,Option.bind_none,ag,seval,ae]<;>omega)))|(refine bh ?_)|(refine ba ?_)|((first|apply Ca|apply Cb)<;>intro hb)|refine Ai (by omega) ?_|(apply Ai<;>intro hb))
     all_goals ((refine aJ cm ((p+(bp s p).2,zs++[((bp s p).1:Int)])) [some b0,some (b0+416)] ?_ ?_ ?_ ?_;rotate_left 2;(focus (show b0≤_;omega));(focus (refine⟨?_,?_⟩<;>(try simp only[bj,aU,fk,dF,dY,hsn,Lm,List.length_append,List.length_cons,List.length_nil,Option.bind_some,Option.bind_none,ag,seval,ae,au])<;>(try omega)))))
     all_goals (first|(show s.length-(p+(bp s p).2)<s.length-p;omega)|exact⟨hnx,by simp;omega,hds⟩|skip)
   ·have hpe:p=s.length:=by omega
    subst hpe
    have he:aO s=0:=by
     rw[List.drop_length,qr]at h3
     unfold aO;rw[if_neg hbig,h3];rfl
    have hq:LM s=zs:=by
     rw[List.drop_length,qr]at h3
     unfold LM;rw[if_neg hbig,h3];simp
    (repeat' first|simp only[am,ah,results59,ntmps59,ap,he,hq,dY,A5,gg,iH,Lm,Nat.le_refl,ag,seval,ae]|exact rfl|refine aa (v:=.any) ?_|(refine nK (s:=?_) (y:=?_) (p:=?_) ?_ ?_ ?_ ?_;rotate_left 3;(iterate 2 (focus (simp only[results59,ntmps59,ap,he,hq,dY,A5,gg,iH,Lm,Nat.le_refl,ag,seval,ae]<;>exact rfl)));(focus (simp only[results59,ntmps59,ap,he,hq,dY,A5,gg,iH,Lm,Nat.le_refl,ag,seval,ae]<;>omega)))|(refine bh ?_)|(refine ba ?_)|((first|apply Ca|apply Cb)<;>intro hb)|refine Ai (by omega) ?_|(apply Ai<;>intro hb)|refine Fin.pure ?_ ?_ ?_|simp only[au])
theorem cP (s:List UInt8)(hs:s.length≤bk)(nm:Nat):Ev cx 30 nm [.str s] ao.nil (.int .i64 (aO s)) []:=by
 refine ay rfl (fun cargs w=>call30 cargs w) func30 rfl mixed (by kernel_rfl) rfl ?_;intro b0 hb0
 (repeat' first|simp only[am,ah,results30,ntmps30,ap,ag,seval,ae]|exact rfl|refine aa (v:=.any) ?_|(first|(refine ac ?_ (uL s hs _) ?_)|(refine ab ?_ (fun _=>uL s hs _) ?_))|((first|apply Ca|apply Cb)<;>intro hb)|refine Ai (by omega) ?_|(apply Ai<;>intro hb)|refine Fin.pure ?_ ?_ ?_|simp only[au])
theorem ff {z:Int}(h0:0≤z)(h1:z<256):aN (z.toNat.toUInt8)=[V.int .u8 z]:=by
 have:=kJ h0 h1
 unfold aN
 rw[this]
 congr 2;omega
theorem Mw {z:Int}(h0:0≤z)(h1:z≤127):(encodeRune z).map aN=[[V.int .u8 z]]:=by
 simp only[encodeRune,encodeRuneZ_one h0 h1,Lc,Lo]
 rw[ff (by omega) (by omega)]
theorem Nl {z:Int}(h0:128≤z)(h1:z≤2047):(encodeRune z).map aN=[[V.int .u8 (192+z / 64)],[V.int .u8 (128+z % 64)]]:=by
 simp only[encodeRune,encodeRuneZ_two h0 h1,Lc,Lo]
 rw[ff (by omega) (by omega),ff (by omega) (by omega)]
theorem Nm {z:Int}(h0:(2048≤z∧z<55296)∨(57343<z∧z≤65535)):(encodeRune z).map aN=[[V.int .u8 (224+z / 4096)],[V.int .u8 (128+z / 64 % 64)],[V.int .u8 (128+z % 64)]]:=by
 simp only[encodeRune,encodeRuneZ_three h0,Lc,Lo]
 rw[ff (by omega) (by omega),ff (by omega) (by omega),ff (by omega) (by omega)]
theorem Nn {z:Int}(h0:65536≤z)(h1:z≤1114111):(encodeRune z).map aN=[[V.int .u8 (240+z / 262144)],[V.int .u8 (128+z / 4096 % 64)],[V.int .u8 (128+z / 64 % 64)],[V.int .u8 (128+z % 64)]]:=by
 simp only[encodeRune,encodeRuneZ_four h0 h1,Lc,Lo]
 rw[ff (by omega) (by omega),ff (by omega) (by omega),ff (by omega) (by omega),ff (by omega) (by omega)]
theorem dX (bs:List UInt8):((bs.map aN).all fun r=>r.all V.one)=true:=by
 rw[List.all_eq_true]
 intro r hr
 obtain⟨c,_,rfl⟩:=List.mem_map.1 hr
 rfl
theorem c8 (t:TypeId):(Ob.typed t).isRow=true:=rfl
theorem A7 (s:Nat)(r:List (List V))(t:TypeId):Blk.ty (@Blk.mk s r (.typed t))=some t:=rfl
theorem bi (σ:List (Nat×Nat))(bs:List UInt8)(t:TypeId):Blk.ren σ (@Blk.mk 1 (bs.map aN) (.typed t)) = @Blk.mk 1 (bs.map aN) (.typed t):=by
 have h:plainLL (bs.map aN)=true:=cn _ (fun _=>rfl) bs
 simp only[Blk.ren,hH,h,if_true]
theorem aX (σ:List (Nat×Nat))(bs:List UInt8)(t:TypeId):Blk.renOk σ (@Blk.mk 1 (bs.map aN) (.typed t))=true:=by
 have h:plainLL (bs.map aN)=true:=cn _ (fun _=>rfl) bs
 simp only[Blk.renOk,fR,h,Bool.true_or,Bool.true_and]
 rfl
theorem jL (bs:List UInt8):plainLL (bs.map aN)=true:=cn _ (fun _=>rfl) bs
theorem CG {s:List UInt8}{k:Nat}{c:UInt8}(h:s[k]? = some c):j0 0 (s.take (k+1))=(j0 0 (s.take k)).bind fun m=>(rm c).map fun d=>10*m+d:=by
 obtain⟨hk,rfl⟩:=List.getElem?_eq_some_iff.1 h
 rw[List.take_succ_eq_append_getElem hk,tY]
theorem tX:∀ {s t:List UInt8} {n:Nat},j0 n s=none→j0 n (s++t)=none
 | [],t,n,h=>by simp[j0]at h
 | c::s,t,n,h=>by
  simp only[List.cons_append,j0]at h ⊢
  cases hc:rm c with
  | none=>rfl
  | some d=>rw[hc]at h;exact tX h
def yp (s:List UInt8):V:=match mO s with
 | some n=>.tup [.int .i64 n,.int .i64 0]
 | none=>.tup [.int .i64 0,.int .i64 60]
theorem ks {s:List UInt8}(h:mO s=none):yp s = .tup [.int .i64 0,.int .i64 60]:=by unfold yp;rw[h]
theorem sv {s:List UInt8}{n:Nat}(h:mO s=some n):yp s = .tup [.int .i64 n,.int .i64 0]:=by unfold yp;rw[h]
theorem Av (s:List UInt8)(hs:s.length≤bk)(nm:Nat):Ev cx 174 nm [.str s] ao.nil (yp s) []:=by
  unfold bk at hs
  by_cases hbad:s=[]∨16<s.length∨(s.head? = some 48∧s≠[48])
  · have hn:mO s=none:=by unfold mO;rw[if_pos hbad]
    have hr:=ks hn
    by_cases h0:s=[]
    · subst h0
      have e0:(([]:List UInt8)==[])=true:=rfl
      refine ay rfl (fun cargs w=>call174 cargs w) func174 rfl mixed (by kernel_rfl) rfl ?_;intro b0 hb0
      (repeat' first|simp only[am,ah,results174,ntmps174,ap,e0,hr,ag,seval,ae]|exact rfl|refine aa (v:=.any) ?_|((first|apply Ca|apply Cb)<;>intro hb)|refine Ai (by omega) ?_|(apply Ai<;>intro hb)|refine Fin.pure ?_ ?_ ?_|simp only[au])
    · have e0:(s==[])=false:=beq_false_of_ne h0
      by_cases h16:16<s.length
      · have e1:decide ((16:Int)<(s.length:Int))=true:=decide_eq_true (by omega)
        refine ay rfl (fun cargs w=>call174 cargs w) func174 rfl mixed (by kernel_rfl) rfl ?_;intro b0 hb0
        (repeat' first|simp only[am,ah,results174,ntmps174,ap,e0,e1,hr,ag,seval,ae]|exact rfl|refine aa (v:=.any) ?_|((first|apply Ca|apply Cb)<;>intro hb)|refine Ai (by omega) ?_|(apply Ai<;>intro hb)|refine Fin.pure ?_ ?_ ?_|simp only[au])
      · obtain⟨h1,h2⟩:s.head? = some 48∧s≠[48]:=by rcases hbad with h|h|h;exact absurd h h0;exact absurd h h16;exact h
        have e1:decide ((16:Int)<(s.length:Int))=false:=decide_eq_false (by omega)
        have e2:s[0]? = some 48:=by rw[← List.head?_eq_getElem?];exact h1
        have e3:(s==[48])=false:=beq_false_of_ne h2
        have e4:0<s.length:=List.length_pos_iff.2 h0
        have e6:(((48:UInt8).toNat:Int)==48)=true:=rfl
        refine ay rfl (fun cargs w=>call174 cargs w) func174 rfl mixed (by kernel_rfl) rfl ?_;intro b0 hb0
        (repeat' first|simp only[am,ah,results174,ntmps174,ap,e0,e1,e2,e3,e4,e6,hr,Bf,ag,seval,ae]|exact rfl|refine aa (v:=.any) ?_|((first|apply Ca|apply Cb)<;>intro hb)|refine Ai (by omega) ?_|(apply Ai<;>intro hb)|refine Fin.pure ?_ ?_ ?_|simp only[au])
  · have h0:s≠[]:=fun h=>hbad (.inl h)
    have h16:¬ 16<s.length:=fun h=>hbad (.inr (.inl h))
    have h48:¬(s.head? = some 48∧s≠[48]):=fun h=>hbad (.inr (.inr h))
    have hdl:mO s=(j0 0 s).bind fun n=>if n≤9007199254740991 then some n else none:=by unfold mO;rw[if_neg hbad]
    have e0:(s==[])=false:=beq_false_of_ne h0
    have e1:decide ((16:Int)<(s.length:Int))=false:=decide_eq_false (by omega)
    have e4:0<s.length:=List.length_pos_iff.2 h0
    obtain⟨c0,hc0⟩:∃ c,s[0]? = some c:=⟨_,List.getElem?_eq_getElem e4⟩
    have e2:((c0.toNat:Int)==48)=decide (c0=48):=fI c0 48
    have e3:c0=48→(s==[48])=true:=fun h=>by
      by_cases h5:s=[48]
      · rw[h5];rfl
      · exact absurd ⟨by rw[List.head?_eq_getElem?,hc0,h],h5⟩ h48
    have hround:∀ b:Bool,decide (c0=48)=b→(b=true→(s==[48])=true):=fun b h h2=>e3 (of_decide_eq_true (h.trans h2))
    generalize hb:decide (c0=48)=b at e2
    have e5:=hround b hb
    clear hround
    refine ay rfl (fun cargs w=>call174 cargs w) func174 rfl mixed (by kernel_rfl) rfl ?_;intro b0 hb0
    cases b
    all_goals (
      first|have e6:=e5 rfl|have e6:True:=trivial
      repeat' first|simp only[am,ah,results174,ntmps174,ap,e0,e1,hc0,e2,e4,e6,Bt,Bf,ag,seval,ae]|exact rfl|refine aa (v:=.any) ?_|(refine pK (bs:=?_) ?_ ?_ ?_ ?_;rotate_left 1;(iterate 2 (focus (simp only[results174,ntmps174,ap,e0,e1,hc0,e2,e4,e6,Bt,Bf,ag,seval,ae];done)));(focus (simp only[results174,ntmps174,ap,e0,e1,hc0,e2,e4,e6,Bt,Bf,ag,seval,ae]<;>exact rfl)))|(refine bh ?_)|(refine ba ?_)|((first|apply Ca|apply Cb)<;>intro hb)|refine Ai (by omega) ?_|(apply Ai<;>intro hb)
      (refine aV cm (fun x:Nat×Nat=>s.length-x.1) (fun x=>x.1≤s.length∧j0 0 (s.take x.1)=some x.2) (b0+16) (fun x=>[(2,.int .i64 x.2),(4,.bool false),(25,.sl false 1 (s.map aN)),(26,.int .i64 s.length),(27,.int .i64 x.1)]) (fun x=>[]) ((0,0)) [] ?_ ?_ ?_ ?_;rotate_left 1;(focus (show b0≤_;omega));(focus (refine⟨?_,?_⟩<;>(try simp only[bj,jL,Lm,show j0 0 []=some 0 from rfl,ag,seval,ae,au])<;>(try omega)));rotate_left 1)
      · exact⟨Nat.zero_le _,rfl⟩
      · rintro ⟨k,m⟩ ⟨hk,hv⟩
        simp only at hk hv
        have hmb:=(Bj _ _ _ hv).2
        have hkl:(s.take k).length=k:=by rw[List.length_take];omega
        rw[hkl]at hmb
        have hp16:(10:Nat) ^ k≤10 ^ 16:=Nat.pow_le_pow_right (by omega) (by omega)
        have hm16:m<10000000000000000:=by simp only[Nat.zero_add,Nat.one_mul]at hmb;exact Nat.lt_of_lt_of_le hmb hp16
        by_cases hlt:k<s.length
        · obtain⟨c,hc⟩:∃ c,s[k]? = some c:=⟨_,List.getElem?_eq_getElem hlt⟩
          have hh:(s.map aN)[k]? = some (aN c):=by rw[List.getElem?_map,hc];rfl
          have hd:decide (k<s.length)=true:=decide_eq_true hlt
          have hwk:IntKind.i64.wrap ((k:Int)+1)=((k+1:Nat):Int):=aR (by omega) (by omega)
          have hcn:c.toNat<256:=c.toNat_lt
          have hw1:IntKind.i64.wrap (c.toNat:Int)=(c.toNat:Int):=aR (by omega) (by omega)
          have hw2:IntKind.i64.wrap ((c.toNat:Int)-48)=(c.toNat:Int)-48:=aR (by omega) (by omega)
          have hnx:=CG hc
          rw[hv]at hnx
          simp only[Option.bind_some]at hnx
          cases hdc:rm c with
          | none =>
            have hno:j0 0 s=none:=by
              rw[hdc]at hnx
              rw[← List.take_append_drop (k+1) s]
              exact tX hnx
            have hr:=ks (s:=s) (by rw[hdl,hno];rfl)
            have hcs:decide ((c.toNat:Int)-48<0)=true∨(decide ((c.toNat:Int)-48<0)=false∧decide ((9:Int)<(c.toNat:Int)-48)=true):=by
              by_cases h1:(c.toNat:Int)-48<0
              · exact .inl (decide_eq_true h1)
              · refine .inr ⟨decide_eq_false h1,decide_eq_true ?_⟩
                unfold rm at hdc
                split at hdc
                · cases hdc
                · omega
            rcases hcs with h1|⟨h1,h2⟩
            · (repeat' first|simp only[am,ah,results174,ntmps174,ap,hh,hd,hlt,hw1,hw2,h1,hr,aN,Lm,ag,seval,ae]|exact rfl|refine aa (v:=.any) ?_|((first|apply Ca|apply Cb)<;>intro hb)|refine Ai (by omega) ?_|(apply Ai<;>intro hb)|refine Fin.pure ?_ ?_ ?_|simp only[au])
            · (repeat' first|simp only[am,ah,results174,ntmps174,ap,hh,hd,hlt,hw1,hw2,h1,h2,hr,aN,Lm,ag,seval,ae]|exact rfl|refine aa (v:=.any) ?_|((first|apply Ca|apply Cb)<;>intro hb)|refine Ai (by omega) ?_|(apply Ai<;>intro hb)|refine Fin.pure ?_ ?_ ?_|simp only[au])
          | some d =>
            obtain⟨d9,_,hcd⟩:=rn hdc
            rw[hdc]at hnx
            have h1:decide ((c.toNat:Int)-48<0)=false:=decide_eq_false (by omega)
            have h2:decide ((9:Int)<(c.toNat:Int)-48)=false:=decide_eq_false (by omega)
            have hw3:IntKind.i64.wrap (10*(m:Int))=10*(m:Int):=aR (by omega) (by omega)
            have hw4:IntKind.i64.wrap (10*(m:Int)+((c.toNat:Int)-48))=((10*m+d:Nat):Int):=by rw[aR (by omega) (by omega)];omega
            repeat' first|simp only[am,ah,results174,ntmps174,ap,hh,hd,hlt,hw1,hw2,hw3,hw4,h1,h2,aN,Lm,ag,seval,ae]|exact rfl|refine aa (v:=.any) ?_|((first|apply Ca|apply Cb)<;>intro hb)|refine Ai (by omega) ?_|(apply Ai<;>intro hb)
            all_goals ((refine aJ cm ((k+1,10*m+d)) [] ?_ ?_ ?_ ?_;rotate_left 2;(focus (show b0≤_;omega));(focus (refine⟨?_,?_⟩<;>(try simp only[bj,jL,hwk,hw4,Lm,ag,seval,ae,au])<;>(try omega)))))
            all_goals (first|(show s.length-(k+1)<s.length-k;omega)|exact⟨hlt,hnx⟩|skip)
        · have hke:k=s.length:=by omega
          subst hke
          rw[List.take_length]at hv
          have hd:decide (s.length<s.length)=false:=decide_eq_false (by omega)
          by_cases hmx:m≤9007199254740991
          · have hr:=sv (s:=s) (n:=m) (by rw[hdl,hv];simp only[Option.bind_some];rw[if_pos hmx])
            have h1:decide ((9007199254740991:Int)<(m:Int))=false:=decide_eq_false (by omega)
            (repeat' first|simp only[am,ah,results174,ntmps174,ap,hd,h1,hr,Lm,ag,seval,ae]|exact rfl|refine aa (v:=.any) ?_|((first|apply Ca|apply Cb)<;>intro hb)|refine Ai (by omega) ?_|(apply Ai<;>intro hb)|refine Fin.pure ?_ ?_ ?_|simp only[au])
          · have hr:=ks (s:=s) (by rw[hdl,hv];simp only[Option.bind_some];rw[if_neg hmx])
            have h1:decide ((9007199254740991:Int)<(m:Int))=true:=decide_eq_true (by omega)
            (repeat' first|simp only[am,ah,results174,ntmps174,ap,hd,h1,hr,Lm,ag,seval,ae]|exact rfl|refine aa (v:=.any) ?_|((first|apply Ca|apply Cb)<;>intro hb)|refine Ai (by omega) ?_|(apply Ai<;>intro hb)|refine Fin.pure ?_ ?_ ?_|simp only[au]))
def qj (c:UInt8):Int:=IntKind.u8.wrap ((BitVec.ofInt IntKind.u8.bits (c.toNat:Int) ||| BitVec.ofInt IntKind.u8.bits 32).toNat:Int)
theorem ya (c:UInt8)(nm:Nat):Ev cx 186 nm [.int .u8 c.toNat] ao.nil (.int .u8 (qj c)) []:=by
 have h:IntKind.u8.wrap ((BitVec.ofInt IntKind.u8.bits (c.toNat:Int) ||| BitVec.ofInt IntKind.u8.bits 32).toNat:Int)=qj c:=rfl
 refine ay rfl (fun cargs w=>call186 cargs w) func186 rfl mixed (by kernel_rfl) rfl ?_;intro b0 hb0
 (repeat' first|simp only[am,ah,results186,ntmps186,ap,h,ag,seval,ae]|exact rfl|refine aa (v:=.any) ?_|((first|apply Ca|apply Cb)<;>intro hb)|refine Ai (by omega) ?_|(apply Ai<;>intro hb)|refine Fin.pure ?_ ?_ ?_|simp only[au])
theorem IV {c:UInt8}{d:Nat}(h:mo c=some d):(48≤c.toNat∧c.toNat≤57∧d=c.toNat-48)∨(57<c.toNat∧c.toNat≠95∧97≤qj c∧qj c≤102∧(d:Int)=qj c-87):=by
 have key:∀ n:Fin 256,(97≤n.val∧n.val≤102→qj (UInt8.ofNat n.val)=n.val)∧(65≤n.val∧n.val≤70→qj (UInt8.ofNat n.val)=n.val+32):=by decide +kernel
 have hk:=key ⟨c.toNat,c.toNat_lt⟩
 simp only[UInt8.ofNat_toNat]at hk
 unfold mo at h
 split at h
 ·rename_i h1;cases h;left;omega
 ·split at h
  ·rename_i h1;cases h;right
   have:=hk.1 h1
   omega
  ·split at h
   ·rename_i h1;cases h;right
    have:=hk.2 h1
    omega
   ·cases h
theorem um:∀(s:List UInt8) (n:Nat) (c:UInt8),ga n (s++[c])=(ga n s).bind fun m=>(mo c).map fun d=>16*m+d
 | [],n,c=>by
  simp only[List.nil_append,ga,Option.bind_some]
  cases mo c<;>rfl
 | x::s,n,c=>by
  simp only[List.cons_append,ga]
  cases mo x with
  | none=>rfl
  | some d=>exact um s _ c
theorem Dm {s:List UInt8}{k:Nat}{c:UInt8}(h:s[k]? = some c):ga 0 (s.take (k+1))=(ga 0 (s.take k)).bind fun m=>(mo c).map fun d=>16*m+d:=by
 obtain⟨hk,rfl⟩:=List.getElem?_eq_some_iff.1 h
 rw[List.take_succ_eq_append_getElem hk,um]
theorem Bz {c:UInt8}{d:Nat}(h:mo c=some d):d<16:=by
 unfold mo at h
 split at h
 ·cases h;omega
 ·split at h
  ·cases h;omega
  ·split at h
   ·cases h;omega
   ·cases h
theorem vR:∀(s:List UInt8) (n m:Nat),ga n s=some m→m<(n+1)*16 ^ s.length
 | [],n,m,h=>by simp only[ga]at h;cases h;simp
 | x::s,n,m,h=>by
  simp only[ga]at h
  cases hx:mo x with
  | none=>rw[hx]at h;cases h
  | some d =>
   rw[hx]at h
   have hd:=Bz hx
   refine Nat.lt_of_lt_of_le (vR s _ m h) ?_
   rw[List.length_cons,Nat.pow_succ',← Nat.mul_assoc]
   exact Nat.mul_le_mul_right _ (by omega)
theorem ul:∀ {s t:List UInt8} {n:Nat},ga n s=none→ga n (s++t)=none
 | [],t,n,h=>by simp[ga]at h
 | c::s,t,n,h=>by
  simp only[List.cons_append,ga]at h ⊢
  cases hc:mo c with
  | none=>rfl
  | some d=>rw[hc]at h;exact ul h
def u4 (s:List UInt8):Bool:=s.all fun c=>(mo c).isSome
theorem xU:∀(s:List UInt8) (n:Nat),u4 s=(ga n s).isSome
 | [],n=>rfl
 | c::s,n=>by
  simp only[u4,List.all_cons,ga]
  cases hc:mo c with
  | none=>simp
  | some d=>simpa [u4] using xU s (16*n+d)
theorem B6 (s:List UInt8)(n:Nat)(hl:s.length≤6)(h0:s≠[])(hv:ga 0 s=some n)(nm:Nat):Ev cx 181 nm [.str s,.int .i64 16,.int .i64 32] ao.nil (.tup [.int .u64 n,.val .nilIface]) []:=by
 have e0:(s==[])=false:=beq_false_of_ne h0
 have hsh:IntKind.u64.wrap (1*2 ^ min 32 IntKind.u64.bits)=4294967296:=by decide
 have hsh2:IntKind.u64.wrap (4294967296-1)=4294967295:=by decide
 have hsh3:IntKind.u64.wrap 4294967295=4294967295:=by decide
 have hL:s.length≤6:=hl
 have hw32:IntKind.u64.wrap 32=32:=by decide
 have q16:IntKind.u8.wrap 16=16:=by decide
 have q16':IntKind.u64.wrap 16=16:=by decide
 refine ay rfl (fun cargs w=>call181 cargs w) func181 rfl mixed (by kernel_rfl) rfl ?_;intro b0 hb0
 repeat' first|simp only[am,ah,results181,ntmps181,ap,e0,hw32,hsh,hsh2,hsh3,ag,seval,ae]|exact rfl|refine aa (v:=.any) ?_|(refine pK (bs:=?_) ?_ ?_ ?_ ?_;rotate_left 1;(iterate 2 (focus (simp only[results181,ntmps181,ap,e0,hw32,hsh,hsh2,hsh3,ag,seval,ae];done)));(focus (simp only[results181,ntmps181,ap,e0,hw32,hsh,hsh2,hsh3,ag,seval,ae]<;>exact rfl)))|(refine bh ?_)|(refine ba ?_)|((first|apply Ca|apply Cb)<;>intro hb)|refine Ai (by omega) ?_|(apply Ai<;>intro hb)
 (refine aV cm (fun x:Nat×Nat=>s.length-x.1) (fun x=>x.1≤s.length∧ga 0 (s.take x.1)=some x.2) (b0+16) (fun x=>[(1,.int .i64 16),(8,.bool false),(9,.str s),(10,.int .u64 1152921504606846976),(11,.int .u64 4294967295),(12,.bool false),(13,.int .u64 x.2),(99,.sl false 1 (s.map aN)),(100,.int .i64 s.length),(101,.int .i64 x.1)]) (fun x=>[]) ((0,0)) [] ?_ ?_ ?_ ?_;rotate_left 1;(focus (show b0≤_;omega));(focus (refine⟨?_,?_⟩<;>(try simp only[bj,jL,Lm,show ga 0 []=some 0 from rfl,ag,seval,ae,au])<;>(try omega)));rotate_left 1)
 ·exact⟨Nat.zero_le _,rfl⟩
 ·rintro ⟨k,m⟩ ⟨hk,hm⟩
  simp only at hk hm
  have hmb:=vR _ _ _ hm
  have hkl:(s.take k).length=k:=by rw[List.length_take];omega
  rw[hkl]at hmb
  have hp6:(16:Nat) ^ k≤16 ^ 6:=Nat.pow_le_pow_right (by omega) (by omega)
  have hm6:m<16777216:=by simp only[Nat.zero_add,Nat.one_mul]at hmb;exact Nat.lt_of_lt_of_le hmb hp6
  by_cases hlt:k<s.length
  ·obtain⟨c,hc⟩:∃ c,s[k]? = some c:=⟨_,List.getElem?_eq_getElem hlt⟩
   have hh:(s.map aN)[k]? = some (aN c):=by rw[List.getElem?_map,hc];rfl
   have hd:decide (k<s.length)=true:=decide_eq_true hlt
   have hwk:IntKind.i64.wrap ((k:Int)+1)=((k+1:Nat):Int):=aR (by omega) (by omega)
   have hcn:c.toNat<256:=c.toNat_lt
   have hnx:=Dm hc
   rw[hm]at hnx
   simp only[Option.bind_some]at hnx
   cases hdc:mo c with
   | none =>
    exfalso
    rw[hdc]at hnx
    have:ga 0 s=none:=by rw[← List.take_append_drop (k+1) s];exact ul hnx
    rw[this]at hv;cases hv
   | some d =>
    rw[hdc]at hnx
    have hdl:=Bz hdc
    have hd16:decide ((16:Int)≤(d:Int))=false:=decide_eq_false (by omega)
    have hcu:decide ((1152921504606846976:Int)≤(m:Int))=false:=decide_eq_false (by omega)
    have hw3:IntKind.u64.wrap ((m:Int)*16)=(m:Int)*16:=IntWalk.u64_in _ (by omega)
    have hw4:IntKind.u64.wrap (d:Int)=(d:Int):=IntWalk.u64_in _ (by omega)
    have hw5:IntKind.u64.wrap ((m:Int)*16+(d:Int))=((16*m+d:Nat):Int):=by rw[IntWalk.u64_in _ (by omega)];omega
    have hc1:decide (((16*m+d:Nat):Int)<(m:Int)*16)=false:=decide_eq_false (by omega)
    have hc2:decide ((4294967295:Int)<((16*m+d:Nat):Int))=false:=decide_eq_false (by omega)
    rcases IV hdc with ⟨h1,h2,h3⟩|⟨h1,h2,h3,h4,h5⟩
    ·have q95:((c.toNat:Int)==95)=false:=beq_false_of_ne (by omega)
     have q48:decide ((48:Int)≤(c.toNat:Int))=true:=decide_eq_true (by omega)
     have q57:decide ((c.toNat:Int)≤57)=true:=decide_eq_true (by omega)
     have hw1:IntKind.u8.wrap ((c.toNat:Int)-48)=(d:Int):=by rw[IntWalk.u8_in _ (by omega)];omega
     repeat' first|simp only[am,ah,results181,ntmps181,ap,hh,hd,hlt,hw1,hw3,hw4,hw5,hd16,hcu,hc1,hc2,q95,q48,q57,q16,q16',aN,Lm,ag,seval,ae]|exact rfl|refine aa (v:=.any) ?_|((first|apply Ca|apply Cb)<;>intro hb)|refine Ai (by omega) ?_|(apply Ai<;>intro hb)
     all_goals ((refine aJ cm ((k+1,16*m+d)) [] ?_ ?_ ?_ ?_;rotate_left 2;(focus (show b0≤_;omega));(focus (refine⟨?_,?_⟩<;>(try simp only[bj,jL,hwk,Lm,ag,seval,ae,au])<;>(try omega)))))
     all_goals (first|(show s.length-(k+1)<s.length-k;omega)|exact⟨hlt,hnx⟩|skip)
    ·have q95:((c.toNat:Int)==95)=false:=beq_false_of_ne (by omega)
     have q48:decide ((48:Int)≤(c.toNat:Int))=true:=decide_eq_true (by omega)
     have q57:decide ((c.toNat:Int)≤57)=false:=decide_eq_false (by omega)
     have q97:decide ((97:Int)≤qj c)=true:=decide_eq_true (by omega)
     have q122:decide (qj c≤(122:Int))=true:=decide_eq_true (by omega)
     have hw1:IntKind.u8.wrap (qj c-97)=qj c-97:=IntWalk.u8_in _ (by omega)
     have hw2:IntKind.u8.wrap (qj c-97+10)=(d:Int):=by rw[IntWalk.u8_in _ (by omega)];omega
     repeat' first|simp only[am,ah,results181,ntmps181,ap,hh,hd,hlt,hw1,hw2,hw3,hw4,hw5,hd16,hcu,hc1,hc2,q95,q48,q57,q97,q122,q16,q16',aN,Lm,ag,seval,ae]|exact rfl|refine aa (v:=.any) ?_|(first|(refine ac ?_ (ya c _) ?_)|(refine ab ?_ (fun _=>ya c _) ?_))|((first|apply Ca|apply Cb)<;>intro hb)|refine Ai (by omega) ?_|(apply Ai<;>intro hb)
     all_goals ((refine aJ cm ((k+1,16*m+d)) [] ?_ ?_ ?_ ?_;rotate_left 2;(focus (show b0≤_;omega));(focus (refine⟨?_,?_⟩<;>(try simp only[bj,jL,hwk,Lm,ag,seval,ae,au])<;>(try omega)))))
     all_goals (first|(show s.length-(k+1)<s.length-k;omega)|exact⟨hlt,hnx⟩|skip)
  ·have hke:k=s.length:=by omega
   subst hke
   rw[List.take_length,hv]at hm
   cases hm
   have hd:decide (s.length<s.length)=false:=decide_eq_false (by omega)
   (repeat' first|simp only[am,ah,results181,ntmps181,ap,hd,Lm,ag,seval,ae]|exact rfl|refine aa (v:=.any) ?_|((first|apply Ca|apply Cb)<;>intro hb)|refine Ai (by omega) ?_|(apply Ai<;>intro hb)|refine Fin.pure ?_ ?_ ?_|simp only[au])
end Go.Proofs.YtcllbjanalhjgaaGreatDoor
