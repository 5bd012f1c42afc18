/-
 Texts joined: XEc,XEd,XEh,XEt,XEi,XGc,XGd.
-/
import Derived.Test.YtjdjclecdfhciaaGreatDoorQf
namespace Go.Proofs.YtjdjclecdfhciaaGreatDoor
set_option maxRecDepth 100000
set_option maxHeartbeats 32000000
set_option linter.unusedSimpArgs false
set_option linter.unusedVariables false
open Go Go.RowKit Vm Go.Lib Tryz
open Vm renaming cond_bool→Ca,cond_bit→Cb
open And renaming intro→Ai
open List renaming length_map→Lm,not_mem_nil→Ln,map_nil→Lo,map_cons→Lc,mem_cons→Lk
open Bool renaming not_false→Bf,not_true→Bt
def pts (l:List UInt8):List Int:=if 16384<l.length then [] else (dec l).getD []
def intRow (z:Int):List V:=[.int .i64 z]
theorem preB_eq (s p:List UInt8):preB s p=Lib.hasPrefix s p:=by
 unfold preB Lib.hasPrefix
 rw[Bool.eq_iff_iff]
 simp only[Bool.and_eq_true,decide_eq_true_eq,beq_iff_eq,List.isPrefixOf_iff_prefix,List.prefix_iff_eq_take]
 constructor
 ·rintro ⟨_,h⟩;exact h.symm
 ·intro h
  refine⟨?_,h.symm⟩
  have:=congrArg List.length h
  simp at this;omega
theorem one_at {s:List UInt8}{p:Nat}(hp:p<s.length):one (s.drop p)=if ((runeAt s p).1=65533∧preB (s.drop p) [239,191,189]=false)∨may ((runeAt s p).1:Int)=false then none else some (((runeAt s p).1:Int),(runeAt s p).2):=by
 have hne:s.drop p≠[]:=by
  intro h
  have:=congrArg List.length h
  simp at this;omega
 have hd:runeAt s p=Lib.decodeL (s.drop p):=decode_drop ⟨s.toArray⟩ p
 rw[hd,preB_eq]
 exact one_of_decode hne
theorem rune_le (s:List UInt8)(p:Nat):(runeAt s p).1≤2147483647:=decode_le _ _
theorem take_i (l:List Int):(l.map intRow).take l.length=l.map intRow:=List.take_of_length_le (by simp)
theorem isRow_inst:Ob.isRow instCells=true:=rfl
theorem plain_i (l:List Int):plainLL (l.map intRow)=true:=plainLL_map _ (fun _=>rfl) l
theorem points_ev (s:List UInt8)(hs:s.length≤lim)(nm:Nat):Ev cx 96 nm [.str s] Mem.nil (.tup [.sl false 1 ((pts s).map intRow),.int .i64 (ptsErr s)]) []:=by
 unfold lim at hs
 by_cases hbig:16384<s.length
 ·have he:ptsErr s=4:=by unfold ptsErr;rw[if_pos hbig]
  have hq:pts s=[]:=by unfold pts;rw[if_pos hbig]
  have hd:decide ((16384:Int)<s.length)=true:=decide_eq_true (by omega)
  refine ev_go rfl (fun cargs w=>call96 cargs w) func96 rfl mixed (by kernel_rfl) rfl ?_;intro b0 hb0
  (repeat' first|simp only[fins,mems,results96,ntmps96,wks,he,hq,hd,Lo,vcs,seval,tys]|exact rfl|refine call_off (v:=.any) ?_|((first|apply Ca|apply Cb)<;>intro hb)|refine Ai (by omega) ?_|(apply Ai<;>intro hb)|refine Fin.pure ?_ ?_ ?_|simp only[injs])
 ·have hd:decide ((16384:Int)<s.length)=false:=decide_eq_false (by omega)
  refine ev_go rfl (fun cargs w=>call96 cargs w) func96 rfl mixed (by kernel_rfl) rfl ?_;intro b0 hb0
  repeat' first|simp only[fins,mems,results96,ntmps96,wks,hd,vcs,seval,tys]|exact rfl|refine call_off (v:=.any) ?_|(refine ext_range (s:=?_) ?_ ?_ ?_;rotate_left 1;(iterate 2 (focus (simp only[results96,ntmps96,wks,hd,vcs,seval,tys]<;>exact rfl))))|(refine extG_true ?_)|(refine extG_false ?_)|((first|apply Ca|apply Cb)<;>intro hb)|refine Ai (by omega) ?_|(apply Ai<;>intro hb)
  (refine loop_can2 cxG (fun x:Nat×List Int=>s.length-x.1) (fun x=>x.1≤s.length∧x.2.length≤x.1∧dec s=(dec (s.drop x.1)).map (x.2 ++ ·)) (b0+16) (fun x=>[(0,.str s),(2,.own (b0+1) 0 x.2.length),(10,.ptr b0 0 0)]) (fun x=>[(b0,iterK s x.1),(b0+1,⟨1,x.2.map intRow⟩)]) ((0,[])) [some (b0+96),none] ?_ ?_ ?_ ?_;rotate_left 1;(focus (show b0≤_;omega));(focus (refine⟨?_,?_⟩<;>(try simp only[cans,isRow_inst,ren_iter,renOk_iter,plain_i,vcs,seval,tys,injs])<;>(try omega)));rotate_left 1)
  ·refine⟨Nat.zero_le _,Nat.le_refl _,?_⟩
   rw[List.drop_zero];cases dec s<;>rfl
  ·rintro ⟨p,zs⟩ ⟨h1,h2,h3⟩
   by_cases hp:p<s.length
   ·have ho:=one_at hp
    have hne:s.drop p≠[]:=by
     intro h
     have:=congrArg List.length h
     simp at this;omega
    have hrl:=rune_le s p
    have hw:IntKind.i64.wrap ((runeAt s p).1:Int)=((runeAt s p).1:Int):=wrap_in (by omega) (by omega)
    have hle:(s.drop p).length≤lim:=by unfold lim;simp;omega
    by_cases hbad:((runeAt s p).1=65533∧preB (s.drop p) [239,191,189]=false)∨may ((runeAt s p).1:Int)=false
    ·rw[if_pos hbad]at ho
     have hd0:dec s=none:=by
      have:=h3
      simp only at this
      rw[this,dec_bad hne ho];rfl
     have he:ptsErr s=50:=by unfold ptsErr;rw[if_neg hbig,hd0]
     have hq:pts s=[]:=by unfold pts;rw[if_neg hbig,hd0];rfl
     cases hc:(((runeAt s p).1:Int)==65533)<;>cases hpr:preB (s.drop p) [239,191,189]<;>cases hm:may ((runeAt s p).1:Int)
     all_goals (try (exfalso;simp_all;done))
     all_goals ((repeat' first|simp only[fins,mems,results96,ntmps96,wks,he,hq,hp,hw,hc,hpr,hm,plain_i,Lo,List.length_drop,vcs,seval,tys]|exact rfl|refine call_off (v:=.any) ?_|(first|(refine call_fn ?_ (pre_ev (s.drop p) [239,191,189] hle (by decide) _) ?_)|(refine call_fn_g ?_ (fun _=>pre_ev (s.drop p) [239,191,189] hle (by decide) _) ?_)|(refine call_fn ?_ (tMay_ev ((runeAt s p).1:Int) _) ?_)|(refine call_fn_g ?_ (fun _=>tMay_ev ((runeAt s p).1:Int) _) ?_))|(refine ext_next (s:=?_) (y:=?_) (p:=?_) ?_ ?_ ?_ ?_;rotate_left 3;(iterate 2 (focus (simp only[results96,ntmps96,wks,he,hq,hp,hw,hc,hpr,hm,plain_i,Lo,List.length_drop,vcs,seval,tys]<;>exact rfl)));(focus (simp only[results96,ntmps96,wks,he,hq,hp,hw,hc,hpr,hm,plain_i,Lo,List.length_drop,vcs,seval,tys]<;>omega)))|(refine extG_true ?_)|(refine extG_false ?_)|((first|apply Ca|apply Cb)<;>intro hb)|refine Ai (by omega) ?_|(apply Ai<;>intro hb)|refine Fin.pure ?_ ?_ ?_|simp only[injs]))
    ·rw[if_neg hbad]at ho
     obtain⟨_,hm,_,hk1,hk2⟩:=one_some ho
     have hds:dec s=(dec (s.drop (p+(runeAt s p).2))).map ((zs++[((runeAt s p).1:Int)]) ++ ·):=by
      have:=h3
      simp only at this
      rw[this,dec_step ho,List.drop_drop]
      cases dec (s.drop (p+(runeAt s p).2))<;>simp
     have hlen:(s.drop p).length=s.length-p:=by simp
     have h2':zs.length≤p:=h2
     have hsn:zs.map intRow++[[V.int .i64 ((runeAt s p).1:Int)]]=(zs++[((runeAt s p).1:Int)]).map intRow:=by simp[intRow]
     have hnx:p+(runeAt s p).2≤s.length:=by omega
     cases hc:(((runeAt s p).1:Int)==65533)<;>cases hpr:preB (s.drop p) [239,191,189]
     all_goals (try (exfalso;exact hbad (.inl ⟨by have:=beq_iff_eq.1 hc;omega,hpr⟩)))
     all_goals (repeat' first|simp only[fins,mems,results96,ntmps96,wks,hp,hw,hc,hpr,hm,plain_i,hsn,Lo,List.length_drop,Lm,Nat.le_refl,Option.bind_some,Option.bind_none,vcs,seval,tys]|exact rfl|refine call_off (v:=.any) ?_|(first|(refine call_fn ?_ (pre_ev (s.drop p) [239,191,189] hle (by decide) _) ?_)|(refine call_fn_g ?_ (fun _=>pre_ev (s.drop p) [239,191,189] hle (by decide) _) ?_)|(refine call_fn ?_ (tMay_ev ((runeAt s p).1:Int) _) ?_)|(refine call_fn_g ?_ (fun _=>tMay_ev ((runeAt s p).1:Int) _) ?_))|(refine ext_next (s:=?_) (y:=?_) (p:=?_) ?_ ?_ ?_ ?_;rotate_left 3;(iterate 2 (focus (simp only[results96,ntmps96,wks,hp,hw,hc,hpr,hm,plain_i,hsn,Lo,List.length_drop,Lm,Nat.le_refl,Option.bind_some,Option.bind_none,vcs,seval,tys]<;>exact rfl)));(focus (simp only[results96,ntmps96,wks,hp,hw,hc,hpr,hm,plain_i,hsn,Lo,List.length_drop,Lm,Nat.le_refl,Option.bind_some,Option.bind_none,vcs,seval,tys]<;>omega)))|(refine extG_true ?_)|(refine extG_false ?_)|((first|apply Ca|apply Cb)<;>intro hb)|refine Ai (by omega) ?_|(apply Ai<;>intro hb))
     all_goals ((refine again_can2 cxG ((p+(runeAt s p).2,zs++[((runeAt s p).1:Int)])) [some b0,some (b0+416)] ?_ ?_ ?_ ?_;rotate_left 2;(focus (show b0≤_;omega));(focus (refine⟨?_,?_⟩<;>(try simp only[cans,isRow_inst,ren_iter,renOk_iter,plain_i,hsn,Lm,List.length_append,List.length_cons,List.length_nil,Option.bind_some,Option.bind_none,vcs,seval,tys,injs])<;>(try omega)))))
     all_goals (first|(show s.length-(p+(runeAt s p).2)<s.length-p;omega)|exact⟨hnx,by simp;omega,hds⟩|skip)
   ·have hpe:p=s.length:=by omega
    subst hpe
    have he:ptsErr s=0:=by
     rw[List.drop_length,dec_nil]at h3
     unfold ptsErr;rw[if_neg hbig,h3];rfl
    have hq:pts s=zs:=by
     rw[List.drop_length,dec_nil]at h3
     unfold pts;rw[if_neg hbig,h3];simp
    (repeat' first|simp only[fins,mems,results96,ntmps96,wks,he,hq,plain_i,take_i,memL_cons,memL_nil,Lm,Nat.le_refl,vcs,seval,tys]|exact rfl|refine call_off (v:=.any) ?_|(refine ext_over (s:=?_) (y:=?_) (p:=?_) ?_ ?_ ?_ ?_;rotate_left 3;(iterate 2 (focus (simp only[results96,ntmps96,wks,he,hq,plain_i,take_i,memL_cons,memL_nil,Lm,Nat.le_refl,vcs,seval,tys]<;>exact rfl)));(focus (simp only[results96,ntmps96,wks,he,hq,plain_i,take_i,memL_cons,memL_nil,Lm,Nat.le_refl,vcs,seval,tys]<;>omega)))|(refine extG_true ?_)|(refine extG_false ?_)|((first|apply Ca|apply Cb)<;>intro hb)|refine Ai (by omega) ?_|(apply Ai<;>intro hb)|refine Fin.pure ?_ ?_ ?_|simp only[injs])
theorem tCheck_ev (s:List UInt8)(hs:s.length≤lim)(nm:Nat):Ev cx 51 nm [.str s] Mem.nil (.int .i64 (ptsErr s)) []:=by
 refine ev_go rfl (fun cargs w=>call51 cargs w) func51 rfl mixed (by kernel_rfl) rfl ?_;intro b0 hb0
 (repeat' first|simp only[fins,mems,results51,ntmps51,wks,vcs,seval,tys]|exact rfl|refine call_off (v:=.any) ?_|(first|(refine call_fn ?_ (points_ev s hs _) ?_)|(refine call_fn_g ?_ (fun _=>points_ev s hs _) ?_))|((first|apply Ca|apply Cb)<;>intro hb)|refine Ai (by omega) ?_|(apply Ai<;>intro hb)|refine Fin.pure ?_ ?_ ?_|simp only[injs])
theorem enc_rows {z:Int}(h0:0≤z)(h1:z<256):byteRow (z.toNat.toUInt8)=[V.int .u8 z]:=by
 have:=mod64 h0 h1
 unfold byteRow
 rw[this]
 congr 2;omega
theorem enc1 {z:Int}(h0:0≤z)(h1:z≤127):(encodeRune z).map byteRow=[[V.int .u8 z]]:=by
 simp only[encodeRune,encodeRuneZ_one h0 h1,Lc,Lo]
 rw[enc_rows (by omega) (by omega)]
theorem enc2 {z:Int}(h0:128≤z)(h1:z≤2047):(encodeRune z).map byteRow=[[V.int .u8 (192+z / 64)],[V.int .u8 (128+z % 64)]]:=by
 simp only[encodeRune,encodeRuneZ_two h0 h1,Lc,Lo]
 rw[enc_rows (by omega) (by omega),enc_rows (by omega) (by omega)]
theorem enc3 {z:Int}(h0:(2048≤z∧z<55296)∨(57343<z∧z≤65535)):(encodeRune z).map byteRow=[[V.int .u8 (224+z / 4096)],[V.int .u8 (128+z / 64 % 64)],[V.int .u8 (128+z % 64)]]:=by
 simp only[encodeRune,encodeRuneZ_three h0,Lc,Lo]
 rw[enc_rows (by omega) (by omega),enc_rows (by omega) (by omega),enc_rows (by omega) (by omega)]
theorem enc4 {z:Int}(h0:65536≤z)(h1:z≤1114111):(encodeRune z).map byteRow=[[V.int .u8 (240+z / 262144)],[V.int .u8 (128+z / 4096 % 64)],[V.int .u8 (128+z / 64 % 64)],[V.int .u8 (128+z % 64)]]:=by
 simp only[encodeRune,encodeRuneZ_four h0 h1,Lc,Lo]
 rw[enc_rows (by omega) (by omega),enc_rows (by omega) (by omega),enc_rows (by omega) (by omega),enc_rows (by omega) (by omega)]
theorem one_bsI (bs:List UInt8):((bs.map byteRow).all fun r=>r.all V.one)=true:=by
 rw[List.all_eq_true]
 intro r hr
 obtain⟨c,_,rfl⟩:=List.mem_map.1 hr
 rfl
theorem isRow_typed (t:TypeId):(Ob.typed t).isRow=true:=rfl
theorem tyT (s:Nat)(r:List (List V))(t:TypeId):Blk.ty (@Blk.mk s r (.typed t))=some t:=rfl
theorem ren_bytesI (σ:List (Nat×Nat))(bs:List UInt8)(t:TypeId):Blk.ren σ (@Blk.mk 1 (bs.map byteRow) (.typed t)) = @Blk.mk 1 (bs.map byteRow) (.typed t):=by
 have h:plainLL (bs.map byteRow)=true:=plainLL_map _ (fun _=>rfl) bs
 simp only[Blk.ren,renLL,h,if_true]
theorem renOk_bytesI (σ:List (Nat×Nat))(bs:List UInt8)(t:TypeId):Blk.renOk σ (@Blk.mk 1 (bs.map byteRow) (.typed t))=true:=by
 have h:plainLL (bs.map byteRow)=true:=plainLL_map _ (fun _=>rfl) bs
 simp only[Blk.renOk,renOkLL,h,Bool.true_or,Bool.true_and]
 rfl
theorem plain_bsG (bs:List UInt8):plainLL (bs.map byteRow)=true:=plainLL_map _ (fun _=>rfl) bs
theorem decV_take {s:List UInt8}{k:Nat}{c:UInt8}(h:s[k]? = some c):decV 0 (s.take (k+1))=(decV 0 (s.take k)).bind fun m=>(decD c).map fun d=>10*m+d:=by
 obtain⟨hk,rfl⟩:=List.getElem?_eq_some_iff.1 h
 rw[List.take_succ_eq_append_getElem hk,decV_snoc]
theorem decV_none:∀ {s t:List UInt8} {n:Nat},decV n s=none→decV n (s++t)=none
 | [],t,n,h=>by simp[decV]at h
 | c::s,t,n,h=>by
  simp only[List.cons_append,decV]at h ⊢
  cases hc:decD c with
  | none=>rfl
  | some d=>rw[hc]at h;exact decV_none h
def readE (s:List UInt8):V:=match decL s with
 | some n=>.tup [.int .i64 n,.int .i64 0]
 | none=>.tup [.int .i64 0,.int .i64 60]
theorem readE_none {s:List UInt8}(h:decL s=none):readE s = .tup [.int .i64 0,.int .i64 60]:=by unfold readE;rw[h]
theorem readE_some {s:List UInt8}{n:Nat}(h:decL s=some n):readE s = .tup [.int .i64 n,.int .i64 0]:=by unfold readE;rw[h]
theorem numRead_ev (s:List UInt8)(hs:s.length≤lim)(nm:Nat):Ev cx 204 nm [.str s] Mem.nil (readE s) []:=by
  unfold lim at hs
  by_cases hbad:s=[]∨16<s.length∨(s.head? = some 48∧s≠[48])
  · have hn:decL s=none:=by unfold decL;rw[if_pos hbad]
    have hr:=readE_none hn
    by_cases h0:s=[]
    · subst h0
      have e0:(([]:List UInt8)==[])=true:=rfl
      refine ev_go rfl (fun cargs w=>call204 cargs w) func204 rfl mixed (by kernel_rfl) rfl ?_;intro b0 hb0
      (repeat' first|simp only[fins,mems,results204,ntmps204,wks,e0,hr,vcs,seval,tys]|exact rfl|refine call_off (v:=.any) ?_|((first|apply Ca|apply Cb)<;>intro hb)|refine Ai (by omega) ?_|(apply Ai<;>intro hb)|refine Fin.pure ?_ ?_ ?_|simp only[injs])
    · have e0:(s==[])=false:=beq_false_of_ne h0
      by_cases h16:16<s.length
      · have e1:decide ((16:Int)<(s.length:Int))=true:=decide_eq_true (by omega)
        refine ev_go rfl (fun cargs w=>call204 cargs w) func204 rfl mixed (by kernel_rfl) rfl ?_;intro b0 hb0
        (repeat' first|simp only[fins,mems,results204,ntmps204,wks,e0,e1,hr,vcs,seval,tys]|exact rfl|refine call_off (v:=.any) ?_|((first|apply Ca|apply Cb)<;>intro hb)|refine Ai (by omega) ?_|(apply Ai<;>intro hb)|refine Fin.pure ?_ ?_ ?_|simp only[injs])
      · obtain⟨h1,h2⟩:s.head? = some 48∧s≠[48]:=by rcases hbad with h|h|h;exact absurd h h0;exact absurd h h16;exact h
        have e1:decide ((16:Int)<(s.length:Int))=false:=decide_eq_false (by omega)
        have e2:s[0]? = some 48:=by rw[← List.head?_eq_getElem?];exact h1
        have e3:(s==[48])=false:=beq_false_of_ne h2
        have e4:0<s.length:=List.length_pos_iff.2 h0
        have e6:(((48:UInt8).toNat:Int)==48)=true:=rfl
        refine ev_go rfl (fun cargs w=>call204 cargs w) func204 rfl mixed (by kernel_rfl) rfl ?_;intro b0 hb0
        (repeat' first|simp only[fins,mems,results204,ntmps204,wks,e0,e1,e2,e3,e4,e6,hr,Bf,vcs,seval,tys]|exact rfl|refine call_off (v:=.any) ?_|((first|apply Ca|apply Cb)<;>intro hb)|refine Ai (by omega) ?_|(apply Ai<;>intro hb)|refine Fin.pure ?_ ?_ ?_|simp only[injs])
  · have h0:s≠[]:=fun h=>hbad (.inl h)
    have h16:¬ 16<s.length:=fun h=>hbad (.inr (.inl h))
    have h48:¬(s.head? = some 48∧s≠[48]):=fun h=>hbad (.inr (.inr h))
    have hdl:decL s=(decV 0 s).bind fun n=>if n≤9007199254740991 then some n else none:=by unfold decL;rw[if_neg hbad]
    have e0:(s==[])=false:=beq_false_of_ne h0
    have e1:decide ((16:Int)<(s.length:Int))=false:=decide_eq_false (by omega)
    have e4:0<s.length:=List.length_pos_iff.2 h0
    obtain⟨c0,hc0⟩:∃ c,s[0]? = some c:=⟨_,List.getElem?_eq_getElem e4⟩
    have e2:((c0.toNat:Int)==48)=decide (c0=48):=beq_byte c0 48
    have e3:c0=48→(s==[48])=true:=fun h=>by
      by_cases h5:s=[48]
      · rw[h5];rfl
      · exact absurd ⟨by rw[List.head?_eq_getElem?,hc0,h],h5⟩ h48
    have hround:∀ b:Bool,decide (c0=48)=b→(b=true→(s==[48])=true):=fun b h h2=>e3 (of_decide_eq_true (h.trans h2))
    generalize hb:decide (c0=48)=b at e2
    have e5:=hround b hb
    clear hround
    refine ev_go rfl (fun cargs w=>call204 cargs w) func204 rfl mixed (by kernel_rfl) rfl ?_;intro b0 hb0
    cases b
    all_goals (
      first|have e6:=e5 rfl|have e6:True:=trivial
      repeat' first|simp only[fins,mems,results204,ntmps204,wks,e0,e1,hc0,e2,e4,e6,Bt,Bf,vcs,seval,tys]|exact rfl|refine call_off (v:=.any) ?_|(refine ext_toBytes (bs:=?_) ?_ ?_ ?_ ?_;rotate_left 1;(iterate 2 (focus (simp only[results204,ntmps204,wks,e0,e1,hc0,e2,e4,e6,Bt,Bf,vcs,seval,tys];done)));(focus (simp only[results204,ntmps204,wks,e0,e1,hc0,e2,e4,e6,Bt,Bf,vcs,seval,tys]<;>exact rfl)))|(refine extG_true ?_)|(refine extG_false ?_)|((first|apply Ca|apply Cb)<;>intro hb)|refine Ai (by omega) ?_|(apply Ai<;>intro hb)
      (refine loop_can2 cxG (fun x:Nat×Nat=>s.length-x.1) (fun x=>x.1≤s.length∧decV 0 (s.take x.1)=some x.2) (b0+16) (fun x=>[(2,.int .i64 x.2),(4,.bool false),(25,.sl false 1 (s.map byteRow)),(26,.int .i64 s.length),(27,.int .i64 x.1)]) (fun x=>[]) ((0,0)) [] ?_ ?_ ?_ ?_;rotate_left 1;(focus (show b0≤_;omega));(focus (refine⟨?_,?_⟩<;>(try simp only[cans,plain_bsG,Lm,show decV 0 []=some 0 from rfl,vcs,seval,tys,injs])<;>(try omega)));rotate_left 1)
      · exact⟨Nat.zero_le _,rfl⟩
      · rintro ⟨k,m⟩ ⟨hk,hv⟩
        simp only at hk hv
        have hmb:=(decV_le _ _ _ hv).2
        have hkl:(s.take k).length=k:=by rw[List.length_take];omega
        rw[hkl]at hmb
        have hp16:(10:Nat) ^ k≤10 ^ 16:=Nat.pow_le_pow_right (by omega) (by omega)
        have hm16:m<10000000000000000:=by simp only[Nat.zero_add,Nat.one_mul]at hmb;exact Nat.lt_of_lt_of_le hmb hp16
        by_cases hlt:k<s.length
        · obtain⟨c,hc⟩:∃ c,s[k]? = some c:=⟨_,List.getElem?_eq_getElem hlt⟩
          have hh:(s.map byteRow)[k]? = some (byteRow c):=by rw[List.getElem?_map,hc];rfl
          have hd:decide (k<s.length)=true:=decide_eq_true hlt
          have hwk:IntKind.i64.wrap ((k:Int)+1)=((k+1:Nat):Int):=wrap_in (by omega) (by omega)
          have hcn:c.toNat<256:=c.toNat_lt
          have hw1:IntKind.i64.wrap (c.toNat:Int)=(c.toNat:Int):=wrap_in (by omega) (by omega)
          have hw2:IntKind.i64.wrap ((c.toNat:Int)-48)=(c.toNat:Int)-48:=wrap_in (by omega) (by omega)
          have hnx:=decV_take hc
          rw[hv]at hnx
          simp only[Option.bind_some]at hnx
          cases hdc:decD c with
          | none =>
            have hno:decV 0 s=none:=by
              rw[hdc]at hnx
              rw[← List.take_append_drop (k+1) s]
              exact decV_none hnx
            have hr:=readE_none (s:=s) (by rw[hdl,hno];rfl)
            have hcs:decide ((c.toNat:Int)-48<0)=true∨(decide ((c.toNat:Int)-48<0)=false∧decide ((9:Int)<(c.toNat:Int)-48)=true):=by
              by_cases h1:(c.toNat:Int)-48<0
              · exact .inl (decide_eq_true h1)
              · refine .inr ⟨decide_eq_false h1,decide_eq_true ?_⟩
                unfold decD at hdc
                split at hdc
                · cases hdc
                · omega
            rcases hcs with h1|⟨h1,h2⟩
            · (repeat' first|simp only[fins,mems,results204,ntmps204,wks,hh,hd,hlt,hw1,hw2,h1,hr,byteRow,Lm,vcs,seval,tys]|exact rfl|refine call_off (v:=.any) ?_|((first|apply Ca|apply Cb)<;>intro hb)|refine Ai (by omega) ?_|(apply Ai<;>intro hb)|refine Fin.pure ?_ ?_ ?_|simp only[injs])
            · (repeat' first|simp only[fins,mems,results204,ntmps204,wks,hh,hd,hlt,hw1,hw2,h1,h2,hr,byteRow,Lm,vcs,seval,tys]|exact rfl|refine call_off (v:=.any) ?_|((first|apply Ca|apply Cb)<;>intro hb)|refine Ai (by omega) ?_|(apply Ai<;>intro hb)|refine Fin.pure ?_ ?_ ?_|simp only[injs])
          | some d =>
            obtain⟨d9,_,hcd⟩:=decD_range hdc
            rw[hdc]at hnx
            have h1:decide ((c.toNat:Int)-48<0)=false:=decide_eq_false (by omega)
            have h2:decide ((9:Int)<(c.toNat:Int)-48)=false:=decide_eq_false (by omega)
            have hw3:IntKind.i64.wrap (10*(m:Int))=10*(m:Int):=wrap_in (by omega) (by omega)
            have hw4:IntKind.i64.wrap (10*(m:Int)+((c.toNat:Int)-48))=((10*m+d:Nat):Int):=by rw[wrap_in (by omega) (by omega)];omega
            repeat' first|simp only[fins,mems,results204,ntmps204,wks,hh,hd,hlt,hw1,hw2,hw3,hw4,h1,h2,byteRow,Lm,vcs,seval,tys]|exact rfl|refine call_off (v:=.any) ?_|((first|apply Ca|apply Cb)<;>intro hb)|refine Ai (by omega) ?_|(apply Ai<;>intro hb)
            all_goals ((refine again_can2 cxG ((k+1,10*m+d)) [] ?_ ?_ ?_ ?_;rotate_left 2;(focus (show b0≤_;omega));(focus (refine⟨?_,?_⟩<;>(try simp only[cans,plain_bsG,hwk,hw4,Lm,vcs,seval,tys,injs])<;>(try omega)))))
            all_goals (first|(show s.length-(k+1)<s.length-k;omega)|exact⟨hlt,hnx⟩|skip)
        · have hke:k=s.length:=by omega
          subst hke
          rw[List.take_length]at hv
          have hd:decide (s.length<s.length)=false:=decide_eq_false (by omega)
          by_cases hmx:m≤9007199254740991
          · have hr:=readE_some (s:=s) (n:=m) (by rw[hdl,hv];simp only[Option.bind_some];rw[if_pos hmx])
            have h1:decide ((9007199254740991:Int)<(m:Int))=false:=decide_eq_false (by omega)
            (repeat' first|simp only[fins,mems,results204,ntmps204,wks,hd,h1,hr,Lm,vcs,seval,tys]|exact rfl|refine call_off (v:=.any) ?_|((first|apply Ca|apply Cb)<;>intro hb)|refine Ai (by omega) ?_|(apply Ai<;>intro hb)|refine Fin.pure ?_ ?_ ?_|simp only[injs])
          · have hr:=readE_none (s:=s) (by rw[hdl,hv];simp only[Option.bind_some];rw[if_neg hmx])
            have h1:decide ((9007199254740991:Int)<(m:Int))=true:=decide_eq_true (by omega)
            (repeat' first|simp only[fins,mems,results204,ntmps204,wks,hd,h1,hr,Lm,vcs,seval,tys]|exact rfl|refine call_off (v:=.any) ?_|((first|apply Ca|apply Cb)<;>intro hb)|refine Ai (by omega) ?_|(apply Ai<;>intro hb)|refine Fin.pure ?_ ?_ ?_|simp only[injs]))
def lowI (c:UInt8):Int:=IntKind.u8.wrap ((BitVec.ofInt IntKind.u8.bits (c.toNat:Int) ||| BitVec.ofInt IntKind.u8.bits 32).toNat:Int)
theorem lower_ev (c:UInt8)(nm:Nat):Ev cx 214 nm [.int .u8 c.toNat] Mem.nil (.int .u8 (lowI c)) []:=by
 have h:IntKind.u8.wrap ((BitVec.ofInt IntKind.u8.bits (c.toNat:Int) ||| BitVec.ofInt IntKind.u8.bits 32).toNat:Int)=lowI c:=rfl
 refine ev_go rfl (fun cargs w=>call214 cargs w) func214 rfl mixed (by kernel_rfl) rfl ?_;intro b0 hb0
 (repeat' first|simp only[fins,mems,results214,ntmps214,wks,h,vcs,seval,tys]|exact rfl|refine call_off (v:=.any) ?_|((first|apply Ca|apply Cb)<;>intro hb)|refine Ai (by omega) ?_|(apply Ai<;>intro hb)|refine Fin.pure ?_ ?_ ?_|simp only[injs])
theorem low_hex {c:UInt8}{d:Nat}(h:hexD c=some d):(48≤c.toNat∧c.toNat≤57∧d=c.toNat-48)∨(57<c.toNat∧c.toNat≠95∧97≤lowI c∧lowI c≤102∧(d:Int)=lowI c-87):=by
 have key:∀ n:Fin 256,(97≤n.val∧n.val≤102→lowI (UInt8.ofNat n.val)=n.val)∧(65≤n.val∧n.val≤70→lowI (UInt8.ofNat n.val)=n.val+32):=by decide +kernel
 have hk:=key ⟨c.toNat,c.toNat_lt⟩
 simp only[UInt8.ofNat_toNat]at hk
 unfold hexD at h
 split at h
 ·rename_i h1;cases h;left;omega
 ·split at h
  ·rename_i h1;cases h;right
   have:=hk.1 h1
   omega
  ·split at h
   ·rename_i h1;cases h;right
    have:=hk.2 h1
    omega
   ·cases h
theorem hexV_snoc:∀(s:List UInt8) (n:Nat) (c:UInt8),hexV n (s++[c])=(hexV n s).bind fun m=>(hexD c).map fun d=>16*m+d
 | [],n,c=>by
  simp only[List.nil_append,hexV,Option.bind_some]
  cases hexD c<;>rfl
 | x::s,n,c=>by
  simp only[List.cons_append,hexV]
  cases hexD x with
  | none=>rfl
  | some d=>exact hexV_snoc s _ c
theorem hexV_take {s:List UInt8}{k:Nat}{c:UInt8}(h:s[k]? = some c):hexV 0 (s.take (k+1))=(hexV 0 (s.take k)).bind fun m=>(hexD c).map fun d=>16*m+d:=by
 obtain⟨hk,rfl⟩:=List.getElem?_eq_some_iff.1 h
 rw[List.take_succ_eq_append_getElem hk,hexV_snoc]
theorem hexD_lt {c:UInt8}{d:Nat}(h:hexD c=some d):d<16:=by
 unfold hexD at h
 split at h
 ·cases h;omega
 ·split at h
  ·cases h;omega
  ·split at h
   ·cases h;omega
   ·cases h
theorem hexV_lt:∀(s:List UInt8) (n m:Nat),hexV n s=some m→m<(n+1)*16 ^ s.length
 | [],n,m,h=>by simp only[hexV]at h;cases h;simp
 | x::s,n,m,h=>by
  simp only[hexV]at h
  cases hx:hexD x with
  | none=>rw[hx]at h;cases h
  | some d =>
   rw[hx]at h
   have hd:=hexD_lt hx
   refine Nat.lt_of_lt_of_le (hexV_lt s _ m h) ?_
   rw[List.length_cons,Nat.pow_succ',← Nat.mul_assoc]
   exact Nat.mul_le_mul_right _ (by omega)
theorem hexV_none:∀ {s t:List UInt8} {n:Nat},hexV n s=none→hexV n (s++t)=none
 | [],t,n,h=>by simp[hexV]at h
 | c::s,t,n,h=>by
  simp only[List.cons_append,hexV]at h ⊢
  cases hc:hexD c with
  | none=>rfl
  | some d=>rw[hc]at h;exact hexV_none h
def allHex (s:List UInt8):Bool:=s.all fun c=>(hexD c).isSome
theorem hexV_all:∀(s:List UInt8) (n:Nat),allHex s=(hexV n s).isSome
 | [],n=>rfl
 | c::s,n=>by
  simp only[allHex,List.all_cons,hexV]
  cases hc:hexD c with
  | none=>simp
  | some d=>simpa [allHex] using hexV_all s (16*n+d)
theorem uint_ev (s:List UInt8)(n:Nat)(hl:s.length≤6)(h0:s≠[])(hv:hexV 0 s=some n)(nm:Nat):Ev cx 210 nm [.str s,.int .i64 16,.int .i64 32] Mem.nil (.tup [.int .u64 n,.val .nilIface]) []:=by
 have e0:(s==[])=false:=beq_false_of_ne h0
 have hsh:IntKind.u64.wrap (1*2 ^ min 32 IntKind.u64.bits)=4294967296:=by decide
 have hsh2:IntKind.u64.wrap (4294967296-1)=4294967295:=by decide
 have hsh3:IntKind.u64.wrap 4294967295=4294967295:=by decide
 have hL:s.length≤6:=hl
 have hw32:IntKind.u64.wrap 32=32:=by decide
 have q16:IntKind.u8.wrap 16=16:=by decide
 have q16':IntKind.u64.wrap 16=16:=by decide
 refine ev_go rfl (fun cargs w=>call210 cargs w) func210 rfl mixed (by kernel_rfl) rfl ?_;intro b0 hb0
 repeat' first|simp only[fins,mems,results210,ntmps210,wks,e0,hw32,hsh,hsh2,hsh3,vcs,seval,tys]|exact rfl|refine call_off (v:=.any) ?_|(refine ext_toBytes (bs:=?_) ?_ ?_ ?_ ?_;rotate_left 1;(iterate 2 (focus (simp only[results210,ntmps210,wks,e0,hw32,hsh,hsh2,hsh3,vcs,seval,tys];done)));(focus (simp only[results210,ntmps210,wks,e0,hw32,hsh,hsh2,hsh3,vcs,seval,tys]<;>exact rfl)))|(refine extG_true ?_)|(refine extG_false ?_)|((first|apply Ca|apply Cb)<;>intro hb)|refine Ai (by omega) ?_|(apply Ai<;>intro hb)
 (refine loop_can2 cxG (fun x:Nat×Nat=>s.length-x.1) (fun x=>x.1≤s.length∧hexV 0 (s.take x.1)=some x.2) (b0+16) (fun x=>[(1,.int .i64 16),(8,.bool false),(9,.str s),(10,.int .u64 1152921504606846976),(11,.int .u64 4294967295),(12,.bool false),(13,.int .u64 x.2),(99,.sl false 1 (s.map byteRow)),(100,.int .i64 s.length),(101,.int .i64 x.1)]) (fun x=>[]) ((0,0)) [] ?_ ?_ ?_ ?_;rotate_left 1;(focus (show b0≤_;omega));(focus (refine⟨?_,?_⟩<;>(try simp only[cans,plain_bsG,Lm,show hexV 0 []=some 0 from rfl,vcs,seval,tys,injs])<;>(try omega)));rotate_left 1)
 ·exact⟨Nat.zero_le _,rfl⟩
 ·rintro ⟨k,m⟩ ⟨hk,hm⟩
  simp only at hk hm
  have hmb:=hexV_lt _ _ _ hm
  have hkl:(s.take k).length=k:=by rw[List.length_take];omega
  rw[hkl]at hmb
  have hp6:(16:Nat) ^ k≤16 ^ 6:=Nat.pow_le_pow_right (by omega) (by omega)
  have hm6:m<16777216:=by simp only[Nat.zero_add,Nat.one_mul]at hmb;exact Nat.lt_of_lt_of_le hmb hp6
  by_cases hlt:k<s.length
  ·obtain⟨c,hc⟩:∃ c,s[k]? = some c:=⟨_,List.getElem?_eq_getElem hlt⟩
   have hh:(s.map byteRow)[k]? = some (byteRow c):=by rw[List.getElem?_map,hc];rfl
   have hd:decide (k<s.length)=true:=decide_eq_true hlt
   have hwk:IntKind.i64.wrap ((k:Int)+1)=((k+1:Nat):Int):=wrap_in (by omega) (by omega)
   have hcn:c.toNat<256:=c.toNat_lt
   have hnx:=hexV_take hc
   rw[hm]at hnx
   simp only[Option.bind_some]at hnx
   cases hdc:hexD c with
   | none =>
    exfalso
    rw[hdc]at hnx
    have:hexV 0 s=none:=by rw[← List.take_append_drop (k+1) s];exact hexV_none hnx
    rw[this]at hv;cases hv
   | some d =>
    rw[hdc]at hnx
    have hdl:=hexD_lt hdc
    have hd16:decide ((16:Int)≤(d:Int))=false:=decide_eq_false (by omega)
    have hcu:decide ((1152921504606846976:Int)≤(m:Int))=false:=decide_eq_false (by omega)
    have hw3:IntKind.u64.wrap ((m:Int)*16)=(m:Int)*16:=IntWalk.u64_in _ (by omega)
    have hw4:IntKind.u64.wrap (d:Int)=(d:Int):=IntWalk.u64_in _ (by omega)
    have hw5:IntKind.u64.wrap ((m:Int)*16+(d:Int))=((16*m+d:Nat):Int):=by rw[IntWalk.u64_in _ (by omega)];omega
    have hc1:decide (((16*m+d:Nat):Int)<(m:Int)*16)=false:=decide_eq_false (by omega)
    have hc2:decide ((4294967295:Int)<((16*m+d:Nat):Int))=false:=decide_eq_false (by omega)
    rcases low_hex hdc with ⟨h1,h2,h3⟩|⟨h1,h2,h3,h4,h5⟩
    ·have q95:((c.toNat:Int)==95)=false:=beq_false_of_ne (by omega)
     have q48:decide ((48:Int)≤(c.toNat:Int))=true:=decide_eq_true (by omega)
     have q57:decide ((c.toNat:Int)≤57)=true:=decide_eq_true (by omega)
     have hw1:IntKind.u8.wrap ((c.toNat:Int)-48)=(d:Int):=by rw[IntWalk.u8_in _ (by omega)];omega
     repeat' first|simp only[fins,mems,results210,ntmps210,wks,hh,hd,hlt,hw1,hw3,hw4,hw5,hd16,hcu,hc1,hc2,q95,q48,q57,q16,q16',byteRow,Lm,vcs,seval,tys]|exact rfl|refine call_off (v:=.any) ?_|((first|apply Ca|apply Cb)<;>intro hb)|refine Ai (by omega) ?_|(apply Ai<;>intro hb)
     all_goals ((refine again_can2 cxG ((k+1,16*m+d)) [] ?_ ?_ ?_ ?_;rotate_left 2;(focus (show b0≤_;omega));(focus (refine⟨?_,?_⟩<;>(try simp only[cans,plain_bsG,hwk,Lm,vcs,seval,tys,injs])<;>(try omega)))))
     all_goals (first|(show s.length-(k+1)<s.length-k;omega)|exact⟨hlt,hnx⟩|skip)
    ·have q95:((c.toNat:Int)==95)=false:=beq_false_of_ne (by omega)
     have q48:decide ((48:Int)≤(c.toNat:Int))=true:=decide_eq_true (by omega)
     have q57:decide ((c.toNat:Int)≤57)=false:=decide_eq_false (by omega)
     have q97:decide ((97:Int)≤lowI c)=true:=decide_eq_true (by omega)
     have q122:decide (lowI c≤(122:Int))=true:=decide_eq_true (by omega)
     have hw1:IntKind.u8.wrap (lowI c-97)=lowI c-97:=IntWalk.u8_in _ (by omega)
     have hw2:IntKind.u8.wrap (lowI c-97+10)=(d:Int):=by rw[IntWalk.u8_in _ (by omega)];omega
     repeat' first|simp only[fins,mems,results210,ntmps210,wks,hh,hd,hlt,hw1,hw2,hw3,hw4,hw5,hd16,hcu,hc1,hc2,q95,q48,q57,q97,q122,q16,q16',byteRow,Lm,vcs,seval,tys]|exact rfl|refine call_off (v:=.any) ?_|(first|(refine call_fn ?_ (lower_ev c _) ?_)|(refine call_fn_g ?_ (fun _=>lower_ev c _) ?_))|((first|apply Ca|apply Cb)<;>intro hb)|refine Ai (by omega) ?_|(apply Ai<;>intro hb)
     all_goals ((refine again_can2 cxG ((k+1,16*m+d)) [] ?_ ?_ ?_ ?_;rotate_left 2;(focus (show b0≤_;omega));(focus (refine⟨?_,?_⟩<;>(try simp only[cans,plain_bsG,hwk,Lm,vcs,seval,tys,injs])<;>(try omega)))))
     all_goals (first|(show s.length-(k+1)<s.length-k;omega)|exact⟨hlt,hnx⟩|skip)
  ·have hke:k=s.length:=by omega
   subst hke
   rw[List.take_length,hv]at hm
   cases hm
   have hd:decide (s.length<s.length)=false:=decide_eq_false (by omega)
   (repeat' first|simp only[fins,mems,results210,ntmps210,wks,hd,Lm,vcs,seval,tys]|exact rfl|refine call_off (v:=.any) ?_|((first|apply Ca|apply Cb)<;>intro hb)|refine Ai (by omega) ?_|(apply Ai<;>intro hb)|refine Fin.pure ?_ ?_ ?_|simp only[injs])
end Go.Proofs.YtjdjclecdfhciaaGreatDoor
