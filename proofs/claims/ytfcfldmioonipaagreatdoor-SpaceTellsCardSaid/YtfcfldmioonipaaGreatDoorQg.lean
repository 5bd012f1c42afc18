/-
 Texts joined: XEa,XEc,XEd,XEh,XEi,XEk,XEl,XEu,XEm,XSb.
-/
import Derived.Test.YtfcfldmioonipaaGreatDoorQf
import Derived.Test.YtfcfldmioonipaaGreatDoorQe
namespace Go.Proofs.YtfcfldmioonipaaGreatDoor
set_option maxRecDepth 100000
set_option maxHeartbeats 32000000
set_option linter.unusedSimpArgs false
set_option linter.unusedVariables false
open Go Go.RowKit Vm Go.Lib Tryz
open Vm renaming cond_bool→Ca,cond_bit→Cb
open And renaming intro→Ai
open List renaming length_map→Lm,not_mem_nil→Ln,map_nil→Lo,map_cons→Lc,mem_cons→Lk
open Bool renaming not_false→Bf,not_true→Bt
def validB (r:Int):Bool:=(decide (0≤r)&&decide (r<55296))||(decide (57343<r)&&decide (r≤1114111))
theorem valid_ev (r:Int)(nm:Nat):Ev cx 81 nm [.int .i32 r] Mem.nil (.bool (validB r)) []:=by
 unfold validB
 refine ev_go rfl (fun cargs w=>call81 cargs w) func81 rfl mixed (by kernel_rfl) rfl ?_;intro b0 hb0
 (repeat' first|simp only[fins,mems,results81,ntmps81,wks,vcs,seval,tys]|exact rfl|refine call_off (v:=.any) ?_|((first|apply Ca|apply Cb)<;>intro hb)|refine Ai (by omega) ?_|(apply Ai<;>intro hb)|refine Fin.pure ?_ ?_ ?_|simp only[injs])
 all_goals simp_all
theorem tMay_ev (n:Int)(nm:Nat):Ev cx 69 nm [.int .i64 n] Mem.nil (.bool (may n)) []:=by
 refine ev_go rfl (fun cargs w=>call69 cargs w) func69 rfl mixed (by kernel_rfl) rfl ?_;intro b0 hb0
 (repeat' first|simp only[fins,mems,results69,ntmps69,wks,vcs,seval,tys]|exact rfl|refine call_off (v:=.any) ?_|((first|apply Ca|apply Cb)<;>intro hb)|refine Ai (by omega) ?_|(apply Ai<;>intro hb)|refine Fin.pure ?_ ?_ ?_|simp only[injs])
 all_goals simp only[decide_eq_true_eq,decide_eq_false_iff_not,beq_iff_eq,beq_eq_false_iff_ne,ne_eq]at *
 all_goals (first|(exfalso;omega)|(exact may_t (by omega))|(exact may_f (by omega))|skip)
 have hw:IntKind.i32.wrap n=n:=IntWalk.i32_in _ (by omega)
 rw[hw]
 have hv:validB n=may n:=by
  cases h:may n with
  | true =>
   have:=(may_iff n).1 h
   unfold validB
   simp only[Bool.or_eq_true,Bool.and_eq_true,decide_eq_true_eq];omega
  | false =>
   have h':¬ _:=fun q=>by rw[(may_iff n).2 q]at h;cases h
   unfold validB
   simp only[Bool.or_eq_false_iff,Bool.and_eq_false_iff,decide_eq_false_iff_not];omega
 (repeat' first|simp only[fins,mems,results69,ntmps69,wks,hv,vcs,seval,tys]|exact rfl|refine call_off (v:=.any) ?_|(first|(refine call_fn ?_ (valid_ev n _) ?_)|(refine call_fn_g ?_ (fun _=>valid_ev n _) ?_))|((first|apply Ca|apply Cb)<;>intro hb)|refine Ai (by omega) ?_|(apply Ai<;>intro hb)|refine Fin.pure ?_ ?_ ?_|simp only[injs])
def preB (s p:List UInt8):Bool:=decide (p.length≤s.length)&&(s.take p.length==p)
theorem hasPre_ev (s p:List UInt8)(hs:s.length≤lim)(hp:p.length≤lim)(nm:Nat):Ev cx 76 nm [.str s,.str p] Mem.nil (.bool (preB s p)) []:=by
 unfold lim at hs hp
 unfold preB
 refine ev_go rfl (fun cargs w=>call76 cargs w) func76 rfl mixed (by kernel_rfl) rfl ?_;intro b0 hb0
 (repeat' first|simp only[fins,mems,results76,ntmps76,wks,decide_eq_true_eq,imp_self,vcs,seval,tys]|exact rfl|refine call_off (v:=.any) ?_|((first|apply Ca|apply Cb)<;>intro hb)|refine Ai (by omega) ?_|(apply Ai<;>intro hb)|refine Fin.pure ?_ ?_ ?_|simp only[injs])
theorem pre_ev (s p:List UInt8)(hs:s.length≤lim)(hp:p.length≤lim)(nm:Nat):Ev cx 68 nm [.str s,.str p] Mem.nil (.bool (preB s p)) []:=by
 refine ev_go rfl (fun cargs w=>call68 cargs w) func68 rfl mixed (by kernel_rfl) rfl ?_;intro b0 hb0
 (repeat' first|simp only[fins,mems,results68,ntmps68,wks,vcs,seval,tys]|exact rfl|refine call_off (v:=.any) ?_|(first|(refine call_fn ?_ (hasPre_ev s p hs hp _) ?_)|(refine call_fn_g ?_ (fun _=>hasPre_ev s p hs hp _) ?_))|((first|apply Ca|apply Cb)<;>intro hb)|refine Ai (by omega) ?_|(apply Ai<;>intro hb)|refine Fin.pure ?_ ?_ ?_|simp only[injs])
def pts (l:List UInt8):List Int:=if 16384<l.length then [] else (dec l).getD []
def intRow (z:Int):List V:=[.int .i64 z]
theorem preB_eq (s p:List UInt8):preB s p=Lib.hasPrefix s p:=by
 unfold preB Lib.hasPrefix
 rw[Bool.eq_iff_iff]
 simp only[Bool.and_eq_true,decide_eq_true_eq,beq_iff_eq,List.isPrefixOf_iff_prefix,List.prefix_iff_eq_take]
 constructor
 ·rintro ⟨_,h⟩;exact h.symm
 ·intro h
  refine⟨?_,h.symm⟩
  have:=congrArg List.length h
  simp at this;omega
theorem one_at {s:List UInt8}{p:Nat}(hp:p<s.length):one (s.drop p)=if ((runeAt s p).1=65533∧preB (s.drop p) [239,191,189]=false)∨may ((runeAt s p).1:Int)=false then none else some (((runeAt s p).1:Int),(runeAt s p).2):=by
 have hne:s.drop p≠[]:=by
  intro h
  have:=congrArg List.length h
  simp at this;omega
 have hd:runeAt s p=Lib.decodeL (s.drop p):=decode_drop ⟨s.toArray⟩ p
 rw[hd,preB_eq]
 exact one_of_decode hne
theorem rune_le (s:List UInt8)(p:Nat):(runeAt s p).1≤2147483647:=decode_le _ _
theorem take_i (l:List Int):(l.map intRow).take l.length=l.map intRow:=List.take_of_length_le (by simp)
theorem isRow_inst:Ob.isRow instCells=true:=rfl
theorem plain_i (l:List Int):plainLL (l.map intRow)=true:=plainLL_map _ (fun _=>rfl) l
theorem ren_ints (σ:List (Nat×Nat))(l:List Int):Blk.ren σ ⟨1,l.map intRow⟩=⟨1,l.map intRow⟩:=Blk.ren_plain (plain_i l) rfl
theorem points_ev (s:List UInt8)(hs:s.length≤lim)(nm:Nat):Ev cx 49 nm [.str s] Mem.nil (.tup [.sl false 1 ((pts s).map intRow),.int .i64 (ptsErr s)]) []:=by
 unfold lim at hs
 by_cases hbig:16384<s.length
 ·have he:ptsErr s=4:=by unfold ptsErr;rw[if_pos hbig]
  have hq:pts s=[]:=by unfold pts;rw[if_pos hbig]
  have hd:decide ((16384:Int)<s.length)=true:=decide_eq_true (by omega)
  refine ev_go rfl (fun cargs w=>call49 cargs w) func49 rfl mixed (by kernel_rfl) rfl ?_;intro b0 hb0
  (repeat' first|simp only[fins,mems,results49,ntmps49,wks,he,hq,hd,Lo,vcs,seval,tys]|exact rfl|refine call_off (v:=.any) ?_|((first|apply Ca|apply Cb)<;>intro hb)|refine Ai (by omega) ?_|(apply Ai<;>intro hb)|refine Fin.pure ?_ ?_ ?_|simp only[injs])
 ·have hd:decide ((16384:Int)<s.length)=false:=decide_eq_false (by omega)
  refine ev_go rfl (fun cargs w=>call49 cargs w) func49 rfl mixed (by kernel_rfl) rfl ?_;intro b0 hb0
  repeat' first|simp only[fins,mems,results49,ntmps49,wks,hd,vcs,seval,tys]|exact rfl|refine call_off (v:=.any) ?_|(refine ext_range (s:=?_) ?_ ?_ ?_;rotate_left 1;(iterate 2 (focus (simp only[results49,ntmps49,wks,hd,vcs,seval,tys]<;>exact rfl))))|(refine extG_true ?_)|(refine extG_false ?_)|((first|apply Ca|apply Cb)<;>intro hb)|refine Ai (by omega) ?_|(apply Ai<;>intro hb)
  (refine loop_can2 cxG (fun x:Nat×List Int=>s.length-x.1) (fun x=>x.1≤s.length∧x.2.length≤x.1∧dec s=(dec (s.drop x.1)).map (x.2 ++ ·)) (b0+16) (fun x=>[(0,.str s),(2,.own (b0+1) 0 x.2.length),(10,.ptr b0 0 0)]) (fun x=>[(b0,iterK s x.1),(b0+1,⟨1,x.2.map intRow⟩)]) ((0,[])) [some (b0+96),none] ?_ ?_ ?_ ?_;rotate_left 1;(focus (show b0≤_;omega));(focus (refine⟨?_,?_⟩<;>(try simp only[cans,isRow_inst,ren_iter,renOk_iter,plain_i,vcs,seval,tys,injs])<;>(try omega)));rotate_left 1)
  ·refine⟨Nat.zero_le _,Nat.le_refl _,?_⟩
   rw[List.drop_zero];cases dec s<;>rfl
  ·rintro ⟨p,zs⟩ ⟨h1,h2,h3⟩
   by_cases hp:p<s.length
   ·have ho:=one_at hp
    have hne:s.drop p≠[]:=by
     intro h
     have:=congrArg List.length h
     simp at this;omega
    have hrl:=rune_le s p
    have hw:IntKind.i64.wrap ((runeAt s p).1:Int)=((runeAt s p).1:Int):=wrap_in (by omega) (by omega)
    have hle:(s.drop p).length≤lim:=by unfold lim;simp;omega
    by_cases hbad:((runeAt s p).1=65533∧preB (s.drop p) [239,191,189]=false)∨may ((runeAt s p).1:Int)=false
    ·rw[if_pos hbad]at ho
     have hd0:dec s=none:=by
      have:=h3
      simp only at this
      rw[this,dec_bad hne ho];rfl
     have he:ptsErr s=50:=by unfold ptsErr;rw[if_neg hbig,hd0]
     have hq:pts s=[]:=by unfold pts;rw[if_neg hbig,hd0];rfl
     cases hc:(((runeAt s p).1:Int)==65533)<;>cases hpr:preB (s.drop p) [239,191,189]<;>cases hm:may ((runeAt s p).1:Int)
     all_goals (try (exfalso;simp_all;done))
     all_goals ((repeat' first|simp only[fins,mems,results49,ntmps49,wks,he,hq,hp,hw,hc,hpr,hm,plain_i,Lo,List.length_drop,vcs,seval,tys]|exact rfl|refine call_off (v:=.any) ?_|(first|(refine call_fn ?_ (pre_ev (s.drop p) [239,191,189] hle (by decide) _) ?_)|(refine call_fn_g ?_ (fun _=>pre_ev (s.drop p) [239,191,189] hle (by decide) _) ?_)|(refine call_fn ?_ (tMay_ev ((runeAt s p).1:Int) _) ?_)|(refine call_fn_g ?_ (fun _=>tMay_ev ((runeAt s p).1:Int) _) ?_))|(refine ext_next (s:=?_) (y:=?_) (p:=?_) ?_ ?_ ?_ ?_;rotate_left 3;(iterate 2 (focus (simp only[results49,ntmps49,wks,he,hq,hp,hw,hc,hpr,hm,plain_i,Lo,List.length_drop,vcs,seval,tys]<;>exact rfl)));(focus (simp only[results49,ntmps49,wks,he,hq,hp,hw,hc,hpr,hm,plain_i,Lo,List.length_drop,vcs,seval,tys]<;>omega)))|(refine extG_true ?_)|(refine extG_false ?_)|((first|apply Ca|apply Cb)<;>intro hb)|refine Ai (by omega) ?_|(apply Ai<;>intro hb)|refine Fin.pure ?_ ?_ ?_|simp only[injs]))
    ·rw[if_neg hbad]at ho
     obtain⟨_,hm,_,hk1,hk2⟩:=one_some ho
     have hds:dec s=(dec (s.drop (p+(runeAt s p).2))).map ((zs++[((runeAt s p).1:Int)]) ++ ·):=by
      have:=h3
      simp only at this
      rw[this,dec_step ho,List.drop_drop]
      cases dec (s.drop (p+(runeAt s p).2))<;>simp
     have hlen:(s.drop p).length=s.length-p:=by simp
     have h2':zs.length≤p:=h2
     have hsn:zs.map intRow++[[V.int .i64 ((runeAt s p).1:Int)]]=(zs++[((runeAt s p).1:Int)]).map intRow:=by simp[intRow]
     have hnx:p+(runeAt s p).2≤s.length:=by omega
     cases hc:(((runeAt s p).1:Int)==65533)<;>cases hpr:preB (s.drop p) [239,191,189]
     all_goals (try (exfalso;exact hbad (.inl ⟨by have:=beq_iff_eq.1 hc;omega,hpr⟩)))
     all_goals (repeat' first|simp only[fins,mems,results49,ntmps49,wks,hp,hw,hc,hpr,hm,plain_i,hsn,Lo,List.length_drop,Lm,Nat.le_refl,Option.bind_some,Option.bind_none,vcs,seval,tys]|exact rfl|refine call_off (v:=.any) ?_|(first|(refine call_fn ?_ (pre_ev (s.drop p) [239,191,189] hle (by decide) _) ?_)|(refine call_fn_g ?_ (fun _=>pre_ev (s.drop p) [239,191,189] hle (by decide) _) ?_)|(refine call_fn ?_ (tMay_ev ((runeAt s p).1:Int) _) ?_)|(refine call_fn_g ?_ (fun _=>tMay_ev ((runeAt s p).1:Int) _) ?_))|(refine ext_next (s:=?_) (y:=?_) (p:=?_) ?_ ?_ ?_ ?_;rotate_left 3;(iterate 2 (focus (simp only[results49,ntmps49,wks,hp,hw,hc,hpr,hm,plain_i,hsn,Lo,List.length_drop,Lm,Nat.le_refl,Option.bind_some,Option.bind_none,vcs,seval,tys]<;>exact rfl)));(focus (simp only[results49,ntmps49,wks,hp,hw,hc,hpr,hm,plain_i,hsn,Lo,List.length_drop,Lm,Nat.le_refl,Option.bind_some,Option.bind_none,vcs,seval,tys]<;>omega)))|(refine extG_true ?_)|(refine extG_false ?_)|((first|apply Ca|apply Cb)<;>intro hb)|refine Ai (by omega) ?_|(apply Ai<;>intro hb))
     all_goals ((refine again_can2 cxG ((p+(runeAt s p).2,zs++[((runeAt s p).1:Int)])) [some b0,some (b0+416)] ?_ ?_ ?_ ?_;rotate_left 2;(focus (show b0≤_;omega));(focus (refine⟨?_,?_⟩<;>(try simp only[cans,isRow_inst,ren_iter,renOk_iter,plain_i,hsn,Lm,List.length_append,List.length_cons,List.length_nil,Option.bind_some,Option.bind_none,vcs,seval,tys,injs])<;>(try omega)))))
     all_goals (first|(show s.length-(p+(runeAt s p).2)<s.length-p;omega)|exact⟨hnx,by simp;omega,hds⟩|skip)
   ·have hpe:p=s.length:=by omega
    subst hpe
    have he:ptsErr s=0:=by
     rw[List.drop_length,dec_nil]at h3
     unfold ptsErr;rw[if_neg hbig,h3];rfl
    have hq:pts s=zs:=by
     rw[List.drop_length,dec_nil]at h3
     unfold pts;rw[if_neg hbig,h3];simp
    (repeat' first|simp only[fins,mems,results49,ntmps49,wks,he,hq,plain_i,take_i,memL_cons,memL_nil,Lm,Nat.le_refl,vcs,seval,tys]|exact rfl|refine call_off (v:=.any) ?_|(refine ext_over (s:=?_) (y:=?_) (p:=?_) ?_ ?_ ?_ ?_;rotate_left 3;(iterate 2 (focus (simp only[results49,ntmps49,wks,he,hq,plain_i,take_i,memL_cons,memL_nil,Lm,Nat.le_refl,vcs,seval,tys]<;>exact rfl)));(focus (simp only[results49,ntmps49,wks,he,hq,plain_i,take_i,memL_cons,memL_nil,Lm,Nat.le_refl,vcs,seval,tys]<;>omega)))|(refine extG_true ?_)|(refine extG_false ?_)|((first|apply Ca|apply Cb)<;>intro hb)|refine Ai (by omega) ?_|(apply Ai<;>intro hb)|refine Fin.pure ?_ ?_ ?_|simp only[injs])
theorem tCheck_ev (s:List UInt8)(hs:s.length≤lim)(nm:Nat):Ev cx 25 nm [.str s] Mem.nil (.int .i64 (ptsErr s)) []:=by
 refine ev_go rfl (fun cargs w=>call25 cargs w) func25 rfl mixed (by kernel_rfl) rfl ?_;intro b0 hb0
 (repeat' first|simp only[fins,mems,results25,ntmps25,wks,vcs,seval,tys]|exact rfl|refine call_off (v:=.any) ?_|(first|(refine call_fn ?_ (points_ev s hs _) ?_)|(refine call_fn_g ?_ (fun _=>points_ev s hs _) ?_))|((first|apply Ca|apply Cb)<;>intro hb)|refine Ai (by omega) ?_|(apply Ai<;>intro hb)|refine Fin.pure ?_ ?_ ?_|simp only[injs])
theorem head_ev (c:Int)(h0:0≤c)(h1:c<256)(nm:Nat):Ev cx 96 nm [.int .i64 c] Mem.nil (.tup [.int .i64 (headS c),.int .i64 (headN c)]) []:=by
 have w1:IntKind.i64.wrap (c-192)=c-192:=wrap_in (by omega) (by omega)
 have w2:IntKind.i64.wrap (c-224)=c-224:=wrap_in (by omega) (by omega)
 have w3:IntKind.i64.wrap (c-240)=c-240:=wrap_in (by omega) (by omega)
 refine ev_go rfl (fun cargs w=>call96 cargs w) func96 rfl mixed (by kernel_rfl) rfl ?_;intro b0 hb0
 (repeat' first|simp only[fins,mems,results96,ntmps96,wks,w1,w2,w3,vcs,seval,tys]|exact rfl|refine call_off (v:=.any) ?_|((first|apply Ca|apply Cb)<;>intro hb)|refine Ai (by omega) ?_|(apply Ai<;>intro hb)|refine Fin.pure ?_ ?_ ?_|simp only[injs])
 all_goals simp only[Bool.and_eq_true,Bool.and_eq_false_iff,decide_eq_true_eq,decide_eq_false_iff_not]at *
 all_goals (unfold headS headN;constructor<;>(repeat' split)<;>omega)
def rMayB (n:Int):Bool:=if n<32 then (n==9||n==10||n==13) else (((decide (n≤1114111)&&(decide (n<55296)||decide (57343<n)))&&(n != 65534))&&(n != 65535))
theorem rMayB_eq (n:Int):rMayB n=may n:=by
 unfold rMayB
 rw[Bool.eq_iff_iff,may_iff]
 split<;>simp<;>omega
theorem rMay_ev (n:Int)(nm:Nat):Ev cx 97 nm [.int .i64 n] Mem.nil (.bool (may n)) []:=by
 rw[← rMayB_eq]
 by_cases h:n<32
 ·have hd:decide (n<32)=true:=decide_eq_true h
  have hr:rMayB n=(n==9||n==10||n==13):=by unfold rMayB;rw[if_pos h]
  refine ev_go rfl (fun cargs w=>call97 cargs w) func97 rfl mixed (by kernel_rfl) rfl ?_;intro b0 hb0
  (repeat' first|simp only[fins,mems,results97,ntmps97,wks,hd,hr,vcs,seval,tys]|exact rfl|refine call_off (v:=.any) ?_|((first|apply Ca|apply Cb)<;>intro hb)|refine Ai (by omega) ?_|(apply Ai<;>intro hb)|refine Fin.pure ?_ ?_ ?_|simp only[injs])
 ·have hd:decide (n<32)=false:=decide_eq_false h
  have hr:rMayB n=(((decide (n≤1114111)&&(decide (n<55296)||decide (57343<n)))&&(n != 65534))&&(n != 65535)):=by unfold rMayB;rw[if_neg h]
  cases h1:decide (n≤1114111)<;>cases h2:decide (n<55296)<;>cases h3:decide (57343<n)<;>rw[h1,h2,h3]at hr<;>(
  refine ev_go rfl (fun cargs w=>call97 cargs w) func97 rfl mixed (by kernel_rfl) rfl ?_;intro b0 hb0
  (repeat' first|simp only[fins,mems,results97,ntmps97,wks,hd,hr,h1,h2,h3,vcs,seval,tys]|exact rfl|refine call_off (v:=.any) ?_|((first|apply Ca|apply Cb)<;>intro hb)|refine Ai (by omega) ?_|(apply Ai<;>intro hb)|refine Fin.pure ?_ ?_ ?_|simp only[injs]))
theorem contN_cons (n:Int)(b:UInt8)(l:List UInt8):contN n (b::l)=contN (64*n+(b.toNat:Int) % 64) l:=rfl
theorem contN_le:∀(l:List UInt8) (n:Int),0≤n→0≤contN n l∧contN n l<(n+1)*64 ^ l.length
 | [],n,h=>by simp only[contN,List.foldl_nil,List.length_nil];omega
 | b::l,n,h=>by
  rw[contN_cons]
  obtain⟨h1,h2⟩:=contN_le l (64*n+(b.toNat:Int) % 64) (by omega)
  refine⟨h1,Int.lt_of_lt_of_le h2 ?_⟩
  rw[List.length_cons,Int.pow_succ,Int.mul_comm (64 ^ l.length) 64,← Int.mul_assoc]
  exact Int.mul_le_mul_of_nonneg_right (by omega) (Int.pow_nonneg (by omega))
theorem enc_rows {z:Int}(h0:0≤z)(h1:z<256):byteRow (z.toNat.toUInt8)=[V.int .u8 z]:=by
 have:=mod64 h0 h1
 unfold byteRow
 rw[this]
 congr 2;omega
theorem six_ev (n:Int)(up:Nat)(h0:0≤n)(h1:n≤1114111)(hu:up≤2)(nm:Nat):Ev cx 106 nm [.int .i64 n,.int .i64 up] Mem.nil (.int .u8 (128+n / 64 ^ up % 64)) []:=by
 refine ev_go rfl (fun cargs w=>call106 cargs w) func106 rfl mixed (by kernel_rfl) rfl ?_;intro b0 hb0
 repeat' first|simp only[fins,mems,results106,ntmps106,wks,vcs,seval,tys]|exact rfl|refine call_off (v:=.any) ?_|((first|apply Ca|apply Cb)<;>intro hb)|refine Ai (by omega) ?_|(apply Ai<;>intro hb)
 (refine loop_can2 cxG (fun x:Nat=>up-x) (fun x=>x≤up) (b0+16) (fun x=>[(0,.int .i64 (n / 64 ^ x)),(1,.int .i64 up),(5,.int .i64 x)]) (fun x=>[]) (0) [] ?_ ?_ ?_ ?_;rotate_left 1;(focus (show b0≤_;omega));(focus (refine⟨?_,?_⟩<;>(try simp only[cans,Int.pow_zero,Int.ediv_one,vcs,seval,tys,injs])<;>(try omega)));rotate_left 1)
 ·exact Nat.zero_le _
 ·intro k hk
  have hp:(0:Int)≤n / 64 ^ k:=Int.ediv_nonneg h0 (Int.pow_nonneg (by omega))
  have hp2:n / 64 ^ k≤n:=Int.ediv_le_self _ h0
  by_cases hlt:k<up
  ·have hd:decide (k<up)=true:=decide_eq_true hlt
   have ht:(n / 64 ^ k).tdiv 64=n / 64 ^ (k+1):=by
    rw[Int.tdiv_eq_ediv_of_nonneg hp,Int.pow_succ,Int.ediv_ediv_of_nonneg (Int.pow_nonneg (by omega))]
   have hw:IntKind.i64.wrap (n / 64 ^ (k+1))=n / 64 ^ (k+1):=by
    rw[← ht,Int.tdiv_eq_ediv_of_nonneg hp]
    exact wrap_in (by omega) (by omega)
   have hwk:IntKind.i64.wrap ((k:Int)+1)=((k+1:Nat):Int):=wrap_in (by omega) (by omega)
   repeat' first|simp only[fins,mems,results106,ntmps106,wks,hd,ht,hw,hwk,vcs,seval,tys]|exact rfl|refine call_off (v:=.any) ?_|((first|apply Ca|apply Cb)<;>intro hb)|refine Ai (by omega) ?_|(apply Ai<;>intro hb)
   ((refine again_can2 cxG (k+1) [] ?_ ?_ ?_ ?_;rotate_left 2;(focus (show b0≤_;omega));(focus (refine⟨?_,?_⟩<;>(try simp only[cans,hd,ht,hw,hwk,vcs,seval,tys,injs])<;>(try omega)))))
   all_goals (first|(show up-(k+1)<up-k;omega)|(show k+1≤up;omega)|skip)
  ·have hke:k=up:=by omega
   subst hke
   have hd:decide (k<k)=false:=decide_eq_false (by omega)
   have ht:(n / 64 ^ k).tmod 64=n / 64 ^ k % 64:=Int.tmod_eq_emod_of_nonneg hp
   have hw1:IntKind.i64.wrap (n / 64 ^ k % 64)=n / 64 ^ k % 64:=wrap_in (by omega) (by omega)
   have hw2:IntKind.i64.wrap (128+n / 64 ^ k % 64)=128+n / 64 ^ k % 64:=wrap_in (by omega) (by omega)
   have hw3:IntKind.u8.wrap (128+n / 64 ^ k % 64)=128+n / 64 ^ k % 64:=IntWalk.u8_in _ (by omega)
   (repeat' first|simp only[fins,mems,results106,ntmps106,wks,hd,ht,hw1,hw2,hw3,vcs,seval,tys]|exact rfl|refine call_off (v:=.any) ?_|((first|apply Ca|apply Cb)<;>intro hb)|refine Ai (by omega) ?_|(apply Ai<;>intro hb)|refine Fin.pure ?_ ?_ ?_|simp only[injs])
theorem enc1 {z:Int}(h0:0≤z)(h1:z≤127):(encodeRune z).map byteRow=[[V.int .u8 z]]:=by
 simp only[encodeRune,encodeRuneZ_one h0 h1,Lc,Lo]
 rw[enc_rows (by omega) (by omega)]
theorem enc2 {z:Int}(h0:128≤z)(h1:z≤2047):(encodeRune z).map byteRow=[[V.int .u8 (192+z / 64)],[V.int .u8 (128+z % 64)]]:=by
 simp only[encodeRune,encodeRuneZ_two h0 h1,Lc,Lo]
 rw[enc_rows (by omega) (by omega),enc_rows (by omega) (by omega)]
theorem enc3 {z:Int}(h0:(2048≤z∧z<55296)∨(57343<z∧z≤65535)):(encodeRune z).map byteRow=[[V.int .u8 (224+z / 4096)],[V.int .u8 (128+z / 64 % 64)],[V.int .u8 (128+z % 64)]]:=by
 simp only[encodeRune,encodeRuneZ_three h0,Lc,Lo]
 rw[enc_rows (by omega) (by omega),enc_rows (by omega) (by omega),enc_rows (by omega) (by omega)]
theorem enc4 {z:Int}(h0:65536≤z)(h1:z≤1114111):(encodeRune z).map byteRow=[[V.int .u8 (240+z / 262144)],[V.int .u8 (128+z / 4096 % 64)],[V.int .u8 (128+z / 64 % 64)],[V.int .u8 (128+z % 64)]]:=by
 simp only[encodeRune,encodeRuneZ_four h0 h1,Lc,Lo]
 rw[enc_rows (by omega) (by omega),enc_rows (by omega) (by omega),enc_rows (by omega) (by omega),enc_rows (by omega) (by omega)]
theorem rBytes_ev (n:Int)(hm:may n=true)(nm:Nat):Ev cx 98 nm [.int .i64 n] Mem.nil (.sl false 1 ((encodeRune n).map byteRow)) []:=by
 have hmz:=(may_iff n).1 hm
 have h0:0≤n:=by omega
 have hm1:n≤1114111:=by omega
 have q1:n.tdiv 64=n / 64:=Int.tdiv_eq_ediv_of_nonneg h0
 have q2:n.tdiv 4096=n / 4096:=Int.tdiv_eq_ediv_of_nonneg h0
 have q3:n.tdiv 262144=n / 262144:=Int.tdiv_eq_ediv_of_nonneg h0
 have w1:IntKind.i64.wrap (n / 64)=n / 64:=wrap_in (by omega) (by omega)
 have w2:IntKind.i64.wrap (n / 4096)=n / 4096:=wrap_in (by omega) (by omega)
 have w3:IntKind.i64.wrap (n / 262144)=n / 262144:=wrap_in (by omega) (by omega)
 have u1:IntKind.i64.wrap (192+n / 64)=192+n / 64:=wrap_in (by omega) (by omega)
 have u2:IntKind.i64.wrap (224+n / 4096)=224+n / 4096:=wrap_in (by omega) (by omega)
 have u3:IntKind.i64.wrap (240+n / 262144)=240+n / 262144:=wrap_in (by omega) (by omega)
 have s0:=six_ev n 0 h0 hm1 (by omega)
 have s1:=six_ev n 1 h0 hm1 (by omega)
 have s2:=six_ev n 2 h0 hm1 (by omega)
 simp only[Int.pow_zero,Int.ediv_one,Int.pow_one,Int.ofNat_zero,Int.ofNat_one,show(64:Int) ^ 1=64 from rfl,show(64:Int) ^ 2=4096 from rfl,show((0:Nat):Int)=0 from rfl,show((1:Nat):Int)=1 from rfl,show((2:Nat):Int)=2 from rfl]at s0 s1 s2
 by_cases c1:n<128
 ·have d1:decide (n<128)=true:=decide_eq_true c1
  have v1:IntKind.u8.wrap n=n:=IntWalk.u8_in _ (by omega)
  rw[enc1 h0 (by omega)]
  refine ev_go rfl (fun cargs w=>call98 cargs w) func98 rfl mixed (by kernel_rfl) rfl ?_;intro b0 hb0
  (repeat' first|simp only[fins,mems,results98,ntmps98,wks,d1,v1,vcs,seval,tys]|exact rfl|refine call_off (v:=.any) ?_|((first|apply Ca|apply Cb)<;>intro hb)|refine Ai (by omega) ?_|(apply Ai<;>intro hb)|refine Fin.pure ?_ ?_ ?_|simp only[injs])
 by_cases c2:n<2048
 ·have d1:decide (n<128)=false:=decide_eq_false c1
  have d2:decide (n<2048)=true:=decide_eq_true c2
  have v1:IntKind.u8.wrap (192+n / 64)=192+n / 64:=IntWalk.u8_in _ (by omega)
  rw[enc2 (by omega) (by omega)]
  refine ev_go rfl (fun cargs w=>call98 cargs w) func98 rfl mixed (by kernel_rfl) rfl ?_;intro b0 hb0
  (repeat' first|simp only[fins,mems,results98,ntmps98,wks,d1,d2,q1,w1,u1,v1,vcs,seval,tys]|exact rfl|refine call_off (v:=.any) ?_|(first|(refine call_fn ?_ (s0 _) ?_)|(refine call_fn_g ?_ (fun _=>s0 _) ?_))|((first|apply Ca|apply Cb)<;>intro hb)|refine Ai (by omega) ?_|(apply Ai<;>intro hb)|refine Fin.pure ?_ ?_ ?_|simp only[injs])
 by_cases c3:n<65536
 ·have d1:decide (n<128)=false:=decide_eq_false c1
  have d2:decide (n<2048)=false:=decide_eq_false c2
  have d3:decide (n<65536)=true:=decide_eq_true c3
  have v1:IntKind.u8.wrap (224+n / 4096)=224+n / 4096:=IntWalk.u8_in _ (by omega)
  rw[enc3 (by omega)]
  refine ev_go rfl (fun cargs w=>call98 cargs w) func98 rfl mixed (by kernel_rfl) rfl ?_;intro b0 hb0
  (repeat' first|simp only[fins,mems,results98,ntmps98,wks,d1,d2,d3,q2,w2,u2,v1,vcs,seval,tys]|exact rfl|refine call_off (v:=.any) ?_|((first|(refine call_fn ?_ (s0 _) ?_)|(refine call_fn_g ?_ (fun _=>s0 _) ?_));(focus (simp only[results98,ntmps98,wks,d1,d2,d3,q2,w2,u2,v1,vcs,seval,tys]<;>exact rfl)))|((first|(refine call_fn ?_ (s1 _) ?_)|(refine call_fn_g ?_ (fun _=>s1 _) ?_));(focus (simp only[results98,ntmps98,wks,d1,d2,d3,q2,w2,u2,v1,vcs,seval,tys]<;>exact rfl)))|((first|apply Ca|apply Cb)<;>intro hb)|refine Ai (by omega) ?_|(apply Ai<;>intro hb)|refine Fin.pure ?_ ?_ ?_|simp only[injs])
 ·have d1:decide (n<128)=false:=decide_eq_false c1
  have d2:decide (n<2048)=false:=decide_eq_false c2
  have d3:decide (n<65536)=false:=decide_eq_false c3
  have v1:IntKind.u8.wrap (240+n / 262144)=240+n / 262144:=IntWalk.u8_in _ (by omega)
  rw[enc4 (by omega) (by omega)]
  refine ev_go rfl (fun cargs w=>call98 cargs w) func98 rfl mixed (by kernel_rfl) rfl ?_;intro b0 hb0
  (repeat' first|simp only[fins,mems,results98,ntmps98,wks,d1,d2,d3,q3,w3,u3,v1,vcs,seval,tys]|exact rfl|refine call_off (v:=.any) ?_|((first|(refine call_fn ?_ (s0 _) ?_)|(refine call_fn_g ?_ (fun _=>s0 _) ?_));(focus (simp only[results98,ntmps98,wks,d1,d2,d3,q3,w3,u3,v1,vcs,seval,tys]<;>exact rfl)))|((first|(refine call_fn ?_ (s1 _) ?_)|(refine call_fn_g ?_ (fun _=>s1 _) ?_));(focus (simp only[results98,ntmps98,wks,d1,d2,d3,q3,w3,u3,v1,vcs,seval,tys]<;>exact rfl)))|((first|(refine call_fn ?_ (s2 _) ?_)|(refine call_fn_g ?_ (fun _=>s2 _) ?_));(focus (simp only[results98,ntmps98,wks,d1,d2,d3,q3,w3,u3,v1,vcs,seval,tys]<;>exact rfl)))|((first|apply Ca|apply Cb)<;>intro hb)|refine Ai (by omega) ?_|(apply Ai<;>intro hb)|refine Fin.pure ?_ ?_ ?_|simp only[injs])
theorem contN_take {n:Int}{l:List UInt8}{k:Nat}{b:UInt8}(h:l[k]? = some b):contN n (l.take (k+1))=64*contN n (l.take k)+(b.toNat:Int) % 64:=by
 obtain⟨hk,rfl⟩:=List.getElem?_eq_some_iff.1 h
 rw[List.take_succ_eq_append_getElem hk,contN_snoc]
theorem contN_nil (n:Int):contN n []=n:=rfl
theorem one_nil:one []=none:=rfl
theorem oneZ_none {s:List UInt8}(h:one s=none):oneZ s=0:=by unfold oneZ;rw[h]
theorem oneK_none {s:List UInt8}(h:one s=none):oneK s=0:=by unfold oneK;rw[h]
theorem oneZ_some {s:List UInt8}{z:Int}{k:Nat}(h:one s=some (z,k)):oneZ s=z:=by unfold oneZ;rw[h]
theorem oneK_some {s:List UInt8}{z:Int}{k:Nat}(h:one s=some (z,k)):oneK s=k:=by unfold oneK;rw[h]
theorem rOne_ev (s:List UInt8)(hs:s.length≤lim)(nm:Nat):Ev cx 83 nm [.str s] Mem.nil (.tup [.int .i64 (oneZ s),.int .i64 (oneK s)]) []:=by
 unfold lim at hs
 by_cases hne:s=[]
 ·subst hne
  have e1:=oneZ_none one_nil
  have e2:=oneK_none one_nil
  have hd:(([]:List UInt8)==[])=true:=rfl
  refine ev_go rfl (fun cargs w=>call83 cargs w) func83 rfl mixed (by kernel_rfl) rfl ?_;intro b0 hb0
  (repeat' first|simp only[fins,mems,results83,ntmps83,wks,e1,e2,hd,vcs,seval,tys]|exact rfl|refine call_off (v:=.any) ?_|refine draw_end' (ps:=[(5,9)]) (by decide +kernel) (by simp only[List.forall_mem_cons,List.getD_cons_zero,List.getD_cons_succ,results83,ntmps83,wks,e1,e2,hd,vcs,seval,tys]<;>(try simp)<;>(try omega)) ?_|refine draw_end (by decide +kernel) ?_|((first|apply Ca|apply Cb)<;>intro hb)|refine Ai (by omega) ?_|(apply Ai<;>intro hb)|refine Fin.pure ?_ ?_ ?_|simp only[injs])
 obtain⟨b,l,rfl⟩:=List.exists_cons_of_ne_nil hne
 have hd:((b::l)==[])=false:=rfl
 have hb:(b.toNat:Int)<256:=by have:=b.toNat_lt;omega
 have hb0:(0:Int)≤(b.toNat:Int):=by omega
 have hwb:IntKind.i64.wrap (b.toNat:Int)=(b.toNat:Int):=wrap_in (by omega) (by omega)
 obtain⟨hr1,hr2⟩:=headS_range (b.toNat:Int)
 obtain⟨hn1,hn2,hn3⟩:=headN_range (c:=(b.toNat:Int)) ⟨hb0,hb⟩
 have hhd:=head_ev (b.toNat:Int) hb0 hb
 obtain⟨k,hk⟩:∃ k:Nat,headS (b.toNat:Int)=k:=⟨(headS (b.toNat:Int)).toNat,by omega⟩
 have hk4:k≤4:=by omega
 rw[hk]at hhd
 generalize hN:headN (b.toNat:Int)=n0 at hhd hn1 hn2 hn3
 by_cases hbad:k=0∨(b::l).length<k
 ·have ho:one (b::l)=none:=one_no hk (by rcases hbad with h|h;exact .inl h;exact .inr (.inl h))
  have e1:=oneZ_none ho
  have e2:=oneK_none ho
  by_cases h0:k=0
  ·subst h0
   refine ev_go rfl (fun cargs w=>call83 cargs w) func83 rfl mixed (by kernel_rfl) rfl ?_;intro b0 hb0
   (repeat' first|simp only[fins,mems,results83,ntmps83,wks,e1,e2,hd,hwb,vcs,seval,tys]|exact rfl|refine call_off (v:=.any) ?_|(first|(refine call_fn ?_ (hhd _) ?_)|(refine call_fn_g ?_ (fun _=>hhd _) ?_))|refine draw_end' (ps:=[(5,9)]) (by decide +kernel) (by simp only[List.forall_mem_cons,List.getD_cons_zero,List.getD_cons_succ,results83,ntmps83,wks,e1,e2,hd,hwb,vcs,seval,tys]<;>(try simp)<;>(try omega)) ?_|refine draw_end (by decide +kernel) ?_|((first|apply Ca|apply Cb)<;>intro hb)|refine Ai (by omega) ?_|(apply Ai<;>intro hb)|refine Fin.pure ?_ ?_ ?_|simp only[injs])
  ·have hg:decide (l.length+1<k)=true:=decide_eq_true (by simpa using hbad.resolve_left h0)
   have hg0:((k:Int)==0)=false:=beq_false_of_ne (by omega)
   refine ev_go rfl (fun cargs w=>call83 cargs w) func83 rfl mixed (by kernel_rfl) rfl ?_;intro b0 hb0
   (repeat' first|simp only[fins,mems,results83,ntmps83,wks,e1,e2,hd,hwb,hg,hg0,List.length_cons,vcs,seval,tys]|exact rfl|refine call_off (v:=.any) ?_|(first|(refine call_fn ?_ (hhd _) ?_)|(refine call_fn_g ?_ (fun _=>hhd _) ?_))|refine draw_end' (ps:=[(5,9)]) (by decide +kernel) (by simp only[List.forall_mem_cons,List.getD_cons_zero,List.getD_cons_succ,results83,ntmps83,wks,e1,e2,hd,hwb,hg,hg0,List.length_cons,vcs,seval,tys]<;>(try simp)<;>(try omega)) ?_|refine draw_end (by decide +kernel) ?_|((first|apply Ca|apply Cb)<;>intro hb)|refine Ai (by omega) ?_|(apply Ai<;>intro hb)|refine Fin.pure ?_ ?_ ?_|simp only[injs])
 ·have hg:decide (l.length+1<k)=false:=decide_eq_false (by simp at hbad;omega)
  have hg0:((k:Int)==0)=false:=beq_false_of_ne (by omega)
  have hkl:k≤l.length+1:=by simp at hbad;omega
  have hk1:1≤k:=by omega
  simp only[List.length_cons]at hs
  refine ev_go rfl (fun cargs w=>call83 cargs w) func83 rfl mixed (by kernel_rfl) rfl ?_;intro b0 hb0
  repeat' first|simp only[fins,mems,results83,ntmps83,wks,hd,hwb,hg,hg0,List.length_cons,vcs,seval,tys]|exact rfl|refine call_off (v:=.any) ?_|(first|(refine call_fn ?_ (hhd _) ?_)|(refine call_fn_g ?_ (fun _=>hhd _) ?_))|refine draw_end' (ps:=[(5,9)]) (by decide +kernel) (by simp only[List.forall_mem_cons,List.getD_cons_zero,List.getD_cons_succ,results83,ntmps83,wks,hd,hwb,hg,hg0,List.length_cons,vcs,seval,tys]<;>(try simp)<;>(try omega)) ?_|refine draw_end (by decide +kernel) ?_|refine Ai (by omega) ?_
  (refine loop_can2 cxG (fun x:Nat=>k-x) (fun x=>1≤x∧x≤k) (b0+16) (fun x=>[(0,.str (b::l)),(4,.int .i64 k),(5,.int .i64 (contN n0 (l.take (x-1)))),(6,.int .i64 x)]) (fun x=>[]) (1) [] ?_ ?_ ?_ ?_;rotate_left 1;(focus (show b0≤_;omega));(focus (refine⟨?_,?_⟩<;>(try simp only[cans,List.take_zero,contN_nil,vcs,seval,tys,injs])<;>(try omega)));rotate_left 1)
  ·exact⟨Nat.le_refl _,hk1⟩
  ·rintro i ⟨hi1,hi2⟩
   by_cases hlt:i<k
   ·have hdi:decide (i<k)=true:=decide_eq_true hlt
    obtain⟨j,rfl⟩:∃ j,i=j+1:=⟨i-1,by omega⟩
    simp only[Nat.add_sub_cancel]at *
    obtain⟨c,hc⟩:∃ c,l[j]? = some c:=⟨_,List.getElem?_eq_getElem (by omega)⟩
    have hcs:contN n0 (l.take (j+1))=64*contN n0 (l.take j)+(c.toNat:Int) % 64:=contN_take hc
    have hcl:=contN_le (l.take j) n0 hn1
    have hj2:(l.take j).length=j:=by rw[List.length_take];omega
    rw[hj2]at hcl
    have hj3:j≤2:=by omega
    have hn31:n0≤31:=by
     refine hn3 ?_
     omega
    have hpw:(n0+1)*64 ^ j≤131072:=by
     rcases(show j=0∨j=1∨j=2 by omega) with rfl|rfl|rfl<;>simp only[Int.pow_zero,Int.pow_one,show(64:Int) ^ 1=64 from rfl,show(64:Int) ^ 2=4096 from rfl]<;>omega
    have hcw:(c.toNat:Int)<256:=by have:=c.toNat_lt;omega
    have hcm:(c.toNat:Int).tmod 64=(c.toNat:Int) % 64:=Int.tmod_eq_emod_of_nonneg (by omega)
    have w1:IntKind.i64.wrap (64*contN n0 (l.take j))=64*contN n0 (l.take j):=wrap_in (by omega) (by omega)
    have w2:IntKind.i64.wrap (c.toNat:Int)=(c.toNat:Int):=wrap_in (by omega) (by omega)
    have w3:IntKind.i64.wrap ((c.toNat:Int) % 64)=(c.toNat:Int) % 64:=wrap_in (by omega) (by omega)
    have w4:IntKind.i64.wrap (64*contN n0 (l.take j)+(c.toNat:Int) % 64)=contN n0 (l.take (j+1)):=by
     rw[hcs];exact wrap_in (by omega) (by omega)
    have w5:IntKind.i64.wrap (((j+1:Nat):Int)+1)=((j+1+1:Nat):Int):=wrap_in (by omega) (by omega)
    repeat' first|simp only[fins,mems,results83,ntmps83,wks,hdi,hc,hcm,w1,w2,w3,w4,w5,List.getElem?_cons_succ,List.length_cons,vcs,seval,tys]|exact rfl|refine call_off (v:=.any) ?_|refine draw_end' (ps:=[(5,9)]) (by decide +kernel) (by simp only[List.forall_mem_cons,List.getD_cons_zero,List.getD_cons_succ,results83,ntmps83,wks,hdi,hc,hcm,w1,w2,w3,w4,w5,List.getElem?_cons_succ,List.length_cons,vcs,seval,tys]<;>(try simp)<;>(try omega)) ?_|refine draw_end (by decide +kernel) ?_|((first|apply Ca|apply Cb)<;>intro hb)|refine Ai (by omega) ?_|(apply Ai<;>intro hb)
    ((refine again_can2 cxG (j+1+1) [] ?_ ?_ ?_ ?_;rotate_left 2;(focus (show b0≤_;omega));(focus (refine⟨?_,?_⟩<;>(try simp only[cans,hdi,hcm,w1,w2,w3,w4,w5,Nat.add_sub_cancel,show j+2-1=j+1 from rfl,vcs,seval,tys,injs])<;>(try omega)))))
    all_goals (first|(show k-(j+1+1)<k-(j+1);omega)|(show 1≤j+1+1∧j+1+1≤k;omega)|skip)
   ·have hke:i=k:=by omega
    subst hke
    have hdi:decide (i<i)=false:=decide_eq_false (by omega)
    cases hm:may (contN n0 (l.take (i-1))) with
    | false =>
     have ho:one (b::l)=none:=one_no hk (.inr (.inr ⟨by simp only[List.length_cons];exact hkl,fun n hn hmn=>by rw[hn,hN,hm]at hmn;cases hmn⟩))
     have e1:=oneZ_none ho
     have e2:=oneK_none ho
     (repeat' first|simp only[fins,mems,results83,ntmps83,wks,hdi,e1,e2,vcs,seval,tys]|exact rfl|refine call_off (v:=.any) ?_|(first|(refine call_fn ?_ ((by have:=rMay_ev (contN n0 (l.take (i-1)));rw[hm]at this;exact this _)) ?_)|(refine call_fn_g ?_ (fun _=>(by have:=rMay_ev (contN n0 (l.take (i-1)));rw[hm]at this;exact this _)) ?_))|(refine call_off (v:=.any) ?_)|(refine ext_toStr (v:=?_) (bs:=?_) ?_ ?_ ?_ ?_ ?_ ?_ ?_;rotate_left 2;(iterate 2 (focus (simp only[results83,ntmps83,wks,hdi,e1,e2,vcs,seval,tys];done)));(focus (simp only[results83,ntmps83,wks,hdi,e1,e2,vcs,seval,tys]<;>exact rfl));(focus (exact rfl));(focus (simp only[mems,results83,ntmps83,wks,hdi,e1,e2,vcs,seval,tys];done));(focus (simp only[results83,ntmps83,wks,hdi,e1,e2,vcs,seval,tys]<;>exact rfl)))|(refine extG_true ?_)|(refine extG_false ?_)|refine draw_end' (ps:=[(5,9)]) (by decide +kernel) (by simp only[List.forall_mem_cons,List.getD_cons_zero,List.getD_cons_succ,results83,ntmps83,wks,hdi,e1,e2,vcs,seval,tys]<;>(try simp)<;>(try omega)) ?_|refine draw_end (by decide +kernel) ?_|((first|apply Ca|apply Cb)<;>intro hb)|refine Ai (by omega) ?_|(apply Ai<;>intro hb)|refine Fin.pure ?_ ?_ ?_|simp only[injs])
    | true =>
     have hc0:((l.length:Int)+1)=((l.length+1:Nat):Int):=by omega
     have hsl:(i:Int)≤((l.length+1:Nat):Int):=by omega
     have hnn:i≤(b::l).length:=by simp only[List.length_cons];exact hkl
     by_cases heq:encodeRune (contN n0 (l.take (i-1)))=(b::l).take i
     ·have ho:one (b::l)=some (contN n0 (l.take (i-1)),i):=one_yes hm heq hnn
      have e1:=oneZ_some ho
      have e2:=oneK_some ho
      have hq:(encodeRune (contN n0 (l.take (i-1)))==(b::l).take i)=true:=by rw[heq];simp
      (repeat' first|simp only[fins,mems,results83,ntmps83,wks,hdi,e1,e2,hq,hnn,hsl,hkl,vcs,seval,tys]|exact rfl|refine call_off (v:=.any) ?_|(first|(refine call_fn ?_ ((by have:=rMay_ev (contN n0 (l.take (i-1)));rw[hm]at this;exact this _)) ?_)|(refine call_fn_g ?_ (fun _=>(by have:=rMay_ev (contN n0 (l.take (i-1)));rw[hm]at this;exact this _)) ?_)|(refine call_fn ?_ (rBytes_ev (contN n0 (l.take (i-1))) hm _) ?_)|(refine call_fn_g ?_ (fun _=>rBytes_ev (contN n0 (l.take (i-1))) hm _) ?_))|(refine ext_toStr (v:=?_) (bs:=?_) ?_ ?_ ?_ ?_ ?_ ?_ ?_;rotate_left 2;(iterate 2 (focus (simp only[results83,ntmps83,wks,hdi,e1,e2,hq,hnn,hsl,hkl,vcs,seval,tys];done)));(focus (simp only[results83,ntmps83,wks,hdi,e1,e2,hq,hnn,hsl,hkl,vcs,seval,tys]<;>exact rfl));(focus (exact rfl));(focus (simp only[mems,results83,ntmps83,wks,hdi,e1,e2,hq,hnn,hsl,hkl,vcs,seval,tys];done));(focus (simp only[results83,ntmps83,wks,hdi,e1,e2,hq,hnn,hsl,hkl,vcs,seval,tys]<;>exact rfl)))|(refine extG_true ?_)|(refine extG_false ?_)|refine draw_end' (ps:=[(5,9)]) (by decide +kernel) (by simp only[List.forall_mem_cons,List.getD_cons_zero,List.getD_cons_succ,results83,ntmps83,wks,hdi,e1,e2,hq,hnn,hsl,hkl,vcs,seval,tys]<;>(try simp)<;>(try omega)) ?_|refine draw_end (by decide +kernel) ?_|((first|apply Ca|apply Cb)<;>intro hb)|refine Ai (by omega) ?_|(apply Ai<;>intro hb)|refine Fin.pure ?_ ?_ ?_|simp only[injs])
     ·have ho:one (b::l)=none:=one_no hk (.inr (.inr ⟨hnn,fun n hn _=>by rw[hn,hN];exact heq⟩))
      have e1:=oneZ_none ho
      have e2:=oneK_none ho
      have hq:(encodeRune (contN n0 (l.take (i-1)))==(b::l).take i)=false:=beq_false_of_ne heq
      (repeat' first|simp only[fins,mems,results83,ntmps83,wks,hdi,e1,e2,hq,hnn,hsl,hkl,vcs,seval,tys]|exact rfl|refine call_off (v:=.any) ?_|(first|(refine call_fn ?_ ((by have:=rMay_ev (contN n0 (l.take (i-1)));rw[hm]at this;exact this _)) ?_)|(refine call_fn_g ?_ (fun _=>(by have:=rMay_ev (contN n0 (l.take (i-1)));rw[hm]at this;exact this _)) ?_)|(refine call_fn ?_ (rBytes_ev (contN n0 (l.take (i-1))) hm _) ?_)|(refine call_fn_g ?_ (fun _=>rBytes_ev (contN n0 (l.take (i-1))) hm _) ?_))|(refine ext_toStr (v:=?_) (bs:=?_) ?_ ?_ ?_ ?_ ?_ ?_ ?_;rotate_left 2;(iterate 2 (focus (simp only[results83,ntmps83,wks,hdi,e1,e2,hq,hnn,hsl,hkl,vcs,seval,tys];done)));(focus (simp only[results83,ntmps83,wks,hdi,e1,e2,hq,hnn,hsl,hkl,vcs,seval,tys]<;>exact rfl));(focus (exact rfl));(focus (simp only[mems,results83,ntmps83,wks,hdi,e1,e2,hq,hnn,hsl,hkl,vcs,seval,tys];done));(focus (simp only[results83,ntmps83,wks,hdi,e1,e2,hq,hnn,hsl,hkl,vcs,seval,tys]<;>exact rfl)))|(refine extG_true ?_)|(refine extG_false ?_)|refine draw_end' (ps:=[(5,9)]) (by decide +kernel) (by simp only[List.forall_mem_cons,List.getD_cons_zero,List.getD_cons_succ,results83,ntmps83,wks,hdi,e1,e2,hq,hnn,hsl,hkl,vcs,seval,tys]<;>(try simp)<;>(try omega)) ?_|refine draw_end (by decide +kernel) ?_|((first|apply Ca|apply Cb)<;>intro hb)|refine Ai (by omega) ?_|(apply Ai<;>intro hb)|refine Fin.pure ?_ ?_ ?_|simp only[injs])
theorem rAll_ev (s:List UInt8)(hs:s.length≤16384)(nm:Nat):Ev cx 72 nm [.str s] Mem.nil (.tup [.sl false 1 (((dec s).getD []).map intRow),.bool (dec s).isSome]) []:=by
 refine ev_go rfl (fun cargs w=>call72 cargs w) func72 rfl mixed (by kernel_rfl) rfl ?_;intro b0 hb0
 repeat' first|simp only[fins,mems,results72,ntmps72,wks,vcs,seval,tys]|exact rfl|refine call_off (v:=.any) ?_|((first|apply Ca|apply Cb)<;>intro hb)|refine Ai (by omega) ?_|(apply Ai<;>intro hb)
 (refine loop_can2 cxG (fun x:List UInt8×List Int=>x.1.length) (fun x=>x.1.length+x.2.length≤s.length∧dec s=(dec x.1).map (x.2 ++ ·)) (b0+16) (fun x=>[(0,.str x.1),(4,.own b0 0 x.2.length)]) (fun x=>[(b0,⟨1,x.2.map intRow⟩)]) ((s,[])) [none] ?_ ?_ ?_ ?_;rotate_left 1;(focus (show b0≤_;omega));(focus (refine⟨?_,?_⟩<;>(try simp only[cans,isRow_inst,plain_i,Lo,vcs,seval,tys,injs])<;>(try omega)));rotate_left 1)
 ·refine⟨by simp,?_⟩
  cases dec s<;>rfl
 ·rintro ⟨r,zs⟩ ⟨h1,h2⟩
  simp only at h1 h2
  have hr:r.length≤lim:=by unfold lim;omega
  by_cases hne:r=[]
  ·subst hne
   have hd:(([]:List UInt8)==[])=true:=rfl
   have e0:dec s=some zs:=by rw[h2,dec_nil];simp
   have e1:(dec s).isSome=true:=by rw[e0];rfl
   have e2:(dec s).getD []=zs:=by rw[e0];rfl
   (repeat' first|simp only[fins,mems,results72,ntmps72,wks,hd,e1,e2,plain_i,take_i,memL_cons,memL_nil,Lm,Nat.le_refl,vcs,seval,tys]|exact rfl|refine call_off (v:=.any) ?_|((first|apply Ca|apply Cb)<;>intro hb)|refine Ai (by omega) ?_|(apply Ai<;>intro hb)|refine Fin.pure ?_ ?_ ?_|simp only[injs])
  ·have hd:(r==[])=false:=beq_false_of_ne hne
   cases ho:one r with
   | none =>
    have k1:=oneZ_none ho
    have k2:=oneK_none ho
    have e0:dec s=none:=by rw[h2,dec_bad hne ho];rfl
    have e1:(dec s).isSome=false:=by rw[e0];rfl
    have e2:(dec s).getD []=[]:=by rw[e0];rfl
    (repeat' first|simp only[fins,mems,results72,ntmps72,wks,hd,e1,e2,k1,k2,plain_i,Lo,vcs,seval,tys]|exact rfl|refine call_off (v:=.any) ?_|(first|(refine call_fn ?_ (rOne_ev r hr _) ?_)|(refine call_fn_g ?_ (fun _=>rOne_ev r hr _) ?_))|((first|apply Ca|apply Cb)<;>intro hb)|refine Ai (by omega) ?_|(apply Ai<;>intro hb)|refine Fin.pure ?_ ?_ ?_|simp only[injs])
   | some p =>
    obtain⟨z,k⟩:=p
    obtain⟨_,hm,_,hk1,hk2⟩:=one_some ho
    have k1:=oneZ_some ho
    have k2:=oneK_some ho
    have hk0:((k:Int)==0)=false:=beq_false_of_ne (by omega)
    have hds:dec s=(dec (r.drop k)).map ((zs++[z]) ++ ·):=by
     rw[h2,dec_step ho]
     cases dec (r.drop k)<;>simp
    have hlen:(r.drop k).length=r.length-k:=by simp
    have hsn:zs.map intRow++[[V.int .i64 z]]=(zs++[z]).map intRow:=by simp[intRow]
    repeat' first|simp only[fins,mems,results72,ntmps72,wks,hd,hk0,k1,k2,hk2,plain_i,hsn,Lo,Lm,Nat.le_refl,Option.bind_some,Option.bind_none,vcs,seval,tys]|exact rfl|refine call_off (v:=.any) ?_|(first|(refine call_fn ?_ (rOne_ev r hr _) ?_)|(refine call_fn_g ?_ (fun _=>rOne_ev r hr _) ?_))|((first|apply Ca|apply Cb)<;>intro hb)|refine Ai (by omega) ?_|(apply Ai<;>intro hb)
    ((refine again_can2 cxG ((r.drop k,zs++[z])) [some (b0+240)] ?_ ?_ ?_ ?_;rotate_left 2;(focus (show b0≤_;omega));(focus (refine⟨?_,?_⟩<;>(try simp only[cans,isRow_inst,plain_i,ren_ints,List.length_append,List.length_cons,List.length_nil,vcs,seval,tys,injs])<;>(try omega)))))
    all_goals (first|(show(r.drop k).length<r.length;omega)|exact⟨by simp only[List.length_append,List.length_cons,List.length_nil];omega,hds⟩|skip)
theorem rIs_ev (s:List UInt8)(hs:s.length≤16384)(nm:Nat):Ev cx 53 nm [.str s] Mem.nil (.bool (dec s).isSome) []:=by
 refine ev_go rfl (fun cargs w=>call53 cargs w) func53 rfl mixed (by kernel_rfl) rfl ?_;intro b0 hb0
 (repeat' first|simp only[fins,mems,results53,ntmps53,wks,vcs,seval,tys]|exact rfl|refine call_off (v:=.any) ?_|(first|(refine call_fn ?_ (rAll_ev s hs _) ?_)|(refine call_fn_g ?_ (fun _=>rAll_ev s hs _) ?_))|((first|apply Ca|apply Cb)<;>intro hb)|refine Ai (by omega) ?_|(apply Ai<;>intro hb)|refine Fin.pure ?_ ?_ ?_|simp only[injs])
theorem rCheck_ev (s:List UInt8)(hs:s.length≤lim)(nm:Nat):Ev cx 31 nm [.str s] Mem.nil (.int .i64 (ptsErr s)) []:=by
 unfold lim at hs
 by_cases hb:16384<s.length
 ·have hd:decide ((16384:Int)<s.length)=true:=decide_eq_true (by omega)
  have he:ptsErr s=4:=by unfold ptsErr;rw[if_pos hb]
  refine ev_go rfl (fun cargs w=>call31 cargs w) func31 rfl mixed (by kernel_rfl) rfl ?_;intro b0 hb0
  (repeat' first|simp only[fins,mems,results31,ntmps31,wks,hd,he,vcs,seval,tys]|exact rfl|refine call_off (v:=.any) ?_|((first|apply Ca|apply Cb)<;>intro hb)|refine Ai (by omega) ?_|(apply Ai<;>intro hb)|refine Fin.pure ?_ ?_ ?_|simp only[injs])
 ·have hd:decide ((16384:Int)<s.length)=false:=decide_eq_false (by omega)
  cases hq:dec s with
  | none =>
   have he:ptsErr s=50:=by unfold ptsErr;rw[if_neg hb,hq]
   have hi:(dec s).isSome=false:=by rw[hq];rfl
   have hev:=rIs_ev s (by omega)
   rw[hi]at hev
   refine ev_go rfl (fun cargs w=>call31 cargs w) func31 rfl mixed (by kernel_rfl) rfl ?_;intro b0 hb0
   (repeat' first|simp only[fins,mems,results31,ntmps31,wks,hd,he,vcs,seval,tys]|exact rfl|refine call_off (v:=.any) ?_|(first|(refine call_fn ?_ (hev _) ?_)|(refine call_fn_g ?_ (fun _=>hev _) ?_))|((first|apply Ca|apply Cb)<;>intro hb)|refine Ai (by omega) ?_|(apply Ai<;>intro hb)|refine Fin.pure ?_ ?_ ?_|simp only[injs])
  | some zs =>
   have he:ptsErr s=0:=by unfold ptsErr;rw[if_neg hb,hq]
   have hi:(dec s).isSome=true:=by rw[hq];rfl
   have hev:=rIs_ev s (by omega)
   rw[hi]at hev
   refine ev_go rfl (fun cargs w=>call31 cargs w) func31 rfl mixed (by kernel_rfl) rfl ?_;intro b0 hb0
   (repeat' first|simp only[fins,mems,results31,ntmps31,wks,hd,he,vcs,seval,tys]|exact rfl|refine call_off (v:=.any) ?_|(first|(refine call_fn ?_ (hev _) ?_)|(refine call_fn_g ?_ (fun _=>hev _) ?_))|((first|apply Ca|apply Cb)<;>intro hb)|refine Ai (by omega) ?_|(apply Ai<;>intro hb)|refine Fin.pure ?_ ?_ ?_|simp only[injs])
theorem letter_leaves:∀ p1 p2 p3 p4 p5:Bool,(p1=true∧p2=true)∨(p1=true∧p2=false∧p3=true∧p4=true)∨(p1=true∧p2=false∧p3=true∧p4=false∧p5=true)∨(p1=true∧p2=false∧p3=true∧p4=false∧p5=false)∨(p1=true∧p2=false∧p3=false∧p5=true)∨(p1=true∧p2=false∧p3=false∧p5=false) ∨
  (p1=false∧p3=true∧p4=true)∨(p1=false∧p3=true∧p4=false∧p5=true)∨(p1=false∧p3=true∧p4=false∧p5=false)∨(p1=false∧p3=false∧p5=true)∨(p1=false∧p3=false∧p5=false):=by
 intro p1 p2 p3 p4 p5;cases p1<;>cases p2<;>cases p3<;>cases p4<;>cases p5<;>simp
theorem letB_eq {c:UInt8}{p1 p2 p3 p4 p5:Bool}(h1:decide ((97:Int)≤c.toNat)=p1)(h2:decide ((c.toNat:Int)≤122)=p2)(h3:decide ((65:Int)≤c.toNat)=p3)(h4:decide ((c.toNat:Int)≤90)=p4)(h5:decide (c=95)=p5):letB c=((p1&&p2)||(p3&&p4)||p5):=by
 unfold letB
 rw[← h1,← h2,← h3,← h4,← h5]
 have e1:((97:Int)≤c.toNat)=(97≤c.toNat):=propext (by omega)
 have e2:((c.toNat:Int)≤122)=(c.toNat≤122):=propext (by omega)
 have e3:((65:Int)≤c.toNat)=(65≤c.toNat):=propext (by omega)
 have e4:((c.toNat:Int)≤90)=(c.toNat≤90):=propext (by omega)
 simp only[e1,e2,e3,e4]
theorem rLetter_ev (c:UInt8)(nm:Nat):Ev cx 71 nm [.int .u8 c.toNat] Mem.nil (.bool (letB c)) []:=by
 have hq:((c.toNat:Int)==95)=decide (c=95):=beq_byte c 95
 generalize h1:decide ((97:Int)≤c.toNat)=p1
 generalize h2:decide ((c.toNat:Int)≤122)=p2
 generalize h3:decide ((65:Int)≤c.toNat)=p3
 generalize h4:decide ((c.toNat:Int)≤90)=p4
 generalize h5:decide (c=95)=p5
 have he:=letB_eq h1 h2 h3 h4 h5
 rcases letter_leaves p1 p2 p3 p4 p5 with ⟨rfl,rfl⟩|⟨rfl,rfl,rfl,rfl⟩|⟨rfl,rfl,rfl,rfl,rfl⟩|⟨rfl,rfl,rfl,rfl,rfl⟩|⟨rfl,rfl,rfl,rfl⟩|⟨rfl,rfl,rfl,rfl⟩|⟨rfl,rfl,rfl⟩|⟨rfl,rfl,rfl,rfl⟩|⟨rfl,rfl,rfl,rfl⟩|⟨rfl,rfl,rfl⟩|⟨rfl,rfl,rfl⟩
 all_goals simp only[Bool.true_and,Bool.false_and,Bool.and_false,Bool.true_or,Bool.or_true,Bool.false_or,Bool.or_false,Bool.and_true]at he
 all_goals (
  refine ev_go rfl (fun cargs w=>call71 cargs w) func71 rfl mixed (by kernel_rfl) rfl ?_;intro b0 hb0
  (repeat' first|simp only[fins,mems,results71,ntmps71,wks,hq,h1,h2,h3,h4,h5,he,vcs,seval,tys]|exact rfl|refine call_off (v:=.any) ?_|((first|apply Ca|apply Cb)<;>intro hb)|refine Ai (by omega) ?_|(apply Ai<;>intro hb)|refine Fin.pure ?_ ?_ ?_|simp only[injs]))
theorem orO:∀ n:Nat,n<256→(decide (97≤IntKind.u8.wrap ((BitVec.ofInt IntKind.u8.bits (n:Int) ||| BitVec.ofInt IntKind.u8.bits 32).toNat:Int))&&decide (IntKind.u8.wrap ((BitVec.ofInt IntKind.u8.bits (n:Int) ||| BitVec.ofInt IntKind.u8.bits 32).toNat:Int)≤122))=((decide (97≤n)&&decide (n≤122))||(decide (65≤n)&&decide (n≤90))):=by decide +kernel
theorem part_leaves:∀ p1 p2 p5 f p6 p7 p8 p9:Bool,(p1=true∧p2=true)∨(p1=true∧p2=false∧p5=true)∨(p1=false∧p5=true)∨(p1=true∧p2=false∧p5=false∧f=true)∨(p1=false∧p5=false∧f=true) ∨
  (p1=true∧p2=false∧p5=false∧f=false∧p6=true∧p7=true)∨(p1=true∧p2=false∧p5=false∧f=false∧p6=true∧p7=false∧p8=true)∨(p1=true∧p2=false∧p5=false∧f=false∧p6=true∧p7=false∧p8=false) ∨
  (p1=true∧p2=false∧p5=false∧f=false∧p6=false∧p8=true)∨(p1=true∧p2=false∧p5=false∧f=false∧p6=false∧p8=false) ∨
  (p1=false∧p5=false∧f=false∧p6=true∧p7=true)∨(p1=false∧p5=false∧f=false∧p6=true∧p7=false∧p8=true)∨(p1=false∧p5=false∧f=false∧p6=true∧p7=false∧p8=false) ∨
  (p1=false∧p5=false∧f=false∧p6=false∧p8=true)∨(p1=false∧p5=false∧f=false∧p6=false∧p8=false):=by
 intro p1 p2 p5 f p6 p7 p8 p9;cases p1<;>cases p2<;>cases p5<;>cases f<;>cases p6<;>cases p7<;>cases p8<;>simp
theorem partB_eq {c:UInt8}{f p1 p2 p5 p6 p7 p8 p9:Bool}(h1:decide (97≤IntKind.u8.wrap ((BitVec.ofInt IntKind.u8.bits (c.toNat:Int) ||| BitVec.ofInt IntKind.u8.bits 32).toNat:Int))=p1)(h2:decide (IntKind.u8.wrap ((BitVec.ofInt IntKind.u8.bits (c.toNat:Int) ||| BitVec.ofInt IntKind.u8.bits 32).toNat:Int)≤122)=p2)
  (h5:decide (c=95)=p5) (h6:decide ((48:Int)≤c.toNat)=p6) (h7:decide ((c.toNat:Int)≤57)=p7) (h8:decide (c=46)=p8) (h9:decide (c=45)=p9):partB f c=((p1&&p2)||p5||(!f&&((p6&&p7)||p8||p9))):=by
 have e:=orO c.toNat c.toNat_lt
 rw[h1,h2]at e
 unfold partB letB
 rw[← e,← h5,← h6,← h7,← h8,← h9]
 have e1:((48:Int)≤c.toNat)=(48≤c.toNat):=propext (by omega)
 have e2:((c.toNat:Int)≤57)=(c.toNat≤57):=propext (by omega)
 simp only[e1,e2]
theorem part_ev (c:UInt8)(f:Bool)(nm:Nat):Ev cx 55 nm [.int .u8 c.toNat,.bool f] Mem.nil (.bool (partB f c)) []:=by
 have q5:((c.toNat:Int)==95)=decide (c=95):=beq_byte c 95
 have q8:((c.toNat:Int)==46)=decide (c=46):=beq_byte c 46
 have q9:((c.toNat:Int)==45)=decide (c=45):=beq_byte c 45
 generalize h1:decide (97≤IntKind.u8.wrap ((BitVec.ofInt IntKind.u8.bits (c.toNat:Int) ||| BitVec.ofInt IntKind.u8.bits 32).toNat:Int))=p1
 generalize h2:decide (IntKind.u8.wrap ((BitVec.ofInt IntKind.u8.bits (c.toNat:Int) ||| BitVec.ofInt IntKind.u8.bits 32).toNat:Int)≤122)=p2
 generalize h5:decide (c=95)=p5
 generalize h6:decide ((48:Int)≤c.toNat)=p6
 generalize h7:decide ((c.toNat:Int)≤57)=p7
 generalize h8:decide (c=46)=p8
 generalize h9:decide (c=45)=p9
 have he:=partB_eq (f:=f) h1 h2 h5 h6 h7 h8 h9
 rcases part_leaves p1 p2 p5 f p6 p7 p8 p9 with ⟨rfl,rfl⟩|⟨rfl,rfl,rfl⟩|⟨rfl,rfl⟩|⟨rfl,rfl,rfl,rfl⟩|⟨rfl,rfl,rfl⟩|⟨rfl,rfl,rfl,rfl,rfl,rfl⟩|⟨rfl,rfl,rfl,rfl,rfl,rfl,rfl⟩|⟨rfl,rfl,rfl,rfl,rfl,rfl,rfl⟩|⟨rfl,rfl,rfl,rfl,rfl,rfl⟩|⟨rfl,rfl,rfl,rfl,rfl,rfl⟩|⟨rfl,rfl,rfl,rfl,rfl⟩|⟨rfl,rfl,rfl,rfl,rfl,rfl⟩|⟨rfl,rfl,rfl,rfl,rfl,rfl⟩|⟨rfl,rfl,rfl,rfl,rfl⟩|⟨rfl,rfl,rfl,rfl,rfl⟩
 all_goals simp only[Bool.true_and,Bool.false_and,Bool.and_false,Bool.true_or,Bool.or_true,Bool.false_or,Bool.or_false,Bool.and_true,Bt,Bf]at he
 all_goals (
  refine ev_go rfl (fun cargs w=>call55 cargs w) func55 rfl mixed (by kernel_rfl) rfl ?_;intro b0 hb0
  (repeat' first|simp only[fins,mems,results55,ntmps55,wks,q5,q8,q9,h1,h2,h5,h6,h7,h8,h9,he,vcs,seval,tys]|exact rfl|refine call_off (v:=.any) ?_|((first|apply Ca|apply Cb)<;>intro hb)|refine Ai (by omega) ?_|(apply Ai<;>intro hb)|refine Fin.pure ?_ ?_ ?_|simp only[injs]))
theorem rname_leaves:∀ l z a b p8 p9:Bool,(l=true)∨(l=false∧z=true)∨(l=false∧z=false∧a=true∧p8=true)∨(l=false∧z=false∧a=true∧p8=false∧p9=true)∨(l=false∧z=false∧a=true∧p8=false∧p9=false) ∨
  (l=false∧z=false∧a=false∧b=true∧p8=true)∨(l=false∧z=false∧a=false∧b=true∧p8=false∧p9=true)∨(l=false∧z=false∧a=false∧b=true∧p8=false∧p9=false)∨(l=false∧z=false∧a=false∧b=false):=by
 intro l z a b p8 p9;cases l<;>cases z<;>cases a<;>cases b<;>cases p8<;>cases p9<;>simp
theorem partB_eq2 {c:UInt8}{f l a b p8 p9:Bool}(h1:letB c=l)(h2:decide ((c.toNat:Int)<48)=a)(h3:decide ((57:Int)<c.toNat)=b)(h8:decide (c=46)=p8)(h9:decide (c=45)=p9):partB f c=(l||(!f&&((!a && !b)||p8||p9))):=by
 unfold partB
 rw[h1,← h2,← h3,← h8,← h9]
 have e1:decide (48≤c.toNat) = !decide ((c.toNat:Int)<48):=by rw[Bool.eq_iff_iff];simp;omega
 have e2:decide (c.toNat≤57) = !decide ((57:Int)<c.toNat):=by rw[Bool.eq_iff_iff];simp;omega
 rw[e1,e2]
theorem namedTo_succ {s:List UInt8}{k:Nat}{c:UInt8}(h:namedTo s k)(hc:s[k]? = some c)(hp:partB (k==0) c=true):namedTo s (k+1):=by
 intro i x hi hx
 by_cases e:i=k
 ·subst e;rw[hc]at hx;cases hx;exact hp
 ·exact h i x (by omega) hx
theorem zero_int (k:Nat):((k:Int)==0)=(k==0):=by
 rw[Bool.eq_iff_iff,beq_iff_eq,beq_iff_eq];omega
theorem rName_ev (s:List UInt8)(hs:s.length≤lim)(nm:Nat):Ev cx 52 nm [.str s] Mem.nil (.bool (nameL s)) []:=by
 unfold lim at hs
 refine ev_go rfl (fun cargs w=>call52 cargs w) func52 rfl mixed (by kernel_rfl) rfl ?_;intro b0 hb0
 repeat' first|simp only[fins,mems,results52,ntmps52,wks,vcs,seval,tys]|exact rfl|refine call_off (v:=.any) ?_|((first|apply Ca|apply Cb)<;>intro hb)|refine Ai (by omega) ?_|(apply Ai<;>intro hb)
 (refine loop_can2 cxG (fun x:Nat=>s.length-x) (fun x=>x≤s.length∧namedTo s x) (b0+16) (fun x=>[(0,.str s),(3,.int .i64 x)]) (fun x=>[]) (0) [] ?_ ?_ ?_ ?_;rotate_left 1;(focus (show b0≤_;omega));(focus (refine⟨?_,?_⟩<;>(try simp only[cans,vcs,seval,tys,injs])<;>(try omega)));rotate_left 1)
 ·exact⟨Nat.zero_le _,fun i c hi=>by omega⟩
 ·rintro k ⟨hk,hn⟩
  by_cases hlt:k<s.length
  ·obtain⟨c,hc⟩:∃ c,s[k]? = some c:=⟨_,List.getElem?_eq_getElem hlt⟩
   have hd:decide (k<s.length)=true:=decide_eq_true hlt
   have hwk:IntKind.i64.wrap ((k:Int)+1)=((k+1:Nat):Int):=wrap_in (by omega) (by omega)
   have hle:=rLetter_ev c
   have q8:((c.toNat:Int) != 46) = !decide (c=46):=congrArg not (beq_byte c 46)
   have q9:((c.toNat:Int) != 45) = !decide (c=45):=congrArg not (beq_byte c 45)
   have qz:=zero_int k
   generalize h1:letB c=l at hle
   generalize h2:decide ((c.toNat:Int)<48)=a
   generalize h3:decide ((57:Int)<c.toNat)=b
   generalize h8:decide (c=46)=p8
   generalize h9:decide (c=45)=p9
   have he:=partB_eq2 (f:=k==0) h1 h2 h3 h8 h9
   cases hp:partB (k==0) c with
   | false =>
    have hnf:=nameL_false hc hp
    rw[hp]at he
    generalize hz:(k==0)=z at he qz
    rcases rname_leaves l z a b p8 p9 with rfl|⟨rfl,rfl⟩|⟨rfl,rfl,rfl,rfl⟩|⟨rfl,rfl,rfl,rfl,rfl⟩|⟨rfl,rfl,rfl,rfl,rfl⟩|⟨rfl,rfl,rfl,rfl,rfl⟩|⟨rfl,rfl,rfl,rfl,rfl,rfl⟩|⟨rfl,rfl,rfl,rfl,rfl,rfl⟩|⟨rfl,rfl,rfl,rfl⟩
    all_goals (try (exfalso;simp at he;done))
    all_goals ((repeat' first|simp only[fins,mems,results52,ntmps52,wks,hc,hd,hlt,hnf,q8,q9,qz,h2,h3,h8,h9,Bt,Bf,vcs,seval,tys]|exact rfl|refine call_off (v:=.any) ?_|(first|(refine call_fn ?_ (hle _) ?_)|(refine call_fn_g ?_ (fun _=>hle _) ?_))|((first|apply Ca|apply Cb)<;>intro hb)|refine Ai (by omega) ?_|(apply Ai<;>intro hb)|refine Fin.pure ?_ ?_ ?_|simp only[injs]))
   | true =>
    have hn':=namedTo_succ hn hc hp
    rw[hp]at he
    generalize hz:(k==0)=z at he qz
    rcases rname_leaves l z a b p8 p9 with rfl|⟨rfl,rfl⟩|⟨rfl,rfl,rfl,rfl⟩|⟨rfl,rfl,rfl,rfl,rfl⟩|⟨rfl,rfl,rfl,rfl,rfl⟩|⟨rfl,rfl,rfl,rfl,rfl⟩|⟨rfl,rfl,rfl,rfl,rfl,rfl⟩|⟨rfl,rfl,rfl,rfl,rfl,rfl⟩|⟨rfl,rfl,rfl,rfl⟩
    all_goals (try (exfalso;simp at he;done))
    all_goals (repeat' first|simp only[fins,mems,results52,ntmps52,wks,hc,hd,hlt,hwk,q8,q9,qz,h2,h3,h8,h9,Bt,Bf,vcs,seval,tys]|exact rfl|refine call_off (v:=.any) ?_|(first|(refine call_fn ?_ (hle _) ?_)|(refine call_fn_g ?_ (fun _=>hle _) ?_))|((first|apply Ca|apply Cb)<;>intro hb)|refine Ai (by omega) ?_|(apply Ai<;>intro hb))
    all_goals ((refine again_can2 cxG (k+1) [] ?_ ?_ ?_ ?_;rotate_left 2;(focus (show b0≤_;omega));(focus (refine⟨?_,?_⟩<;>(try simp only[cans,hwk,vcs,seval,tys,injs])<;>(try omega)))))
    all_goals (first|(show s.length-(k+1)<s.length-k;omega)|exact⟨hlt,hn'⟩|skip)
  ·have hke:k=s.length:=by omega
   subst hke
   have hd:decide (s.length<s.length)=false:=decide_eq_false (by omega)
   by_cases hne:s=[]
   ·subst hne
    have hb:(([]:List UInt8)==[])=true:=rfl
    have e:nameL []=false:=rfl
    (repeat' first|simp only[fins,mems,results52,ntmps52,wks,hd,hb,e,vcs,seval,tys]|exact rfl|refine call_off (v:=.any) ?_|((first|apply Ca|apply Cb)<;>intro hb)|refine Ai (by omega) ?_|(apply Ai<;>intro hb)|refine Fin.pure ?_ ?_ ?_|simp only[injs])
   ·have hb:(s==[])=false:=beq_false_of_ne hne
    have e:=nameL_true hne hn
    (repeat' first|simp only[fins,mems,results52,ntmps52,wks,hd,hb,e,vcs,seval,tys]|exact rfl|refine call_off (v:=.any) ?_|((first|apply Ca|apply Cb)<;>intro hb)|refine Ai (by omega) ?_|(apply Ai<;>intro hb)|refine Fin.pure ?_ ?_ ?_|simp only[injs])
theorem empty_f {s:List UInt8}(h:s≠[]):s.isEmpty=false:=by cases s with|nil=>exact absurd rfl h|cons=>rfl
theorem name_ev (s:List UInt8)(hs:s.length≤lim)(nm:Nat):Ev cx 35 nm [.str s] Mem.nil (.bool (nameL s)) []:=by
 unfold lim at hs
 have hb:(s==[])=s.isEmpty:=by cases s<;>rfl
 refine ev_go rfl (fun cargs w=>call35 cargs w) func35 rfl mixed (by kernel_rfl) rfl ?_;intro b0 hb0
 repeat' first|simp only[fins,mems,results35,ntmps35,wks,hb,vcs,seval,tys]|exact rfl|refine call_off (v:=.any) ?_|((first|apply Ca|apply Cb)<;>intro hb)|refine Ai (by omega) ?_|(apply Ai<;>intro hb)
 (refine loop_can2 cxG (fun x:Nat=>s.length-x) (fun x=>x≤s.length∧namedTo s x) (b0+16) (fun x=>[(0,.str s),(3,.bool (!s.isEmpty)),(8,.int .i64 s.length),(9,.int .i64 x)]) (fun x=>[]) (0) [] ?_ ?_ ?_ ?_;rotate_left 1;(focus (show b0≤_;omega));(focus (refine⟨?_,?_⟩<;>(try simp only[cans,vcs,seval,tys,injs])<;>(try omega)));rotate_left 1)
 ·exact⟨Nat.zero_le _,fun i c hi=>by omega⟩
 ·rintro k ⟨hk,hn⟩
  by_cases hlt:k<s.length
  ·obtain⟨c,hc⟩:∃ c,s[k]? = some c:=⟨_,List.getElem?_eq_getElem hlt⟩
   have hne:s≠[]:=by rintro rfl;simp at hlt
   have hie:=empty_f hne
   have hd:decide (k<s.length)=true:=decide_eq_true hlt
   have hwk:IntKind.i64.wrap ((k:Int)+1)=((k+1:Nat):Int):=wrap_in (by omega) (by omega)
   have hle:=part_ev c (k==0)
   have qz:=zero_int k
   cases hp:partB (k==0) c with
   | false =>
    have hnf:=nameL_false hc hp
    rw[hp]at hle
    (repeat' first|simp only[fins,mems,results35,ntmps35,wks,hc,hd,hlt,hie,hnf,qz,vcs,seval,tys]|exact rfl|refine call_off (v:=.any) ?_|(first|(refine call_fn ?_ (hle _) ?_)|(refine call_fn_g ?_ (fun _=>hle _) ?_))|((first|apply Ca|apply Cb)<;>intro hb)|refine Ai (by omega) ?_|(apply Ai<;>intro hb)|refine Fin.pure ?_ ?_ ?_|simp only[injs])
   | true =>
    have hn':=namedTo_succ hn hc hp
    rw[hp]at hle
    repeat' first|simp only[fins,mems,results35,ntmps35,wks,hc,hd,hlt,hwk,hie,qz,vcs,seval,tys]|exact rfl|refine call_off (v:=.any) ?_|(first|(refine call_fn ?_ (hle _) ?_)|(refine call_fn_g ?_ (fun _=>hle _) ?_))|((first|apply Ca|apply Cb)<;>intro hb)|refine Ai (by omega) ?_|(apply Ai<;>intro hb)
    all_goals ((refine again_can2 cxG (k+1) [] ?_ ?_ ?_ ?_;rotate_left 2;(focus (show b0≤_;omega));(focus (refine⟨?_,?_⟩<;>(try simp only[cans,hwk,hie,vcs,seval,tys,injs])<;>(try omega)))))
    all_goals (first|(show s.length-(k+1)<s.length-k;omega)|exact⟨hlt,hn'⟩|skip)
  ·have hke:k=s.length:=by omega
   subst hke
   have hd:decide (s.length<s.length)=false:=decide_eq_false (by omega)
   by_cases hne:s=[]
   ·subst hne
    have e:nameL []=false:=rfl
    (repeat' first|simp only[fins,mems,results35,ntmps35,wks,hd,List.isEmpty_nil,e,vcs,seval,tys]|exact rfl|refine call_off (v:=.any) ?_|((first|apply Ca|apply Cb)<;>intro hb)|refine Ai (by omega) ?_|(apply Ai<;>intro hb)|refine Fin.pure ?_ ?_ ?_|simp only[injs])
   ·have hie:=empty_f hne
    have e:=nameL_true hne hn
    (repeat' first|simp only[fins,mems,results35,ntmps35,wks,hd,hie,e,vcs,seval,tys]|exact rfl|refine call_off (v:=.any) ?_|((first|apply Ca|apply Cb)<;>intro hb)|refine Ai (by omega) ?_|(apply Ai<;>intro hb)|refine Fin.pure ?_ ?_ ?_|simp only[injs])
theorem idxStr_ev (s:List UInt8)(c:UInt8)(M:Mem)(nm:Nat):Ev cx 99 nm [.str s,.int .u8 c.toNat] M (.int .i64 (indexByte s c)) [] :=
 Ev.indexByte func99 (by kernel_rfl) (by kernel_rfl) (by kernel_rfl) (by kernel_rfl) s c M nm
theorem idxB_ev (s:List UInt8)(c:UInt8)(nm:Nat):Ev cx 88 nm [.str s,.int .u8 c.toNat] Mem.nil (.int .i64 (indexByte s c)) []:=by
 refine ev_go rfl (fun cargs w=>call88 cargs w) func88 rfl mixed (by kernel_rfl) rfl ?_;intro b0 hb0
 (repeat' first|simp only[fins,mems,results88,ntmps88,wks,vcs,seval,tys]|exact rfl|refine call_off (v:=.any) ?_|(first|(refine call_fn ?_ (idxStr_ev s c _ _) ?_)|(refine call_fn_g ?_ (fun _=>idxStr_ev s c _ _) ?_))|((first|apply Ca|apply Cb)<;>intro hb)|refine Ai (by omega) ?_|(apply Ai<;>intro hb)|refine Fin.pure ?_ ?_ ?_|simp only[injs])
theorem index1_ev (s:List UInt8)(d:UInt8)(nm:Nat):Ev cx 78 nm [.str s,.str [d]] Mem.nil (.int .i64 (indexByte s d)) []:=by
 by_cases h:[d]=s
 ·subst h
  have e:indexByte [d] d=0:=by simp[indexByte]
  have e1:([d]==[d])=true:=by simp
  refine ev_go rfl (fun cargs w=>call78 cargs w) func78 rfl mixed (by kernel_rfl) rfl ?_;intro b0 hb0
  (repeat' first|simp only[fins,mems,results78,ntmps78,wks,e,e1,vcs,seval,tys]|exact rfl|refine call_off (v:=.any) ?_|(first|(refine call_fn ?_ (idxB_ev [d] d _) ?_)|(refine call_fn_g ?_ (fun _=>idxB_ev [d] d _) ?_))|((first|apply Ca|apply Cb)<;>intro hb)|refine Ai (by omega) ?_|(apply Ai<;>intro hb)|refine Fin.pure ?_ ?_ ?_|simp only[injs])
 ·have e1:([d]==s)=false:=beq_false_of_ne h
  refine ev_go rfl (fun cargs w=>call78 cargs w) func78 rfl mixed (by kernel_rfl) rfl ?_;intro b0 hb0
  (repeat' first|simp only[fins,mems,results78,ntmps78,wks,e1,vcs,seval,tys]|exact rfl|refine call_off (v:=.any) ?_|(first|(refine call_fn ?_ (idxB_ev s d _) ?_)|(refine call_fn_g ?_ (fun _=>idxB_ev s d _) ?_))|((first|apply Ca|apply Cb)<;>intro hb)|refine Ai (by omega) ?_|(apply Ai<;>intro hb)|refine Fin.pure ?_ ?_ ?_|simp only[injs])
def cutV (d:UInt8)(s:List UInt8):V:=match cut1 d s with
 | none=>.tup [.str s,.str [],.bool false]
 | some (a,b)=>.tup [.str a,.str b,.bool true]
theorem cutS_ev (s:List UInt8)(d:UInt8)(hs:s.length≤lim)(nm:Nat):Ev cx 77 nm [.str s,.str [d]] Mem.nil (cutV d s) []:=by
 unfold lim at hs
 cases hc:cut1 d s with
 | none =>
  have e:indexByte s d = -1:=index1_none.2 hc
  have ev:cutV d s = .tup [.str s,.str [],.bool false]:=by unfold cutV;rw[hc]
  rw[ev]
  refine ev_go rfl (fun cargs w=>call77 cargs w) func77 rfl mixed (by kernel_rfl) rfl ?_;intro b0 hb0
  (repeat' first|simp only[fins,mems,results77,ntmps77,wks,vcs,seval,tys]|exact rfl|refine call_off (v:=.any) ?_|(first|(refine call_fn ?_ ((by have:=index1_ev s d;rw[e]at this;exact this _)) ?_)|(refine call_fn_g ?_ (fun _=>(by have:=index1_ev s d;rw[e]at this;exact this _)) ?_))|refine draw_end (by decide +kernel) ?_|((first|apply Ca|apply Cb)<;>intro hb)|refine Ai (by omega) ?_|(apply Ai<;>intro hb)|refine Fin.pure ?_ ?_ ?_|simp only[injs])
 | some p =>
  obtain⟨a,b⟩:=p
  obtain⟨e,e1,e2,e3⟩:=index1_some hc
  have ev:cutV d s = .tup [.str a,.str b,.bool true]:=by unfold cutV;rw[hc]
  have h1:(a.length:Int)≤s.length:=by omega
  have h2:IntKind.i64.wrap ((a.length:Int)+1)=((a.length+1:Nat):Int):=wrap_in (by omega) (by omega)
  have h3:((a.length+1:Nat):Int)≤s.length:=by omega
  have h4:a.length≤s.length:=by omega
  have h5:a.length+1≤s.length:=by omega
  rw[ev]
  refine ev_go rfl (fun cargs w=>call77 cargs w) func77 rfl mixed (by kernel_rfl) rfl ?_;intro b0 hb0
  (repeat' first|simp only[fins,mems,results77,ntmps77,wks,h1,h2,h3,h4,h5,e1,e2,vcs,seval,tys]|exact rfl|refine call_off (v:=.any) ?_|(first|(refine call_fn ?_ ((by have:=index1_ev s d;rw[e]at this;exact this _)) ?_)|(refine call_fn_g ?_ (fun _=>(by have:=index1_ev s d;rw[e]at this;exact this _)) ?_))|refine draw_end (by decide +kernel) ?_|((first|apply Ca|apply Cb)<;>intro hb)|refine Ai (by omega) ?_|(apply Ai<;>intro hb)|refine Fin.pure ?_ ?_ ?_|simp only[injs])
theorem cut_ev (s:List UInt8)(d:UInt8)(hs:s.length≤lim)(nm:Nat):Ev cx 60 nm [.str s,.str [d]] Mem.nil (cutV d s) []:=by
 have hev:=cutS_ev s d hs
 cases hc:cut1 d s with
 | none =>
  have ev:cutV d s = .tup [.str s,.str [],.bool false]:=by unfold cutV;rw[hc]
  rw[ev]at hev ⊢
  refine ev_go rfl (fun cargs w=>call60 cargs w) func60 rfl mixed (by kernel_rfl) rfl ?_;intro b0 hb0
  (repeat' first|simp only[fins,mems,results60,ntmps60,wks,vcs,seval,tys]|exact rfl|refine call_off (v:=.any) ?_|(first|(refine call_fn ?_ (hev _) ?_)|(refine call_fn_g ?_ (fun _=>hev _) ?_))|((first|apply Ca|apply Cb)<;>intro hb)|refine Ai (by omega) ?_|(apply Ai<;>intro hb)|refine Fin.pure ?_ ?_ ?_|simp only[injs])
 | some p =>
  have ev:cutV d s = .tup [.str p.1,.str p.2,.bool true]:=by unfold cutV;rw[hc]
  rw[ev]at hev ⊢
  refine ev_go rfl (fun cargs w=>call60 cargs w) func60 rfl mixed (by kernel_rfl) rfl ?_;intro b0 hb0
  (repeat' first|simp only[fins,mems,results60,ntmps60,wks,vcs,seval,tys]|exact rfl|refine call_off (v:=.any) ?_|(first|(refine call_fn ?_ (hev _) ?_)|(refine call_fn_g ?_ (fun _=>hev _) ?_))|((first|apply Ca|apply Cb)<;>intro hb)|refine Ai (by omega) ?_|(apply Ai<;>intro hb)|refine Fin.pure ?_ ?_ ?_|simp only[injs])
theorem full_ev (s:List UInt8)(hs:s.length≤lim)(nm:Nat):Ev cx 74 nm [.str s] Mem.nil (.bool (fullL s)) []:=by
 have hev:=cut_ev s 58 hs
 cases hc:cut1 58 s with
 | none =>
  have ev:cutV 58 s = .tup [.str s,.str [],.bool false]:=by unfold cutV;rw[hc]
  have hf:fullL s=nameL s:=by unfold fullL;rw[hc]
  have hn:=name_ev s hs
  rw[ev]at hev
  rw[hf]
  cases h:nameL s<;>rw[h]at hn<;>(
   refine ev_go rfl (fun cargs w=>call74 cargs w) func74 rfl mixed (by kernel_rfl) rfl ?_;intro b0 hb0
   (repeat' first|simp only[fins,mems,results74,ntmps74,wks,vcs,seval,tys]|exact rfl|refine call_off (v:=.any) ?_|(first|(refine call_fn ?_ (hev _) ?_)|(refine call_fn_g ?_ (fun _=>hev _) ?_)|(refine call_fn ?_ (hn _) ?_)|(refine call_fn_g ?_ (fun _=>hn _) ?_))|(refine call_off (v:=.any) ?_)|((first|apply Ca|apply Cb)<;>intro hb)|refine Ai (by omega) ?_|(apply Ai<;>intro hb)|refine Fin.pure ?_ ?_ ?_|simp only[injs]))
 | some p =>
  obtain⟨a,b⟩:=p
  obtain⟨_,_,_,e3⟩:=index1_some hc
  have ev:cutV 58 s = .tup [.str a,.str b,.bool true]:=by unfold cutV;rw[hc]
  have hf:fullL s=(nameL a&&nameL b):=by unfold fullL;rw[hc]
  have hn1:=name_ev a (by omega)
  have hn2:=name_ev b (by omega)
  rw[ev]at hev
  rw[hf]
  cases h1:nameL a<;>rw[h1]at hn1<;>(
   refine ev_go rfl (fun cargs w=>call74 cargs w) func74 rfl mixed (by kernel_rfl) rfl ?_;intro b0 hb0
   (repeat' first|simp only[fins,mems,results74,ntmps74,wks,vcs,seval,tys]|exact rfl|refine call_off (v:=.any) ?_|((first|(refine call_fn ?_ (hn1 _) ?_)|(refine call_fn_g ?_ (fun _=>hn1 _) ?_));(focus (simp only[results74,ntmps74,wks,vcs,seval,tys]<;>exact rfl)))|((first|(refine call_fn ?_ (hn2 _) ?_)|(refine call_fn_g ?_ (fun _=>hn2 _) ?_));(focus (simp only[results74,ntmps74,wks,vcs,seval,tys]<;>exact rfl)))|(first|(refine call_fn ?_ (hev _) ?_)|(refine call_fn_g ?_ (fun _=>hev _) ?_))|(refine call_off (v:=.any) ?_)|((first|apply Ca|apply Cb)<;>intro hb)|refine Ai (by omega) ?_|(apply Ai<;>intro hb)|refine Fin.pure ?_ ?_ ?_|simp only[injs]))
def partsV (d:UInt8)(s:List UInt8):V:=match cut1 d s with
 | none=>.tup [.str [],.str s,.bool false]
 | some (a,b)=>.tup [.str a,.str b,.bool true]
theorem notin_succ {d:UInt8}{s:List UInt8}{k:Nat}{c:UInt8}(h:d ∉ s.take k)(hc:s[k]? = some c)(hne:c≠d):d ∉ s.take (k+1):=by
 obtain⟨hk,rfl⟩:=List.getElem?_eq_some_iff.1 hc
 rw[List.take_succ_eq_append_getElem hk]
 simp only[List.mem_append,List.mem_singleton,not_or]
 exact⟨h,fun e=>hne e.symm⟩
theorem rParts_ev (s:List UInt8)(hs:s.length≤lim)(nm:Nat):Ev cx 63 nm [.str s] Mem.nil (partsV 58 s) []:=by
 unfold lim at hs
 refine ev_go rfl (fun cargs w=>call63 cargs w) func63 rfl mixed (by kernel_rfl) rfl ?_;intro b0 hb0
 repeat' first|simp only[fins,mems,results63,ntmps63,wks,vcs,seval,tys]|exact rfl|refine call_off (v:=.any) ?_|refine draw_end (by decide +kernel) ?_|((first|apply Ca|apply Cb)<;>intro hb)|refine Ai (by omega) ?_|(apply Ai<;>intro hb)
 (refine loop_can2 cxG (fun x:Nat=>s.length-x) (fun x=>x≤s.length∧(58:UInt8) ∉ s.take x) (b0+16) (fun x=>[(0,.str s),(5,.int .i64 x)]) (fun x=>[]) (0) [] ?_ ?_ ?_ ?_;rotate_left 1;(focus (show b0≤_;omega));(focus (refine⟨?_,?_⟩<;>(try simp only[cans,vcs,seval,tys,injs])<;>(try omega)));rotate_left 1)
 ·exact⟨Nat.zero_le _,by simp⟩
 ·rintro k ⟨hk,hn⟩
  by_cases hlt:k<s.length
  ·obtain⟨c,hc⟩:∃ c,s[k]? = some c:=⟨_,List.getElem?_eq_getElem hlt⟩
   have hd:decide (k<s.length)=true:=decide_eq_true hlt
   have hwk:IntKind.i64.wrap ((k:Int)+1)=((k+1:Nat):Int):=wrap_in (by omega) (by omega)
   have q8:((c.toNat:Int)==58)=decide (c=58):=beq_byte c 58
   by_cases h8:c=58
   ·have h8':decide (c=58)=true:=decide_eq_true h8
    subst h8
    have ev:partsV 58 s = .tup [.str (s.take k),.str (s.drop (k+1)),.bool true]:=by unfold partsV;rw[cut1_at hn hc]
    have h3:((k+1:Nat):Int)≤s.length:=by omega
    have h5:k+1≤s.length:=by omega
    (repeat' first|simp only[fins,mems,results63,ntmps63,wks,hc,hd,hlt,hwk,q8,h8',ev,h3,h5,hk,vcs,seval,tys]|exact rfl|refine call_off (v:=.any) ?_|refine draw_end (by decide +kernel) ?_|((first|apply Ca|apply Cb)<;>intro hb)|refine Ai (by omega) ?_|(apply Ai<;>intro hb)|refine Fin.pure ?_ ?_ ?_|simp only[injs])
   ·have h8':decide (c=58)=false:=decide_eq_false h8
    repeat' first|simp only[fins,mems,results63,ntmps63,wks,hc,hd,hlt,hwk,q8,h8',vcs,seval,tys]|exact rfl|refine call_off (v:=.any) ?_|refine draw_end (by decide +kernel) ?_|((first|apply Ca|apply Cb)<;>intro hb)|refine Ai (by omega) ?_|(apply Ai<;>intro hb)
    all_goals ((refine again_can2 cxG (k+1) [] ?_ ?_ ?_ ?_;rotate_left 2;(focus (show b0≤_;omega));(focus (refine⟨?_,?_⟩<;>(try simp only[cans,hwk,vcs,seval,tys,injs])<;>(try omega)))))
    all_goals (first|(show s.length-(k+1)<s.length-k;omega)|exact⟨hlt,notin_succ hn hc h8⟩|skip)
  ·have hke:k=s.length:=by omega
   subst hke
   rw[List.take_length]at hn
   have hd:decide (s.length<s.length)=false:=decide_eq_false (by omega)
   have ev:partsV 58 s = .tup [.str [],.str s,.bool false]:=by unfold partsV;rw[cut1_none.2 hn]
   (repeat' first|simp only[fins,mems,results63,ntmps63,wks,hd,ev,vcs,seval,tys]|exact rfl|refine call_off (v:=.any) ?_|refine draw_end (by decide +kernel) ?_|((first|apply Ca|apply Cb)<;>intro hb)|refine Ai (by omega) ?_|(apply Ai<;>intro hb)|refine Fin.pure ?_ ?_ ?_|simp only[injs])
theorem rFull_ev (s:List UInt8)(hs:s.length≤lim)(nm:Nat):Ev cx 79 nm [.str s] Mem.nil (.bool (fullL s)) []:=by
 have hev:=rParts_ev s hs
 cases hc:cut1 58 s with
 | none =>
  have ev:partsV 58 s = .tup [.str [],.str s,.bool false]:=by unfold partsV;rw[hc]
  have hf:fullL s=nameL s:=by unfold fullL;rw[hc]
  have hn:=rName_ev s hs
  rw[ev]at hev
  rw[hf]
  cases h:nameL s<;>rw[h]at hn<;>(
   refine ev_go rfl (fun cargs w=>call79 cargs w) func79 rfl mixed (by kernel_rfl) rfl ?_;intro b0 hb0
   (repeat' first|simp only[fins,mems,results79,ntmps79,wks,vcs,seval,tys]|exact rfl|refine call_off (v:=.any) ?_|(first|(refine call_fn ?_ (hev _) ?_)|(refine call_fn_g ?_ (fun _=>hev _) ?_)|(refine call_fn ?_ (hn _) ?_)|(refine call_fn_g ?_ (fun _=>hn _) ?_))|(refine call_off (v:=.any) ?_)|((first|apply Ca|apply Cb)<;>intro hb)|refine Ai (by omega) ?_|(apply Ai<;>intro hb)|refine Fin.pure ?_ ?_ ?_|simp only[injs]))
 | some p =>
  obtain⟨a,b⟩:=p
  obtain⟨_,_,_,e3⟩:=index1_some hc
  have ev:partsV 58 s = .tup [.str a,.str b,.bool true]:=by unfold partsV;rw[hc]
  have hf:fullL s=(nameL b&&nameL a):=by unfold fullL;rw[hc,Bool.and_comm]
  have hn1:=rName_ev a (by omega)
  have hn2:=rName_ev b (by omega)
  rw[ev]at hev
  rw[hf]
  cases h1:nameL b<;>rw[h1]at hn2<;>(
   refine ev_go rfl (fun cargs w=>call79 cargs w) func79 rfl mixed (by kernel_rfl) rfl ?_;intro b0 hb0
   (repeat' first|simp only[fins,mems,results79,ntmps79,wks,vcs,seval,tys]|exact rfl|refine call_off (v:=.any) ?_|((first|(refine call_fn ?_ (hn1 _) ?_)|(refine call_fn_g ?_ (fun _=>hn1 _) ?_));(focus (simp only[results79,ntmps79,wks,vcs,seval,tys]<;>exact rfl)))|((first|(refine call_fn ?_ (hn2 _) ?_)|(refine call_fn_g ?_ (fun _=>hn2 _) ?_));(focus (simp only[results79,ntmps79,wks,vcs,seval,tys]<;>exact rfl)))|(first|(refine call_fn ?_ (hev _) ?_)|(refine call_fn_g ?_ (fun _=>hev _) ?_))|(refine call_off (v:=.any) ?_)|((first|apply Ca|apply Cb)<;>intro hb)|refine Ai (by omega) ?_|(apply Ai<;>intro hb)|refine Fin.pure ?_ ?_ ?_|simp only[injs]))
def Fo.tops:Fo→Nat→List Nat
 | .nil,_=>[]
 | .cons _ k r,p=>p::r.tops (p+1+k.size)
theorem Fo.tops_length:∀(F:Fo) (p:Nat),(F.tops p).length=F.count
 | .nil,_=>rfl
 | .cons n k r,p=>by simp[Fo.tops,Fo.count,r.tops_length]
def hops (en:List Nat)(stop:Nat):Nat→Nat→List Nat
 | 0,_=>[]
 | f+1,p=>if p<stop then p::hops en stop f (en.getD p 0) else []
theorem ends_up:∀(F:Fo) (b i e:Nat),(F.ends b)[i]? = some e→b+i<e∧e≤b+F.size
 | .nil,b,i,e,h=>by simp[Fo.ends]at h
 | .cons n k r,b,0,e,h=>by simp[Fo.ends]at h;simp only[Fo.size];omega
 | .cons n k r,b,i+1,e,h=>by
  simp only[Fo.ends,List.getElem?_cons_succ,List.getElem?_append,Fo.ends_length]at h
  simp only[Fo.size]
  split at h
  ·have:=ends_up k _ _ _ h;omega
  ·have:=ends_up r _ _ _ h;omega
def Fo.sub:Fo→Nat→Option (Nd×Fo)
 | .nil,_=>none
 | .cons n k _,0=>some (n,k)
 | .cons _ k r,i+1=>if i<k.size then k.sub i else r.sub (i-k.size)
theorem Fo.good_all:∀ {F:Fo} {d last:Nat},F.good d last=true → ∀ x∈F.flat,mayN x=true∧0≤x.many∧x.many≤F.size
 | .nil,_,_,_,x,hx=>by simp[Fo.flat]at hx
 | .cons n k r,d,last,h,x,hx=>by
  obtain⟨h1,h2,h3,h4,h5,h6⟩:=Fo.good_cons.1 h
  simp only[Fo.size]
  have hc:∀(F:Fo),F.count≤F.size:=by
   intro F
   induction F with
   | nil=>exact Nat.le_refl _
   | cons n k r _ ih=>simp only[Fo.count,Fo.size];omega
  simp only[Fo.flat,Lk,List.mem_append]at hx
  rcases hx with rfl|hx|hx
  ·have:=hc k;exact⟨h1,by omega,by omega⟩
  ·obtain⟨a,b,c⟩:=Fo.good_all h5 x hx;exact⟨a,b,by omega⟩
  ·obtain⟨a,b,c⟩:=Fo.good_all h6 x hx;exact⟨a,b,by omega⟩
def spacedN (n:Nd):Bool:=!n.space.isEmpty||n.attrs.any fun a=>!a.space.isEmpty
def spacedL (v:List Nd):Bool:=v.any spacedN
end Go.Proofs.YtfcfldmioonipaaGreatDoor
