/-
 Texts joined: XCg.
-/
import Derived.Test.YtnnbggkpgacdiaaDoorQi
namespace Go.Proofs.YtnnbggkpgacdiaaDoor
set_option linter.unusedSimpArgs false
set_option linter.unusedVariables false
open Go Go.RowKit Vm Go.Lib Tryd
open Vm renaming cond_bool→Ca,cond_bit→Cb
open And renaming intro→Ai
open List renaming length_map→Lm,not_mem_nil→Ln,map_nil→Lo,map_cons→Lc,mem_cons→Lk
open Bool renaming not_false→Bf,not_true→Bt
def curG (g:Bool)(l:List UInt8)(k:Nat):List UInt8:=(l.take k).map (upC g)++l.drop k
theorem cur_len (g:Bool)(l:List UInt8)(k:Nat):(curG g l k).length=l.length:=by
 unfold curG
 simp only[List.length_append,Lm,List.length_take,List.length_drop];omega
theorem cur_at {g:Bool}{l:List UInt8}{k:Nat}{c:UInt8}(h:l[k]? = some c):(curG g l k)[k]? = some c:=by
 obtain⟨hk,rfl⟩:=List.getElem?_eq_some_iff.1 h
 unfold curG
 rw[List.getElem?_append_right (by simp;omega)]
 simp only[Lm,List.length_take,List.getElem?_drop]
 rw[show k+(k-min k l.length)=k by omega];exact h
theorem cur_next {g:Bool}{l:List UInt8}{k:Nat}{c:UInt8}(h:l[k]? = some c):(curG g l k).set k (upC g c)=curG g l (k+1):=by
 obtain⟨hk,rfl⟩:=List.getElem?_eq_some_iff.1 h
 unfold curG
 rw[List.set_append_right _ _ (by simp;omega),List.take_succ_eq_append_getElem hk,List.map_append]
 simp only[Lm,List.length_take,Lc,Lo,List.append_assoc,List.singleton_append]
 rw[show k-min k l.length=0 by omega,List.drop_eq_getElem_cons hk,List.set_cons_zero]
theorem cur_rows {g:Bool}{l:List UInt8}{k:Nat}{c:UInt8}(h:l[k]? = some c):((curG g l k).map byteRow).set k (byteRow (upC g c))=(curG g l (k+1)).map byteRow:=by
 rw[← cur_next h,List.map_set]
theorem cur_same {g:Bool}{l:List UInt8}{k:Nat}{c:UInt8}(h:l[k]? = some c)(hu:upC g c=c):curG g l k=curG g l (k+1):=by
 rw[← cur_next h,hu]
 obtain⟨hk,e⟩:=List.getElem?_eq_some_iff.1 (cur_at (g:=g) h)
 have:=List.set_getElem_self hk
 rw[e]at this;exact this.symm
theorem cur_all (g:Bool)(l:List UInt8):curG g l l.length=l.map (upC g):=by
 unfold curG;simp
theorem upC_up {g:Bool}{c:UInt8}(hg:g=true)(h:97≤c.toNat):IntKind.u8.wrap ((c.toNat:Int)-32)=((upC g c).toNat:Int):=by
 have:∀ x:Fin 256,97≤x.val→IntKind.u8.wrap ((x.val:Int)-32)=((UInt8.ofNat (x.val-32)).toNat:Int):=by decide +kernel
 unfold upC
 rw[if_pos ⟨hg,h⟩]
 exact this ⟨c.toNat,c.toNat_lt⟩ h
theorem nat_byte (m:Nat):IntKind.u8.wrap (m:Int)=((UInt8.ofNat m).toNat:Int):=by
 unfold IntKind.wrap
 simp only[IntKind.bits,IntKind.signed,UInt8.toNat_ofNat']
 simp
theorem shr_byte (m k:Nat):IntKind.u8.wrap ((m:Int).fdiv (2 ^ k))=((UInt8.ofNat (m / 2 ^ k)).toNat:Int):=by
 have e0:(2:Int) ^ k=((2 ^ k:Nat):Int):=by simp
 rw[e0,Int.fdiv_eq_ediv_of_nonneg _ (Int.natCast_nonneg _),← Int.natCast_ediv]
 exact nat_byte _
set_option maxRecDepth 100000 in
set_option maxHeartbeats 16000000 in
theorem escPoints_main (n:Int)(g:Bool)(nm:Nat):Ev cx 3 nm [.int .i64 n,.bool g] Mem.nil (.bool true) []:=by
  by_cases hw:0≤n∧n≤9007199254740991
  · obtain ⟨m,rfl⟩:∃ m:Nat,n=(m:Int):=⟨n.toNat,by omega⟩
    have hnw:=numWrite_ev m (by omega)
    by_cases h1:(m:Int)<1
    · have d1:decide ((m:Int)<1)=true:=decide_eq_true h1
      refine ev_go rfl (fun cargs w=>call3 cargs w) func3 rfl mixed (by kernel_rfl) rfl ?_;intro b0 hb0
      (repeat' first|simp only[fins,mems,results3,ntmps3,wks,d1,vcs,seval,tys]|exact rfl|refine call_off (v:=.any) ?_|(first|(refine call_fn ?_ (alive_ev _) ?_)|(refine call_fn_g ?_ (fun _=>alive_ev _) ?_)|(refine call_fn ?_ (hnw _) ?_)|(refine call_fn_g ?_ (fun _=>hnw _) ?_))|refine draw_end (by decide +kernel) ?_|((first|apply Ca|apply Cb)<;>intro hb)|refine Ai (by omega) ?_|(apply Ai<;>intro hb)|refine Fin.pure ?_ ?_ ?_|simp only[injs])
    by_cases h2:16777216≤(m:Int)
    · have d1:decide ((m:Int)<1)=false:=decide_eq_false h1
      have d2:decide (16777216≤(m:Int))=true:=decide_eq_true h2
      refine ev_go rfl (fun cargs w=>call3 cargs w) func3 rfl mixed (by kernel_rfl) rfl ?_;intro b0 hb0
      (repeat' first|simp only[fins,mems,results3,ntmps3,wks,d1,d2,vcs,seval,tys]|exact rfl|refine call_off (v:=.any) ?_|(first|(refine call_fn ?_ (alive_ev _) ?_)|(refine call_fn_g ?_ (fun _=>alive_ev _) ?_)|(refine call_fn ?_ (hnw _) ?_)|(refine call_fn_g ?_ (fun _=>hnw _) ?_))|refine draw_end (by decide +kernel) ?_|((first|apply Ca|apply Cb)<;>intro hb)|refine Ai (by omega) ?_|(apply Ai<;>intro hb)|refine Fin.pure ?_ ?_ ?_|simp only[injs])
    have d1:decide ((m:Int)<1)=false:=decide_eq_false h1
    have d2:decide (16777216≤(m:Int))=false:=decide_eq_false h2
    have e1:IntKind.u8.wrap ((m:Int).fdiv (2 ^ min 16 IntKind.i64.bits))=((UInt8.ofNat (m / 65536)).toNat:Int):=shr_byte m 16
    have e2:IntKind.u8.wrap ((m:Int).fdiv (2 ^ min 8 IntKind.i64.bits))=((UInt8.ofNat (m / 256)).toNat:Int):=shr_byte m 8
    have e3:IntKind.u8.wrap (m:Int)=((UInt8.ofNat m).toNat:Int):=nat_byte m
    have hp:=hPut_ev false (bytes3 m) (by simp[bytes3])
    simp only[bytes3,byteRow,Lc,Lo]at hp
    refine ev_go rfl (fun cargs w=>call3 cargs w) func3 rfl mixed (by kernel_rfl) rfl ?_;intro b0 hb0
    repeat' first|simp only[fins,mems,results3,ntmps3,wks,d1,d2,Bt,e1,e2,e3,vcs,seval,tys]|exact rfl|refine call_off (v:=.any) ?_|(first|(refine call_fn ?_ (alive_ev _) ?_)|(refine call_fn_g ?_ (fun _=>alive_ev _) ?_)|(refine call_fn ?_ (hnw _) ?_)|(refine call_fn_g ?_ (fun _=>hnw _) ?_))|((refine call_fn_vx (xs:=?_) [b0+512] ?_ ?_ ?_ rfl (hp _) ?_);rotate_left 1)|omega|refine draw_end (by decide +kernel) ?_|((first|apply Ca|apply Cb)<;>intro hb)|refine Ai (by omega) ?_|(apply Ai<;>intro hb)
    have hbs:[UInt8.ofNat (m / 65536),UInt8.ofNat (m / 256),UInt8.ofNat m]=bytes3 m:=rfl
    rw[hbs]
    have hlD:=hxL_len (bytes3 m)
    have hl3:(bytes3 m).length=3:=rfl
    (refine loop_can2 cxG (fun x:List UInt8=>x.length) (fun x=>noZ x=noZ (hxL (bytes3 m))∧x.length≤6) (b0+16) (fun x=>[(0,.int .i64 m),(1,.bool g),(5,.bool true),(6,.str (digitsL m)),(8,.str x)]) (fun x=>[]) (hxL (bytes3 m)) [] ?_ ?_ ?_ ?_;rotate_left 1;(focus (show b0≤_;omega));(focus (refine⟨?_,?_⟩<;>(try simp only[cans,Int.ofNat_zero,vcs,seval,tys,injs])<;>(try omega)));rotate_left 1)
    · exact⟨rfl,by omega⟩
    · rintro x ⟨i1,i2⟩
      by_cases hz:∃ r,x=48::r
      · obtain⟨r,rfl⟩:=hz
        have hne:((48::r:List UInt8)==[])=false:=rfl
        have h48:(((48:UInt8).toNat:Int)==48)=true:=rfl
        repeat' first|simp only[fins,mems,results3,ntmps3,wks,hne,h48,Bf,vcs,seval,tys]|exact rfl|refine call_off (v:=.any) ?_|refine draw_end (by decide +kernel) ?_|((first|apply Ca|apply Cb)<;>intro hb)|refine Ai (by omega) ?_|(apply Ai<;>intro hb)
        all_goals ((refine again_can2 cxG (r) [] ?_ ?_ ?_ ?_;rotate_left 2;(focus (show b0≤_;omega));(focus (refine⟨?_,?_⟩<;>(try simp only[cans,Int.ofNat_zero,vcs,seval,tys,injs])<;>(try omega)))))
        all_goals (first|(show r.length<r.length+1;omega)|(exact⟨by rw[← i1];rfl,by simp only[List.length_cons]at i2;omega⟩)|skip)
      · have hxn:noZ x=x:=by
          cases x with
          | nil=>rfl
          | cons c r=>unfold noZ;rw[if_neg (fun e=>hz ⟨r,by rw[e]⟩)]
        rw[hxn]at i1
        have hex:hexT g m=x.map (upC g):=by unfold hexT;rw[← i1]
        have hxl:=i2
        have hxe:x≠[]:=by
          rintro rfl
          have:=hexT_read g (n:=m) (by omega) (by omega)
          rw[hex]at this
          cases this
        obtain⟨c,hc⟩:∃ c,x[0]? = some c:=⟨_,List.getElem?_eq_getElem (by have:=List.length_pos_iff.2 hxe;omega)⟩
        have hx0:=List.length_pos_iff.2 hxe
        have hx1:decide (0<x.length)=true:=decide_eq_true hx0
        have hne:(x==[])=false:=by rw[beq_eq_false_iff_ne];exact hxe
        have h48:((c.toNat:Int)==48)=false:=(beq_byte c 48).trans (decide_eq_false (fun e=>hz (by
          cases x with
          | nil=>cases hc
          | cons d r=>cases hc;exact⟨r,by rw[e]⟩)))
        have hc0:curG g x 0=x:=rfl
        repeat' first|simp only[fins,mems,results3,ntmps3,wks,hne,hc,hx0,hx1,h48,Bf,vcs,seval,tys]|exact rfl|refine call_off (v:=.any) ?_|(refine ext_toBytesO (bs:=?_) (el:=?_) ?_ ?_ ?_ ?_ ?_;rotate_left 2;(focus (simp only[results3,ntmps3,wks,hne,hc,hx0,hx1,h48,Bf,vcs,seval,tys];done));(focus (simp only[results3,ntmps3,wks,hne,hc,hx0,hx1,h48,Bf,vcs,seval,tys]<;>exact rfl));(focus (simp only[results3,ntmps3,wks,hne,hc,hx0,hx1,h48,Bf,vcs,seval,tys];done));(focus (simp only[results3,ntmps3,wks,hne,hc,hx0,hx1,h48,Bf,vcs,seval,tys]<;>exact rfl)))|(refine extG_true ?_)|(refine extG_false ?_)|refine draw_end (by decide +kernel) ?_|((first|apply Ca|apply Cb)<;>intro hb)|refine Ai (by omega) ?_|(apply Ai<;>intro hb)
        (refine loop_can2 cxG (fun k:Nat=>x.length-k) (fun k=>k≤x.length) (b0+16) (fun k=>[(0,.int .i64 m),(1,.bool g),(5,.bool true),(6,.str (digitsL m)),(9,.own b0 0 x.length),(10,.int .i64 k)]) (fun k=>[(b0,⟨1,(curG g x k).map byteRow⟩)]) (0) [some (b0+144)] ?_ ?_ ?_ ?_;rotate_left 1;(focus (show b0≤_;omega));(focus (refine⟨?_,?_⟩<;>(try simp only[cans,hc0,ren_bytes,renOk_bytes,leBlk_weak,leLL_same,Int.ofNat_zero,vcs,seval,tys,injs])<;>(try omega)));rotate_left 1)
        · exact Nat.zero_le _
        · intro k hk
          by_cases hlt:k<x.length
          · obtain⟨d,hd⟩:∃ d,x[k]? = some d:=⟨_,List.getElem?_eq_getElem hlt⟩
            have hcl:=cur_len g x k
            have hat:((curG g x k).map byteRow)[k]? = some (byteRow d):=by rw[List.getElem?_map,cur_at hd];rfl
            have q1:decide ((k:Int)<(x.length:Int))=true:=decide_eq_true (by omega)
            have q2:decide (k<x.length)=true:=decide_eq_true hlt
            have hwk:IntKind.i64.wrap ((k:Int)+1)=((k+1:Nat):Int):=wrap_in (by omega) (by omega)
            by_cases hup:g=true∧97≤d.toNat
            · obtain⟨rfl,h97⟩:=hup
              have q3:decide ((97:Int)≤(d.toNat:Int))=true:=decide_eq_true (by omega)
              have hw2:=upC_up (g:=true) rfl h97
              have hrw:=cur_rows (g:=true) hd
              simp only[byteRow]at hrw
              repeat' first|simp only[fins,mems,results3,ntmps3,wks,hat,hcl,q1,q2,q3,hwk,hlt,hw2,byteRow,Lm,vcs,seval,tys]|exact rfl|refine call_off (v:=.any) ?_|refine draw_end (by decide +kernel) ?_|((first|apply Ca|apply Cb)<;>intro hb)|refine Ai (by omega) ?_|(apply Ai<;>intro hb)
              all_goals ((refine again_can2 cxG (k+1) [some b0] ?_ ?_ ?_ ?_;rotate_left 2;(focus (show b0≤_;omega));(focus (refine⟨?_,?_⟩<;>(try simp only[cans,hrw,hwk,ren_pl,renOk_pl,plain_bs,byteRow,Lm,vcs,seval,tys,injs])<;>(try omega)))))
              all_goals (first|(show x.length-(k+1)<x.length-k;omega)|(show k+1≤x.length;omega)|skip)
            · have hsm:=cur_same (g:=g) hd (by unfold upC;rw[if_neg hup])
              cases hg:g with
              | false =>
                subst hg
                repeat' first|simp only[fins,mems,results3,ntmps3,wks,hat,hcl,q1,q2,hwk,hlt,byteRow,Lm,vcs,seval,tys]|exact rfl|refine call_off (v:=.any) ?_|refine draw_end (by decide +kernel) ?_|((first|apply Ca|apply Cb)<;>intro hb)|refine Ai (by omega) ?_|(apply Ai<;>intro hb)
                all_goals ((refine again_can2 cxG (k+1) [some b0] ?_ ?_ ?_ ?_;rotate_left 2;(focus (show b0≤_;omega));(focus (refine⟨?_,?_⟩<;>(try simp only[cans,hsm,hwk,ren_pl,renOk_pl,plain_bs,byteRow,Lm,vcs,seval,tys,injs])<;>(try omega)))))
                all_goals (first|(show x.length-(k+1)<x.length-k;omega)|(show k+1≤x.length;omega)|skip)
              | true =>
                subst hg
                have q3:decide ((97:Int)≤(d.toNat:Int))=false:=decide_eq_false (fun h=>hup ⟨rfl,by omega⟩)
                repeat' first|simp only[fins,mems,results3,ntmps3,wks,hat,hcl,q1,q2,q3,hwk,hlt,byteRow,Lm,vcs,seval,tys]|exact rfl|refine call_off (v:=.any) ?_|refine draw_end (by decide +kernel) ?_|((first|apply Ca|apply Cb)<;>intro hb)|refine Ai (by omega) ?_|(apply Ai<;>intro hb)
                all_goals ((refine again_can2 cxG (k+1) [some b0] ?_ ?_ ?_ ?_;rotate_left 2;(focus (show b0≤_;omega));(focus (refine⟨?_,?_⟩<;>(try simp only[cans,hsm,hwk,ren_pl,renOk_pl,plain_bs,byteRow,Lm,vcs,seval,tys,injs])<;>(try omega)))))
                all_goals (first|(show x.length-(k+1)<x.length-k;omega)|(show k+1≤x.length;omega)|skip)
          · have hke:k=x.length:=by omega
            subst hke
            have hall:=cur_all g x
            rw[← hex]at hall
            have hxy:x.length=(hexT g m).length:=by rw[hex,Lm]
            simp only[hall]
            simp only[hxy]
            have q1:decide (((hexT g m).length:Int)<((hexT g m).length:Int))=false:=decide_eq_false (by omega)
            have q2:decide ((hexT g m).length<(hexT g m).length)=false:=decide_eq_false (by omega)
            have hlt3:(hexT g m).length≤lim:=by unfold lim;omega
            obtain⟨a1,a2,a3⟩:=dig_all (n:=m) (by omega)
            obtain⟨b1,b2,b3⟩:=hex_all g (n:=m) (by omega)
            have ht1:[38,35]++digitsL m++[59]=refT (35::digitsL m):=rfl
            have ht2:[38,35,120]++hexT g m++[59]=refT (35::120::hexT g m):=rfl
            have l1:=a2
            have l2:=b2
            simp only[List.length_cons]at l1 l2
            have hr1:(refT (35::digitsL m)).length≤lim:=by unfold refT lim;simp;omega
            have hr2:(refT (35::120::hexT g m)).length≤lim:=by unfold refT lim;simp;omega
            have hof:=of_ev [(m:Int)] (by simp)
            simp only[Lc,Lo,intRow]at hof
            have l3:([38,35]++digitsL m).length≤lim:=by unfold lim;simp;omega
            have l4:([38,35,120]++hexT g m).length≤lim:=by unfold lim;simp;omega
            by_cases hm:may (m:Int)=true
            · obtain⟨o1,o2⟩:=of_one hm
              rw[o1,o2]at hof
              have s1:=fun nm=>reads_ev (refT (35::digitsL m)) (encodeRune m) hr1 nm
              rw[refT_yes a1 a2 a3 (meant_dig (by omega) (by omega)) hm]at s1
              have s2:=fun nm=>reads_ev (refT (35::120::hexT g m)) (encodeRune m) hr2 nm
              rw[refT_yes b1 b2 b3 (meant_hexT g (by omega) (by omega)) hm]at s2
              (repeat' first|simp only[fins,mems,results3,ntmps3,wks,q1,q2,ht1,ht2,l3,l4,hr1,hr2,Lm,plain_bs,Bool.and_self,vcs,seval,tys]|exact rfl|refine call_off (v:=.any) ?_|((first|(refine call_fn ?_ (s1 _) ?_)|(refine call_fn_g ?_ (fun _=>s1 _) ?_));(focus (simp only[results3,ntmps3,wks,q1,q2,ht1,ht2,l3,l4,hr1,hr2,Lm,plain_bs,Bool.and_self,vcs,seval,tys]<;>exact rfl)))|((first|(refine call_fn ?_ (s2 _) ?_)|(refine call_fn_g ?_ (fun _=>s2 _) ?_));(focus (simp only[results3,ntmps3,wks,q1,q2,ht1,ht2,l3,l4,hr1,hr2,Lm,plain_bs,Bool.and_self,vcs,seval,tys]<;>exact rfl)))|((refine call_fn_vx (xs:=?_) [b0+240] ?_ ?_ ?_ rfl (hof _) ?_);rotate_left 1)|(refine ext_toStr (v:=?_) (bs:=?_) ?_ ?_ ?_ ?_ ?_ ?_ ?_;rotate_left 2;(iterate 2 (focus (simp only[results3,ntmps3,wks,q1,q2,ht1,ht2,l3,l4,hr1,hr2,Lm,plain_bs,Bool.and_self,vcs,seval,tys];done)));(focus (simp only[results3,ntmps3,wks,q1,q2,ht1,ht2,l3,l4,hr1,hr2,Lm,plain_bs,Bool.and_self,vcs,seval,tys]<;>exact rfl));(focus (exact rfl));(focus (simp only[mems,results3,ntmps3,wks,q1,q2,ht1,ht2,l3,l4,hr1,hr2,Lm,plain_bs,Bool.and_self,vcs,seval,tys];done));(focus (simp only[results3,ntmps3,wks,q1,q2,ht1,ht2,l3,l4,hr1,hr2,Lm,plain_bs,Bool.and_self,vcs,seval,tys]<;>exact rfl)))|(refine extG_true ?_)|(refine extG_false ?_)|omega|refine draw_end (by decide +kernel) ?_|((first|apply Ca|apply Cb)<;>intro hb)|refine Ai (by omega) ?_|(apply Ai<;>intro hb)|refine Fin.pure ?_ ?_ ?_|simp only[injs])
            · simp only[Bool.not_eq_true]at hm
              have o1:ofErr [(m:Int)]=50:=ofErr_bad (k:=0) (by simp) (by simpa using hm)
              have o2:ofText [(m:Int)]=[]:=by unfold ofText;rw[o1];rfl
              rw[o1,o2]at hof
              have hmy:=fun nm=>tMay_ev (m:Int) nm
              rw[hm]at hmy
              have s1:=fun nm=>odd_ev (refT (35::digitsL m)) hr1 nm
              rw[refT_no a1 a2 a3 (meant_dig (by omega) (by omega)) hm]at s1
              have s2:=fun nm=>odd_ev (refT (35::120::hexT g m)) hr2 nm
              rw[refT_no b1 b2 b3 (meant_hexT g (by omega) (by omega)) hm]at s2
              (repeat' first|simp only[fins,mems,results3,ntmps3,wks,q1,q2,ht1,ht2,l3,l4,hr1,hr2,Lm,plain_bs,Bool.and_self,Bf,vcs,seval,tys]|exact rfl|refine call_off (v:=.any) ?_|((first|(refine call_fn ?_ (s1 _) ?_)|(refine call_fn_g ?_ (fun _=>s1 _) ?_));(focus (simp only[results3,ntmps3,wks,q1,q2,ht1,ht2,l3,l4,hr1,hr2,Lm,plain_bs,Bool.and_self,Bf,vcs,seval,tys]<;>exact rfl)))|((first|(refine call_fn ?_ (s2 _) ?_)|(refine call_fn_g ?_ (fun _=>s2 _) ?_));(focus (simp only[results3,ntmps3,wks,q1,q2,ht1,ht2,l3,l4,hr1,hr2,Lm,plain_bs,Bool.and_self,Bf,vcs,seval,tys]<;>exact rfl)))|(first|(refine call_fn ?_ (hmy _) ?_)|(refine call_fn_g ?_ (fun _=>hmy _) ?_))|((refine call_fn_vx (xs:=?_) [b0+240] ?_ ?_ ?_ rfl (hof _) ?_);rotate_left 1)|(refine ext_toStr (v:=?_) (bs:=?_) ?_ ?_ ?_ ?_ ?_ ?_ ?_;rotate_left 2;(iterate 2 (focus (simp only[results3,ntmps3,wks,q1,q2,ht1,ht2,l3,l4,hr1,hr2,Lm,plain_bs,Bool.and_self,Bf,vcs,seval,tys];done)));(focus (simp only[results3,ntmps3,wks,q1,q2,ht1,ht2,l3,l4,hr1,hr2,Lm,plain_bs,Bool.and_self,Bf,vcs,seval,tys]<;>exact rfl));(focus (exact rfl));(focus (simp only[mems,results3,ntmps3,wks,q1,q2,ht1,ht2,l3,l4,hr1,hr2,Lm,plain_bs,Bool.and_self,Bf,vcs,seval,tys];done));(focus (simp only[results3,ntmps3,wks,q1,q2,ht1,ht2,l3,l4,hr1,hr2,Lm,plain_bs,Bool.and_self,Bf,vcs,seval,tys]<;>exact rfl)))|(refine extG_true ?_)|(refine extG_false ?_)|omega|refine draw_end (by decide +kernel) ?_|((first|apply Ca|apply Cb)<;>intro hb)|refine Ai (by omega) ?_|(apply Ai<;>intro hb)|refine Fin.pure ?_ ?_ ?_|simp only[injs])
  · refine ev_go rfl (fun cargs w=>call3 cargs w) func3 rfl mixed (by kernel_rfl) rfl ?_;intro b0 hb0
    (repeat' first|simp only[fins,mems,results3,ntmps3,wks,Bt,vcs,seval,tys]|exact rfl|refine call_off (v:=.any) ?_|(first|(refine call_fn ?_ (alive_ev _) ?_)|(refine call_fn_g ?_ (fun _=>alive_ev _) ?_)|(refine call_fn ?_ (numWrite_no n hw _) ?_)|(refine call_fn_g ?_ (fun _=>numWrite_no n hw _) ?_))|refine draw_end (by decide +kernel) ?_|((first|apply Ca|apply Cb)<;>intro hb)|refine Ai (by omega) ?_|(apply Ai<;>intro hb)|refine Fin.pure ?_ ?_ ?_|simp only[injs])
theorem escPoints_args (xs:List V)(h:ShapeArgs cx.P Tryd.f3.params.toList xs):Ev cx 3 0 xs Mem.nil (.bool true) []:=by
 rw[Tryd.params3]at h
 obtain⟨_,v1,_,rfl,h1,_,v2,_,rfl,h2,h3⟩:=h
 obtain rfl:=args_nil h3
 obtain⟨s,rfl,hs⟩:=shape_int kind_3 h1
 obtain⟨q,rfl⟩:=shape_bool kind_4 h2
 rw[argV_one kind_3 (by simp),argV_one kind_4 (by simp)]
 exact escPoints_main s q 0
end Go.Proofs.YtnnbggkpgacdiaaDoor
