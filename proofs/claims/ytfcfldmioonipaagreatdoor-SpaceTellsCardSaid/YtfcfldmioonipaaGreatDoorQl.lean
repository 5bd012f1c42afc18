/-
 Texts joined: XSi,XTb,XJa,XTc,XCe,XOa,XSj,XSk,XOb,XJb.
-/
import Derived.Test.YtfcfldmioonipaaGreatDoorQk
import Derived.Test.YtfcfldmioonipaaGreatDoorQg
import Derived.Test.YtfcfldmioonipaaGreatDoorQf
import Derived.Test.YtfcfldmioonipaaGreatDoorQh
import Derived.Test.YtfcfldmioonipaaGreatDoorQe
import Derived.Test.YtfcfldmioonipaaGreatDoorQi
namespace Go.Proofs.YtfcfldmioonipaaGreatDoor
set_option maxRecDepth 100000
set_option maxHeartbeats 32000000
set_option linter.unusedSimpArgs false
set_option linter.unusedVariables false
open Go Go.RowKit Vm Go.Lib Tryz
open Vm renaming cond_bool→Ca,cond_bit→Cb
open And renaming intro→Ai
open List renaming length_map→Lm,not_mem_nil→Ln,map_nil→Lo,map_cons→Lc,mem_cons→Lk
open Bool renaming not_false→Bf,not_true→Bt
def checkB (v:List Nd):Int:=if (behindO v).isNone=true then 8 else 0
theorem ends_ok {v:List Nd}{en:List Nat}(h:behindO v=some en):en.length=v.length∧0<v.length∧v.length≤512 ∧ ∀ i e,en[i]? = some e→i<e∧e≤v.length:=by
 obtain⟨n,k,h1,h2,h3,h4,h5⟩:=behind_iff.1 h
 have hl:v.length=k.size+1:=by rw[h2];simp[Fo.flat_length]
 have he:en=(Fo.cons n k .nil).ends 0:=by rw[h5];simp[Fo.ends]
 refine⟨by rw[h5];simp[Fo.ends_length,hl],by omega,h4,fun i e hi=>?_⟩
 rw[he]at hi
 have:=ends_up _ _ _ _ hi
 simp only[Fo.size]at this
 omega
theorem checkT_ev (v:List Nd)(hv:v.length≤lim)(hok:∀ n∈v,n.okTo lim∧n.i64)(nm:Nat):Ev cx 14 nm [.sl false 6 (v.map ndC)] Mem.nil (.int .i64 (checkB v)) []:=by
 unfold checkB
 cases h:behindO v with
 | none =>
  have hb:=behind_none_ev v hv hok h
  refine ev_go rfl (fun cargs w=>call14 cargs w) func14 rfl mixed (by kernel_rfl) rfl ?_;intro b0 hb0
  (repeat' first|simp only[fins,mems,results14,ntmps14,wks,Option.isNone_none,if_true,plain_nd,vcs,seval,tys]|exact rfl|refine call_off (v:=.any) ?_|(first|(refine call_fn ?_ (hb _) ?_)|(refine call_fn_g ?_ (fun _=>hb _) ?_))|((first|apply Ca|apply Cb)<;>intro hb)|refine Ai (by omega) ?_|(apply Ai<;>intro hb)|refine Fin.pure ?_ ?_ ?_|simp only[injs])
 | some en =>
  have hb:=behind_some_ev v hv hok h
  have h0:decide (v.length=0)=false:=decide_eq_false (by have:=(ends_ok h).2.1;omega)
  refine ev_go rfl (fun cargs w=>call14 cargs w) func14 rfl mixed (by kernel_rfl) rfl ?_;intro b0 hb0
  repeat' first|simp only[fins,mems,results14,ntmps14,wks,Option.isNone_some,Bool.false_eq_true,if_false,plain_nd,plain_no,h0,vcs,seval,tys]|exact rfl|refine call_off (v:=.any) ?_|(refine call_fn_new ?_ (hb _) ?_ ?_)|omega|((first|apply Ca|apply Cb)<;>intro hb)|refine Ai (by omega) ?_|(apply Ai<;>intro hb)
  all_goals (first|(cases hb;done)|((refine Fin.pure ?_ ?_ ?_<;>simp only[Option.isNone_some,Bool.false_eq_true,if_false,plain_nd,results14,ntmps14,vcs,seval,tys])))
def badAt (a:At):Bool:=(!nameL a.name||((a.space==[])&&(a.name==[120,109,108,110,115])))||(a.space==xmlnsU)
theorem chk1_ev (a:At)(h1:a.name.length≤lim)(nm:Nat):Ev cx 34 nm [.agg (atC a)] Mem.nil (.bool (badAt a)) []:=by
 have hn:=name_ev a.name h1
 unfold badAt xmlnsU
 cases h:nameL a.name with
 | true =>
  rw[h]at hn
  cases h2:(a.space==[]) with
  | true =>
   refine ev_go rfl (fun cargs w=>call34 cargs w) func34 rfl mixed (by kernel_rfl) rfl ?_;intro b0 hb0
   (repeat' first|simp only[fins,mems,results34,ntmps34,wks,atC,h2,Bt,Bool.false_or,Bool.true_and,vcs,seval,tys]|exact rfl|refine call_off (v:=.any) ?_|(first|(refine call_fn ?_ (hn _) ?_)|(refine call_fn_g ?_ (fun _=>hn _) ?_))|((first|apply Ca|apply Cb)<;>intro hb)|refine Ai (by omega) ?_|(apply Ai<;>intro hb)|refine Fin.pure ?_ ?_ ?_|simp only[injs])
  | false =>
   refine ev_go rfl (fun cargs w=>call34 cargs w) func34 rfl mixed (by kernel_rfl) rfl ?_;intro b0 hb0
   (repeat' first|simp only[fins,mems,results34,ntmps34,wks,atC,h2,Bt,Bool.false_or,Bool.false_and,vcs,seval,tys]|exact rfl|refine call_off (v:=.any) ?_|(first|(refine call_fn ?_ (hn _) ?_)|(refine call_fn_g ?_ (fun _=>hn _) ?_))|((first|apply Ca|apply Cb)<;>intro hb)|refine Ai (by omega) ?_|(apply Ai<;>intro hb)|refine Fin.pure ?_ ?_ ?_|simp only[injs])
 | false =>
  rw[h]at hn
  refine ev_go rfl (fun cargs w=>call34 cargs w) func34 rfl mixed (by kernel_rfl) rfl ?_;intro b0 hb0
  (repeat' first|simp only[fins,mems,results34,ntmps34,wks,atC,Bf,Bool.true_or,vcs,seval,tys]|exact rfl|refine call_off (v:=.any) ?_|(first|(refine call_fn ?_ (hn _) ?_)|(refine call_fn_g ?_ (fun _=>hn _) ?_))|((first|apply Ca|apply Cb)<;>intro hb)|refine Ai (by omega) ?_|(apply Ai<;>intro hb)|refine Fin.pure ?_ ?_ ?_|simp only[injs])
def badNd (n:Nd):Bool:=((decide (n.kind=1) && !nameL n.name)||givenU n.space)||n.attrs.any badAt
def spcAt (a:At):Bool:=a.space != []
theorem spc1_ev (a:At)(nm:Nat):Ev cx 40 nm [.agg (atC a)] Mem.nil (.bool (spcAt a)) []:=by
 unfold spcAt
 refine ev_go rfl (fun cargs w=>call40 cargs w) func40 rfl mixed (by kernel_rfl) rfl ?_;intro b0 hb0
 (repeat' first|simp only[fins,mems,results40,ntmps40,wks,atC,vcs,seval,tys]|exact rfl|refine call_off (v:=.any) ?_|((first|apply Ca|apply Cb)<;>intro hb)|refine Ai (by omega) ?_|(apply Ai<;>intro hb)|refine Fin.pure ?_ ?_ ?_|simp only[injs])
def spcNd (n:Nd):Bool:=(!(n.space==[]))||n.attrs.any spcAt
theorem spaced_ev (n:Nd)(hn:n.attrs.length≤lim)(nm:Nat):Ev cx 16 nm [.agg (ndC n)] Mem.nil (.bool (spcNd n)) []:=by
 have hc:=containsat_ev n.attrs 40 [] spcAt (fun a _ nm=>spc1_ev a nm) hn rfl
 unfold spcNd
 cases h:(n.space==[]) with
 | false =>
  refine ev_go rfl (fun cargs w=>call16 cargs w) func16 rfl mixed (by kernel_rfl) rfl ?_;intro b0 hb0
  (repeat' first|simp only[fins,mems,results16,ntmps16,wks,ndC,h,plain_at,Bf,Bt,Bool.true_or,vcs,seval,tys]|exact rfl|refine call_off (v:=.any) ?_|((first|apply Ca|apply Cb)<;>intro hb)|refine Ai (by omega) ?_|(apply Ai<;>intro hb)|refine Fin.pure ?_ ?_ ?_|simp only[injs])
 | true =>
  refine ev_go rfl (fun cargs w=>call16 cargs w) func16 rfl mixed (by kernel_rfl) rfl ?_;intro b0 hb0
  (repeat' first|simp only[fins,mems,results16,ntmps16,wks,ndC,h,plain_at,Bt,Bf,Bool.false_or,vcs,seval,tys]|exact rfl|refine call_off (v:=.any) ?_|(first|(refine call_fn ?_ (hc _) ?_)|(refine call_fn_g ?_ (fun _=>hc _) ?_))|((first|apply Ca|apply Cb)<;>intro hb)|refine Ai (by omega) ?_|(apply Ai<;>intro hb)|refine Fin.pure ?_ ?_ ?_|simp only[injs])
theorem chk2_ev (n:Nd)(hn:n.okTo lim)(nm:Nat):Ev cx 36 nm [.agg (ndC n),.rp [.fn 34 []]] Mem.nil (.bool (badNd n)) []:=by
 have hg:=given_ev n.space
 have hm:=name_ev n.name hn.2.2.1
 have hc:=containsat_ev n.attrs 34 [] badAt (fun a ha nm=>chk1_ev a (hn.2.2.2.2 a ha).2.1 nm) hn.1 rfl
 unfold badNd
 by_cases hk:n.kind=1
 ·have q:((n.kind:Int)==1)=true:=by rw[hk];rfl
  rw[decide_eq_true hk]
  cases h1:nameL n.name with
  | false =>
   rw[h1]at hm
   refine ev_go rfl (fun cargs w=>call36 cargs w) func36 rfl mixed (by kernel_rfl) rfl ?_;intro b0 hb0
   (repeat' first|simp only[fins,mems,results36,ntmps36,wks,ndC,q,plain_at,Bt,Bf,Bool.true_or,Bool.true_and,vcs,seval,tys]|exact rfl|refine call_off (v:=.any) ?_|(first|(refine call_fn ?_ (hm _) ?_)|(refine call_fn_g ?_ (fun _=>hm _) ?_))|((first|apply Ca|apply Cb)<;>intro hb)|refine Ai (by omega) ?_|(apply Ai<;>intro hb)|refine Fin.pure ?_ ?_ ?_|simp only[injs])
  | true =>
   rw[h1]at hm
   cases h2:givenU n.space with
   | true =>
    rw[h2]at hg
    refine ev_go rfl (fun cargs w=>call36 cargs w) func36 rfl mixed (by kernel_rfl) rfl ?_;intro b0 hb0
    (repeat' first|simp only[fins,mems,results36,ntmps36,wks,ndC,q,plain_at,Bt,Bf,Bool.true_or,Bool.or_true,Bool.and_false,Bool.true_and,vcs,seval,tys]|exact rfl|refine call_off (v:=.any) ?_|(first|(refine call_fn ?_ (hm _) ?_)|(refine call_fn_g ?_ (fun _=>hm _) ?_)|(refine call_fn ?_ (hg _) ?_)|(refine call_fn_g ?_ (fun _=>hg _) ?_))|((first|apply Ca|apply Cb)<;>intro hb)|refine Ai (by omega) ?_|(apply Ai<;>intro hb)|refine Fin.pure ?_ ?_ ?_|simp only[injs])
   | false =>
    rw[h2]at hg
    refine ev_go rfl (fun cargs w=>call36 cargs w) func36 rfl mixed (by kernel_rfl) rfl ?_;intro b0 hb0
    (repeat' first|simp only[fins,mems,results36,ntmps36,wks,ndC,q,plain_at,Bt,Bf,Bool.false_or,Bool.and_false,Bool.true_and,vcs,seval,tys]|exact rfl|refine call_off (v:=.any) ?_|(first|(refine call_fn ?_ (hm _) ?_)|(refine call_fn_g ?_ (fun _=>hm _) ?_)|(refine call_fn ?_ (hg _) ?_)|(refine call_fn_g ?_ (fun _=>hg _) ?_)|(refine call_fn ?_ (hc _) ?_)|(refine call_fn_g ?_ (fun _=>hc _) ?_))|((first|apply Ca|apply Cb)<;>intro hb)|refine Ai (by omega) ?_|(apply Ai<;>intro hb)|refine Fin.pure ?_ ?_ ?_|simp only[injs])
 ·have q:((n.kind:Int)==1)=false:=beq_false_of_ne (by omega)
  rw[decide_eq_false hk]
  cases h2:givenU n.space with
  | true =>
   rw[h2]at hg
   refine ev_go rfl (fun cargs w=>call36 cargs w) func36 rfl mixed (by kernel_rfl) rfl ?_;intro b0 hb0
   (repeat' first|simp only[fins,mems,results36,ntmps36,wks,ndC,q,plain_at,Bool.false_and,Bool.false_or,Bool.true_or,vcs,seval,tys]|exact rfl|refine call_off (v:=.any) ?_|(first|(refine call_fn ?_ (hg _) ?_)|(refine call_fn_g ?_ (fun _=>hg _) ?_))|((first|apply Ca|apply Cb)<;>intro hb)|refine Ai (by omega) ?_|(apply Ai<;>intro hb)|refine Fin.pure ?_ ?_ ?_|simp only[injs])
  | false =>
   rw[h2]at hg
   refine ev_go rfl (fun cargs w=>call36 cargs w) func36 rfl mixed (by kernel_rfl) rfl ?_;intro b0 hb0
   (repeat' first|simp only[fins,mems,results36,ntmps36,wks,ndC,q,plain_at,Bool.false_and,Bool.false_or,vcs,seval,tys]|exact rfl|refine call_off (v:=.any) ?_|(first|(refine call_fn ?_ (hg _) ?_)|(refine call_fn_g ?_ (fun _=>hg _) ?_)|(refine call_fn ?_ (hc _) ?_)|(refine call_fn_g ?_ (fun _=>hc _) ?_))|((first|apply Ca|apply Cb)<;>intro hb)|refine Ai (by omega) ?_|(apply Ai<;>intro hb)|refine Fin.pure ?_ ?_ ?_|simp only[injs])
def checkU (v:List Nd):Int:=if (v.any badNd)=true then 8 else checkB v
theorem checkU_ev (v:List Nd)(hv:v.length≤lim)(hok:∀ n∈v,n.okTo lim∧n.i64)(nm:Nat):Ev cx 11 nm [.sl false 6 (v.map ndC)] Mem.nil (.int .i64 (checkU v)) []:=by
 have hc:=containsnd_ev v 36 [.rp [.fn 34 []]] badNd (fun n hn nm=>chk2_ev n (hok n hn).1 nm) hv rfl
 have hk:=checkT_ev v hv hok
 unfold checkU
 cases h:v.any badNd with
 | true =>
  rw[h]at hc
  refine ev_go rfl (fun cargs w=>call11 cargs w) func11 rfl mixed (by kernel_rfl) rfl ?_;intro b0 hb0
  (repeat' first|simp only[fins,mems,results11,ntmps11,wks,plain_nd,vcs,seval,tys]|exact rfl|refine call_off (v:=.any) ?_|(first|(refine call_fn ?_ (hk _) ?_)|(refine call_fn_g ?_ (fun _=>hk _) ?_))|((refine call_fn_vx (xs:=?_) [b0+16] ?_ ?_ ?_ rfl (hc _) ?_);rotate_left 1)|omega|((first|apply Ca|apply Cb)<;>intro hb)|refine Ai (by omega) ?_|(apply Ai<;>intro hb)|refine Fin.pure ?_ ?_ ?_|simp only[injs])
 | false =>
  rw[h]at hc
  rw[if_neg (by decide)]
  refine ev_go rfl (fun cargs w=>call11 cargs w) func11 rfl mixed (by kernel_rfl) rfl ?_;intro b0 hb0
  (repeat' first|simp only[fins,mems,results11,ntmps11,wks,plain_nd,vcs,seval,tys]|exact rfl|refine call_off (v:=.any) ?_|(first|(refine call_fn ?_ (hk _) ?_)|(refine call_fn_g ?_ (fun _=>hk _) ?_))|((refine call_fn_vx (xs:=?_) [b0+16] ?_ ?_ ?_ rfl (hc _) ?_);rotate_left 1)|omega|((first|apply Ca|apply Cb)<;>intro hb)|refine Ai (by omega) ?_|(apply Ai<;>intro hb)|refine Fin.pure ?_ ?_ ?_|simp only[injs])
theorem rMayA_ev (l:List At)(hl:l.length≤lim)(hs:∀ a∈l,a.space.length≤lim∧a.name.length≤lim∧a.value.length≤lim)(nm:Nat):Ev cx 80 nm [.sl false 3 (l.map atC)] Mem.nil (.bool (atsL l)) []:=by
  have hl':=hl
  unfold lim at hl'
  refine ev_go rfl (fun cargs w=>call80 cargs w) func80 rfl mixed (by kernel_rfl) rfl ?_;intro b0 hb0
  repeat' first|simp only[fins,mems,results80,ntmps80,wks,vcs,seval,tys]|exact rfl|refine call_off (v:=.any) ?_|refine draw_end (by decide +kernel) ?_|((first|apply Ca|apply Cb)<;>intro hb)|refine Ai (by omega) ?_|(apply Ai<;>intro hb)
  (refine loop_can2 cxG (fun x:Nat=>l.length-x) (fun x=>x≤l.length∧atsTo l x) (b0+16) (fun x=>[(0,.sl false 3 (l.map atC)),(3,.int .i64 x)]) (fun x=>[]) (0) [] ?_ ?_ ?_ ?_;rotate_left 1;(focus (show b0≤_;omega));(focus (refine⟨?_,?_⟩<;>(try simp only[cans,plain_at,vcs,seval,tys,injs])<;>(try omega)));rotate_left 1)
  · exact⟨Nat.zero_le _,fun i a hi=>by omega⟩
  · rintro k ⟨hk,hn⟩
    by_cases hlt:k<l.length
    · obtain ⟨a,ha⟩:∃ a,l[k]? = some a:=⟨_,List.getElem?_eq_getElem hlt⟩
      obtain⟨hs0,hs1,hs2⟩:=hs a (List.mem_of_getElem? ha)
      have hat:=at_at ha
      have hd:decide (k<l.length)=true:=decide_eq_true hlt
      have hd2:decide ((k:Int)<(l.length:Int))=true:=decide_eq_true (by omega)
      have hki:(k:Int)<(l.length:Int):=by omega
      have hwk:IntKind.i64.wrap ((k:Int)+1)=((k+1:Nat):Int):=wrap_in (by omega) (by omega)
      repeat' first|simp only[fins,mems,results80,ntmps80,wks,hat,hd,hd2,hlt,hki,Lm,vcs,seval,tys]|exact rfl|refine call_off (v:=.any) ?_|refine draw_end (by decide +kernel) ?_|((first|apply Ca|apply Cb)<;>intro hb)|refine Ai (by omega) ?_|(apply Ai<;>intro hb)
      (refine loop_can2 cxG (fun x:Nat=>k-x) (fun x=>x≤k ∧ ∀(i:Nat) (b:At),i<x→l[i]? = some b → ¬(a.space=b.space∧a.name=b.name)) (b0+16) (fun x=>[(0,.sl false 3 (l.map atC)),(3,.int .i64 k),(4,.int .i64 x)]) (fun x=>[]) (0) [] ?_ ?_ ?_ ?_;rotate_left 1;(focus (show b0≤_;omega));(focus (refine⟨?_,?_⟩<;>(try simp only[cans,plain_at,vcs,seval,tys,injs])<;>(try omega)));rotate_left 1)
      · exact⟨Nat.zero_le _,fun i b hi=>by omega⟩
      · rintro j ⟨hj,hno⟩
        by_cases hjk:j<k
        · obtain⟨b,hb⟩:∃ b,l[j]? = some b:=⟨_,List.getElem?_eq_getElem (by omega)⟩
          have hbt:=at_at hb
          have e1:decide (j<k)=true:=decide_eq_true hjk
          have e2:decide ((j:Int)<(k:Int))=true:=decide_eq_true (by omega)
          have e3:j<l.length:=by omega
          have e4:(j:Int)<(l.length:Int):=by omega
          have hwj:IntKind.i64.wrap ((j:Int)+1)=((j+1:Nat):Int):=wrap_in (by omega) (by omega)
          by_cases hsp:a.space=b.space
          · have c1:(b.space==a.space)=true:=by rw[hsp];simp
            by_cases hnm:a.name=b.name
            · have c2:(b.name==a.name)=true:=by rw[hnm];simp
              have hr:atsL l=false:=ats_false ha (by
                unfold okA
                have:((l.take k).any fun b=>a.space==b.space&&a.name==b.name)=true:=List.any_eq_true.2 ⟨b,List.mem_of_getElem? (by rw[List.getElem?_take,if_pos hjk];exact hb),by rw[hsp,hnm];simp⟩
                rw[this];rfl)
              (repeat' first|simp only[fins,mems,results80,ntmps80,wks,hat,hbt,atC,e1,e2,e3,e4,hlt,hki,c1,c2,hr,Lm,vcs,seval,tys]|exact rfl|refine call_off (v:=.any) ?_|refine draw_end (by decide +kernel) ?_|((first|apply Ca|apply Cb)<;>intro hb)|refine Ai (by omega) ?_|(apply Ai<;>intro hb)|refine Fin.pure ?_ ?_ ?_|simp only[injs])
            · have c2:(b.name==a.name)=false:=beq_false_of_ne (Ne.symm hnm)
              repeat' first|simp only[fins,mems,results80,ntmps80,wks,hat,hbt,atC,e1,e2,e3,e4,hlt,hki,hwj,c1,c2,Lm,vcs,seval,tys]|exact rfl|refine call_off (v:=.any) ?_|refine draw_end (by decide +kernel) ?_|((first|apply Ca|apply Cb)<;>intro hb)|refine Ai (by omega) ?_|(apply Ai<;>intro hb)
              all_goals ((refine again_can2 cxG (j+1) [] ?_ ?_ ?_ ?_;rotate_left 2;(focus (show b0≤_;omega));(focus (refine⟨?_,?_⟩<;>(try simp only[cans,plain_at,hwj,vcs,seval,tys,injs])<;>(try omega)))))
              all_goals (first|(show k-(j+1)<k-j;omega)|(exact⟨hjk,fun i x hi hx h=>by
                by_cases e:i=j
                · subst e;rw[hb]at hx;cases hx;exact hnm h.2
                · exact hno i x (by omega) hx h⟩)|skip)
          · have c1:(b.space==a.space)=false:=beq_false_of_ne (Ne.symm hsp)
            repeat' first|simp only[fins,mems,results80,ntmps80,wks,hat,hbt,atC,e1,e2,e3,e4,hlt,hki,hwj,c1,Lm,vcs,seval,tys]|exact rfl|refine call_off (v:=.any) ?_|refine draw_end (by decide +kernel) ?_|((first|apply Ca|apply Cb)<;>intro hb)|refine Ai (by omega) ?_|(apply Ai<;>intro hb)
            all_goals ((refine again_can2 cxG (j+1) [] ?_ ?_ ?_ ?_;rotate_left 2;(focus (show b0≤_;omega));(focus (refine⟨?_,?_⟩<;>(try simp only[cans,plain_at,hwj,vcs,seval,tys,injs])<;>(try omega)))))
            all_goals (first|(show k-(j+1)<k-j;omega)|(exact⟨hjk,fun i x hi hx h=>by
              by_cases e:i=j
              · subst e;rw[hb]at hx;cases hx;exact hsp h.1
              · exact hno i x (by omega) hx h⟩)|skip)
        · have hje:j=k:=by omega
          subst hje
          have e1:decide (j<j)=false:=decide_eq_false (by omega)
          have e2:decide ((j:Int)<(j:Int))=false:=decide_eq_false (by omega)
          have hany:((l.take j).any fun b=>a.space==b.space&&a.name==b.name)=false:=by
            rw[List.any_eq_false]
            intro b hb hc
            obtain⟨i,hi⟩:=List.mem_iff_getElem?.1 hb
            have hij:i<j:=by have:=(List.getElem?_eq_some_iff.1 hi).1;rw[List.length_take]at this;omega
            rw[List.getElem?_take,if_pos hij]at hi
            simp only[Bool.and_eq_true,beq_iff_eq]at hc
            exact hno i b hij hi hc
          have hf:=rFull_ev a.name hs1
          have hc:=rCheck_ev a.value hs2
          have hc2:=rCheck_ev a.space hs0
          have hok:okA (l.take j) a=((fullL a.name&&decide (ptsErr a.value=0))&&decide (ptsErr a.space=0)):=by unfold okA;rw[hany];rfl
          generalize h1:fullL a.name=b1 at hf hok
          have h3:(ptsErr a.value != 0) = !decide (ptsErr a.value=0):=by rw[Bool.eq_iff_iff];simp
          have h4:(ptsErr a.space != 0) = !decide (ptsErr a.space=0):=by rw[Bool.eq_iff_iff];simp
          generalize decide (ptsErr a.value=0)=b3 at h3 hok
          generalize decide (ptsErr a.space=0)=b4 at h4 hok
          cases ho:okA (l.take j) a with
          | false =>
            have hr:=ats_false ha ho
            rw[ho]at hok
            cases b1<;>cases b3<;>cases b4
            all_goals (try (exfalso;simp at hok;done))
            all_goals ((repeat' first|simp only[fins,mems,results80,ntmps80,wks,hat,atC,e1,e2,hlt,hki,h3,h4,hr,Bt,Bf,Lm,vcs,seval,tys]|exact rfl|refine call_off (v:=.any) ?_|((first|(refine call_fn ?_ (hc _) ?_)|(refine call_fn_g ?_ (fun _=>hc _) ?_));(focus (simp only[results80,ntmps80,wks,hat,atC,e1,e2,hlt,hki,h3,h4,hr,Bt,Bf,Lm,vcs,seval,tys]<;>exact rfl)))|((first|(refine call_fn ?_ (hc2 _) ?_)|(refine call_fn_g ?_ (fun _=>hc2 _) ?_));(focus (simp only[results80,ntmps80,wks,hat,atC,e1,e2,hlt,hki,h3,h4,hr,Bt,Bf,Lm,vcs,seval,tys]<;>exact rfl)))|(first|(refine call_fn ?_ (hf _) ?_)|(refine call_fn_g ?_ (fun _=>hf _) ?_))|(refine call_off (v:=.any) ?_)|refine draw_end (by decide +kernel) ?_|((first|apply Ca|apply Cb)<;>intro hb)|refine Ai (by omega) ?_|(apply Ai<;>intro hb)|refine Fin.pure ?_ ?_ ?_|simp only[injs]))
          | true =>
            have hn':=atsTo_succ hn ha ho
            rw[ho]at hok
            cases b1<;>cases b3<;>cases b4
            all_goals (try (exfalso;simp at hok;done))
            all_goals (repeat' first|simp only[fins,mems,results80,ntmps80,wks,hat,atC,e1,e2,hlt,hki,h3,h4,hwk,Bt,Bf,Lm,vcs,seval,tys]|exact rfl|refine call_off (v:=.any) ?_|((first|(refine call_fn ?_ (hc _) ?_)|(refine call_fn_g ?_ (fun _=>hc _) ?_));(focus (simp only[results80,ntmps80,wks,hat,atC,e1,e2,hlt,hki,h3,h4,hwk,Bt,Bf,Lm,vcs,seval,tys]<;>exact rfl)))|((first|(refine call_fn ?_ (hc2 _) ?_)|(refine call_fn_g ?_ (fun _=>hc2 _) ?_));(focus (simp only[results80,ntmps80,wks,hat,atC,e1,e2,hlt,hki,h3,h4,hwk,Bt,Bf,Lm,vcs,seval,tys]<;>exact rfl)))|(first|(refine call_fn ?_ (hf _) ?_)|(refine call_fn_g ?_ (fun _=>hf _) ?_))|refine draw_end (by decide +kernel) ?_|((first|apply Ca|apply Cb)<;>intro hb)|refine Ai (by omega) ?_|(apply Ai<;>intro hb))
            all_goals ((refine again_can2 cxG (j+1) [] ?_ ?_ ?_ ?_;rotate_left 2;(focus (show b0≤_;omega));(focus (refine⟨?_,?_⟩<;>(try simp only[cans,plain_at,hwk,vcs,seval,tys,injs])<;>(try omega)))))
            all_goals (first|(show l.length-(j+1)<l.length-j;omega)|exact⟨hlt,hn'⟩|skip)
    · have hke:k=l.length:=by omega
      subst hke
      have hd:decide (l.length<l.length)=false:=decide_eq_false (by omega)
      have hd2:decide ((l.length:Int)<(l.length:Int))=false:=decide_eq_false (by omega)
      have hr:atsL l=decide (l.length≤16):=by
        rw[Bool.eq_iff_iff,ats_iff,decide_eq_true_eq]
        exact⟨fun h=>h.1,fun h=>⟨h,hn⟩⟩
      have hz:decide ((l.length:Int)≤16)=decide (l.length≤16):=by
        rw[Bool.eq_iff_iff,decide_eq_true_eq,decide_eq_true_eq];omega
      (repeat' first|simp only[fins,mems,results80,ntmps80,wks,hd,hd2,hr,hz,Lm,vcs,seval,tys]|exact rfl|refine call_off (v:=.any) ?_|refine draw_end (by decide +kernel) ?_|((first|apply Ca|apply Cb)<;>intro hb)|refine Ai (by omega) ?_|(apply Ai<;>intro hb)|refine Fin.pure ?_ ?_ ?_|simp only[injs])
theorem rMayN_ev (x:Nd)(hx:x.okTo lim)(nm:Nat):Ev cx 62 nm [.agg (ndC x)] Mem.nil (.bool (mayN x)) []:=by
 obtain⟨h0,h1,h2,h3,h4⟩:=hx
 have hf:=rFull_ev x.name h2
 have hc1:=rCheck_ev x.space h1
 have hc2:=rCheck_ev x.text h3
 have ha:=rMayA_ev x.attrs h0 h4
 unfold mayN
 have e0:(x.attrs.length==0)=x.attrs.isEmpty:=by cases x.attrs<;>rfl
 have e0i:((x.attrs.length:Int)==0)=x.attrs.isEmpty:=len_zero _
 have e1:(ptsErr x.space==0)=decide (ptsErr x.space=0):=by rw[Bool.eq_iff_iff];simp
 have e2:(ptsErr x.text==0)=decide (ptsErr x.text=0):=by rw[Bool.eq_iff_iff];simp
 have e3:(x.name==[])=x.name.isEmpty:=by cases x.name<;>rfl
 have e4:(x.space==[])=x.space.isEmpty:=by cases x.space<;>rfl
 have e5:(x.text==[])=x.text.isEmpty:=by cases x.text<;>rfl
 have e6:(x.text != []) = !x.text.isEmpty:=by cases x.text<;>rfl
 have e7:(x.many==0)=decide (x.many=0):=by rw[Bool.eq_iff_iff];simp
 by_cases hk:x.kind=1
 ·rw[if_neg (by omega)]
  have k1:((x.kind:Int)==1)=true:=by rw[hk];rfl
  have k2:decide (x.kind=1)=true:=decide_eq_true hk
  rw[k2,Bool.true_and]
  rw[show(x.text.isEmpty&&fullL x.name&&decide (ptsErr x.space=0)&&atsL x.attrs)=(((fullL x.name&&x.text.isEmpty)&&decide (ptsErr x.space=0))&&atsL x.attrs) by rw[Bool.and_comm x.text.isEmpty]]
  generalize fullL x.name=b1 at hf ⊢
  generalize atsL x.attrs=b2 at ha ⊢
  generalize x.text.isEmpty=b3 at e5 ⊢
  generalize decide (ptsErr x.space=0)=b4 at e1 ⊢
  cases b1<;>cases b2<;>cases b3<;>cases b4
  all_goals (
   refine ev_go rfl (fun cargs w=>call62 cargs w) func62 rfl mixed (by kernel_rfl) rfl ?_;intro b0 hb0
   (repeat' first|simp only[fins,mems,results62,ntmps62,wks,ndC,k1,e1,e5,plain_at,Bool.and_self,Bool.and_false,Bool.false_and,vcs,seval,tys]|exact rfl|refine call_off (v:=.any) ?_|(first|(refine call_fn ?_ (hf _) ?_)|(refine call_fn_g ?_ (fun _=>hf _) ?_)|(refine call_fn ?_ (hc1 _) ?_)|(refine call_fn_g ?_ (fun _=>hc1 _) ?_)|(refine call_fn ?_ (ha _) ?_)|(refine call_fn_g ?_ (fun _=>ha _) ?_))|(refine call_off (v:=.any) ?_)|((first|apply Ca|apply Cb)<;>intro hb)|refine Ai (by omega) ?_|(apply Ai<;>intro hb)|refine Fin.pure ?_ ?_ ?_|simp only[injs]))
 ·have k1:((x.kind:Int)==1)=false:=beq_false_of_ne (by omega)
  have k2:decide (x.kind=1)=false:=decide_eq_false hk
  by_cases hk2:x.kind=2
  ·rw[if_pos hk2]
   have k3:((x.kind:Int)==2)=true:=by rw[hk2];rfl
   generalize x.name.isEmpty=b1 at e3 ⊢
   generalize x.space.isEmpty=b2 at e4 ⊢
   generalize x.attrs.isEmpty=b3 at e0 e0i ⊢
   generalize decide (x.many=0)=b4 at e7 ⊢
   generalize x.text.isEmpty=b5 at e5 e6 ⊢
   generalize decide (ptsErr x.text=0)=b6 at e2 ⊢
   refine ev_go rfl (fun cargs w=>call62 cargs w) func62 rfl mixed (by kernel_rfl) rfl ?_;intro b0 hb0
   (repeat' first|simp only[fins,mems,results62,ntmps62,wks,ndC,k1,k3,e0,e0i,e2,e3,e4,e5,e6,e7,plain_at,Bool.and_self,Bool.and_false,Bool.false_and,Bool.true_and,Lm,vcs,seval,tys]|exact rfl|refine call_off (v:=.any) ?_|(first|(refine call_fn ?_ (hc2 _) ?_)|(refine call_fn_g ?_ (fun _=>hc2 _) ?_))|((first|apply Ca|apply Cb)<;>intro hb)|refine Ai (by omega) ?_|(apply Ai<;>intro hb)|refine Fin.pure ?_ ?_ ?_|simp only[injs])
  ·rw[if_neg hk2,k2]
   have k3:((x.kind:Int)==2)=false:=beq_false_of_ne (by omega)
   refine ev_go rfl (fun cargs w=>call62 cargs w) func62 rfl mixed (by kernel_rfl) rfl ?_;intro b0 hb0
   (repeat' first|simp only[fins,mems,results62,ntmps62,wks,ndC,k1,k3,plain_at,Bool.and_self,Bool.and_false,Bool.false_and,vcs,seval,tys]|exact rfl|refine call_off (v:=.any) ?_|(refine call_off (v:=.any) ?_)|((first|apply Ca|apply Cb)<;>intro hb)|refine Ai (by omega) ?_|(apply Ai<;>intro hb)|refine Fin.pure ?_ ?_ ?_|simp only[injs])
theorem bare2_ev (n:Nd)(nm:Nat):Ev cx 29 nm [.agg (ndC n)] Mem.nil (.bool (decide (16<n.attrs.length))) []:=by
 have h:decide ((16:Int)<(n.attrs.length:Int))=decide (16<n.attrs.length):=by
  by_cases h:16<n.attrs.length
  ·rw[decide_eq_true h,decide_eq_true (by omega)]
  ·rw[decide_eq_false h,decide_eq_false (by omega)]
 rw[← h]
 refine ev_go rfl (fun cargs w=>call29 cargs w) func29 rfl mixed (by kernel_rfl) rfl ?_;intro b0 hb0
 (repeat' first|simp only[fins,mems,results29,ntmps29,wks,ndC,plain_at,Lm,h,vcs,seval,tys]|exact rfl|refine call_off (v:=.any) ?_|((first|apply Ca|apply Cb)<;>intro hb)|refine Ai (by omega) ?_|(apply Ai<;>intro hb)|refine Fin.pure ?_ ?_ ?_|simp only[injs])
def twinAt (a b:At):Bool:=(a.space==b.space)&&(a.name==b.name)
theorem named1_ev (a b:At)(nm:Nat):Ev cx 45 nm [.agg (atC a),.rp (atC b)] Mem.nil (.bool (twinAt a b)) []:=by
 unfold twinAt
 refine ev_go rfl (fun cargs w=>call45 cargs w) func45 rfl mixed (by kernel_rfl) rfl ?_;intro b0 hb0
 (repeat' first|simp only[fins,mems,results45,ntmps45,wks,atC,vcs,seval,tys]|exact rfl|refine call_off (v:=.any) ?_|((first|apply Ca|apply Cb)<;>intro hb)|refine Ai (by omega) ?_|(apply Ai<;>intro hb)|refine Fin.pure ?_ ?_ ?_|simp only[injs])
def itoaU (n:Nat):List UInt8:=if n<10 then [(48+n).toUInt8] else [(48+n / 10).toUInt8,(48+n % 10).toUInt8]
def digitsU:List UInt8:=[48,49,50,51,52,53,54,55,56,57,97,98,99,100,101,102,103,104,105,106,107,108,109,110,111,112,113,114,115,116,117,118,119,120,121,122]
def smallsU:List UInt8:=[48,48,48,49,48,50,48,51,48,52,48,53,48,54,48,55,48,56,48,57,49,48,49,49,49,50,49,51,49,52,49,53,49,54,49,55,49,56,49,57,50,48,50,49,50,50,50,51,50,52,50,53,50,54,50,55,50,56,50,57,51,48,51,49,51,50,51,51,51,52,51,53,51,54,51,55,51,56,51,57,52,48,52,49,52,50,52,51,52,52,52,53,52,54,52,55,52,56,52,57,53,48,53,49,53,50,53,51,53,52,53,53,53,54,53,55,53,56,53,57,54,48,54,49,54,50,54,51,54,52,54,53,54,54,54,55,54,56,54,57,55,48,55,49,55,50,55,51,55,52,55,53,55,54,55,55,55,56,55,57,56,48,56,49,56,50,56,51,56,52,56,53,56,54,56,55,56,56,56,57,57,48,57,49,57,50,57,51,57,52,57,53,57,54,57,55,57,56,57,57]
theorem small_lo:∀ i,i<10→(digitsU.drop i).take (i+1-i)=itoaU i:=by decide +kernel
theorem small_hi:∀ i,i<100 → ¬ i<10→(smallsU.drop (i*2)).take (i*2+2-i*2)=itoaU i:=by decide +kernel
theorem small_ev (i:Nat)(hi:i<100)(nm:Nat):Ev cx 92 nm [.int .i64 i] Mem.nil (.str (itoaU i)) []:=by
 by_cases h:i<10
 ·have d1:decide ((i:Int)<10)=true:=decide_eq_true (by omega)
  have d2:IntKind.i64.wrap ((i:Int)+1)=((i+1:Nat):Int):=wrap_in (by omega) (by omega)
  have d3:(i:Int)≤((i+1:Nat):Int):=by omega
  have hz:=small_lo i h
  unfold digitsU at hz
  refine ev_go rfl (fun cargs w=>call92 cargs w) func92 rfl mixed (by kernel_rfl) rfl ?_;intro b0 hb0
  (repeat' first|simp only[fins,mems,results92,ntmps92,wks,d1,d2,hz,List.length_cons,List.length_nil,vcs,seval,tys]|exact rfl|refine call_off (v:=.any) ?_|((first|apply Ca|apply Cb)<;>intro hb)|refine Ai (by omega) ?_|(apply Ai<;>intro hb)|refine Fin.pure ?_ ?_ ?_|simp only[injs])
 ·have d1:decide ((i:Int)<10)=false:=decide_eq_false (by omega)
  have d2:IntKind.i64.wrap ((i:Int)*2)=((i*2:Nat):Int):=wrap_in (by omega) (by omega)
  have d3:IntKind.i64.wrap (((i*2:Nat):Int)+2)=((i*2+2:Nat):Int):=wrap_in (by omega) (by omega)
  have hz:=small_hi i hi h
  unfold smallsU at hz
  refine ev_go rfl (fun cargs w=>call92 cargs w) func92 rfl mixed (by kernel_rfl) rfl ?_;intro b0 hb0
  (repeat' first|simp only[fins,mems,results92,ntmps92,wks,d1,d2,d3,hz,List.append_eq,List.cons_append,List.nil_append,List.length_cons,List.length_nil,vcs,seval,tys]|exact rfl|refine call_off (v:=.any) ?_|((first|apply Ca|apply Cb)<;>intro hb)|refine Ai (by omega) ?_|(apply Ai<;>intro hb)|refine Fin.pure ?_ ?_ ?_|simp only[injs])
theorem fmt_ev (i:Nat)(hi:i<100)(nm:Nat):Ev cx 82 nm [.int .i64 i,.int .i64 10] Mem.nil (.str (itoaU i)) []:=by
 have d1:decide ((0:Int)≤(i:Int))=true:=decide_eq_true (by omega)
 have d2:decide ((i:Int)<100)=true:=decide_eq_true (by omega)
 refine ev_go rfl (fun cargs w=>call82 cargs w) func82 rfl mixed (by kernel_rfl) rfl ?_;intro b0 hb0
 (repeat' first|simp only[fins,mems,results82,ntmps82,wks,d1,d2,vcs,seval,tys]|exact rfl|refine call_off (v:=.any) ?_|(first|(refine call_fn ?_ (small_ev i hi _) ?_)|(refine call_fn_g ?_ (fun _=>small_ev i hi _) ?_))|((first|apply Ca|apply Cb)<;>intro hb)|refine Ai (by omega) ?_|(apply Ai<;>intro hb)|refine Fin.pure ?_ ?_ ?_|simp only[injs])
theorem itoaI_ev (i:Nat)(hi:i<100)(nm:Nat):Ev cx 70 nm [.int .i64 i] Mem.nil (.str (itoaU i)) []:=by
 refine ev_go rfl (fun cargs w=>call70 cargs w) func70 rfl mixed (by kernel_rfl) rfl ?_;intro b0 hb0
 (repeat' first|simp only[fins,mems,results70,ntmps70,wks,vcs,seval,tys]|exact rfl|refine call_off (v:=.any) ?_|(first|(refine call_fn ?_ (fmt_ev i hi _) ?_)|(refine call_fn_g ?_ (fun _=>fmt_ev i hi _) ?_))|((first|apply Ca|apply Cb)<;>intro hb)|refine Ai (by omega) ?_|(apply Ai<;>intro hb)|refine Fin.pure ?_ ?_ ?_|simp only[injs])
theorem itoa_ev (i:Nat)(hi:i<100)(nm:Nat):Ev cx 51 nm [.int .i64 i] Mem.nil (.str (itoaU i)) []:=by
 refine ev_go rfl (fun cargs w=>call51 cargs w) func51 rfl mixed (by kernel_rfl) rfl ?_;intro b0 hb0
 (repeat' first|simp only[fins,mems,results51,ntmps51,wks,vcs,seval,tys]|exact rfl|refine call_off (v:=.any) ?_|(first|(refine call_fn ?_ (itoaI_ev i hi _) ?_)|(refine call_fn_g ?_ (fun _=>itoaI_ev i hi _) ?_))|((first|apply Ca|apply Cb)<;>intro hb)|refine Ai (by omega) ?_|(apply Ai<;>intro hb)|refine Fin.pure ?_ ?_ ?_|simp only[injs])
def seenF (S:List (List UInt8))(a:At):List (List UInt8):=if (a.space==[])=true then S else if (a.space==xmlU)=true then S else if S.contains a.space=true then S else S++[a.space]
def seenL (l:List At):List (List UInt8):=l.foldl seenF []
def ixU (S:List (List UInt8))(s:List UInt8):Nat:=(S.findIdx? (· == s)).getD S.length
def preU (S:List (List UInt8))(s:List UInt8):List UInt8:=if (s==xmlU)=true then [120,109,108] else 110::itoaU (ixU S s+1)
def relU (S:List (List UInt8))(a:At):At:=⟨[],if (a.space==[])=true then a.name else preU S a.space++58::a.name,a.value⟩
def decU (k:Nat)(s:List UInt8):At:=⟨[],[120,109,108,110,115,58,110]++itoaU (k+1),s⟩
def decsU (S:List (List UInt8)):List At:=S.mapIdx decU
def hdU (n:Nd)(sp:List UInt8):List At:=if (n.space==sp)=true then [] else [⟨[],[120,109,108,110,115],n.space⟩]
def toldU (n:Nd)(sp:List UInt8):Nd:=⟨n.kind,[],n.name,hdU n sp++decsU (seenL n.attrs)++n.attrs.map (relU (seenL n.attrs)),[],n.many⟩
theorem seenL_take {l:List At}{k:Nat}{a:At}(h:l[k]? = some a):seenL (l.take (k+1))=seenF (seenL (l.take k)) a:=by
 obtain⟨hk,rfl⟩:=List.getElem?_eq_some_iff.1 h
 unfold seenL
 rw[List.take_succ_eq_append_getElem hk,List.foldl_append];rfl
theorem seenF_pre (S:List (List UInt8))(a:At):S <+: seenF S a:=by
 unfold seenF
 split
 ·exact List.prefix_refl _
 ·split
  ·exact List.prefix_refl _
  ·split
   ·exact List.prefix_refl _
   ·exact List.prefix_append _ _
theorem seenFold_pre:∀(l:List At) (S:List (List UInt8)),S <+: l.foldl seenF S
 | [],_=>List.prefix_refl _
 | a::l,S=>(seenF_pre S a).trans (seenFold_pre l _)
theorem seenL_pre (l:List At)(k:Nat):seenL (l.take k) <+: seenL l:=by
 have h:=seenFold_pre (l.drop k) (seenL (l.take k))
 unfold seenL at h ⊢
 rwa[← List.foldl_append,List.take_append_drop]at h
theorem seenF_len (S:List (List UInt8))(a:At):(seenF S a).length≤S.length+1:=by
 unfold seenF
 split
 ·omega
 ·split
  ·omega
  ·split
   ·omega
   ·simp
theorem seenFold_len:∀(l:List At) (S:List (List UInt8)),(l.foldl seenF S).length≤S.length+l.length
 | [],S=>by simp
 | a::l,S=>by
  have h1:=seenFold_len l (seenF S a)
  have h2:=seenF_len S a
  simp only[List.foldl_cons,List.length_cons]
  omega
theorem seenL_len (l:List At):(seenL l).length≤l.length:=by
 have:=seenFold_len l []
 unfold seenL;simpa using this
theorem find_pre {S T:List (List UInt8)}{s:List UInt8}{k:Nat}(h:S <+: T)(hk:S.findIdx? (· == s)=some k):T.findIdx? (· == s)=some k:=by
 obtain⟨r,rfl⟩:=h
 rw[List.findIdx?_append,hk];rfl
theorem ix_of {S T:List (List UInt8)}{s:List UInt8}{k:Nat}(h:S <+: T)(hk:S.findIdx? (· == s)=some k):ixU T s=k:=by
 unfold ixU;rw[find_pre h hk];rfl
theorem find_snoc {S:List (List UInt8)}{s:List UInt8}(h:S.findIdx? (· == s)=none):(S++[s]).findIdx? (· == s)=some S.length:=by
 rw[List.findIdx?_append,h];simp
theorem cont_none {S:List (List UInt8)}{s:List UInt8}(h:S.findIdx? (· == s)=none):S.contains s=false:=by
 have:=List.findIdx?_eq_none_iff.1 h
 cases hc:S.contains s with
 | false=>rfl
 | true =>
  rw[List.contains_iff_mem]at hc
  have:=this s hc
  simp at this
theorem cont_some {S:List (List UInt8)}{s:List UInt8}{k:Nat}(h:S.findIdx? (· == s)=some k):S.contains s=true:=by
 cases hc:S.contains s with
 | true=>rfl
 | false =>
  have:S.findIdx? (· == s)=none:=List.findIdx?_eq_none_iff.2 fun x hx=>by
   cases hb:(x==s) with
   | false=>rfl
   | true =>
    have:=eq_of_beq hb;subst this
    rw[← List.contains_iff_mem]at hx;rw[hc]at hx;cases hx
  rw[this]at h;cases h
theorem decs_snoc (S:List (List UInt8))(s:List UInt8):decsU (S++[s])=decsU S++[decU S.length s]:=by
 unfold decsU;simp[List.mapIdx_append]
theorem decs_len (S:List (List UInt8)):(decsU S).length=S.length:=by simp[decsU]
theorem itoa_small:∀ n,n<100→(itoaU n).length≤2:=by
 intro n _;unfold itoaU;split<;>simp
def Fo.bare:Fo→List UInt8→List Nd
 | .nil,_=>[]
 | .cons n k r,sp=>(if n.kind=2 then [n] else toldU n sp::k.bare n.space)++r.bare sp
abbrev KnT:=List (List UInt8×List UInt8)
def getK (p:List UInt8):KnT→Option (List UInt8)
 | []=>none
 | q::r=>if (p==q.1)=true then some q.2 else getK p r
def putK (p v:List UInt8):KnT→KnT
 | []=>[(p,v)]
 | q::r=>if (p==q.1)=true then (p,v)::r else q::putK p v r
theorem get_put (p v q:List UInt8):∀(K:KnT),getK q (putK p v K)=if q=p then some v else getK q K
 | []=>by
  simp only[putK,getK]
  by_cases h:q=p<;>simp[h]
 | x::r=>by
  simp only[putK]
  by_cases h1:p=x.1
  ·rw[if_pos (by simpa using h1)]
   simp only[getK]
   by_cases h:q=p
   ·simp[h]
   ·simp[h,← h1]
  ·rw[if_neg (by simpa using h1)]
   simp only[getK]
   by_cases h:q=x.1
   ·subst h;simp[Ne.symm h1]
   ·simp[h,get_put p v q r]
def declO (s:List UInt8):Option (List UInt8):=if (s==[120,109,108,110,115])=true then some [] else if preB s [120,109,108,110,115,58]=true then some (s.drop 6) else none
theorem declU_eq (s:List UInt8):declU s = .tup [.str ((declO s).getD s),.bool (declO s).isSome]:=by
 unfold declU declO
 split
 ·rfl
 ·unfold preR
  split<;>rfl
def knF (K:KnT×Bool)(a:At):KnT×Bool:=match declO a.name with
 | none=>K
 | some p=>(putK p a.value K.1,K.2&&mayU p a.value)
def knL (K:KnT)(r:Bool)(l:List At):KnT×Bool:=l.foldl knF (K,r)
def resAt (K:KnT)(a:At):At:=if a.name.contains 58=true then ⟨(getK (splitU a.name).1 K).getD [],(splitU a.name).2,a.value⟩ else ⟨[],a.name,a.value⟩
def hasAt (K:KnT)(a:At):Bool:=!a.name.contains 58||(getK (splitU a.name).1 K).isSome
def nmF (K:KnT)(s:List At×Bool)(a:At):List At×Bool:=match declO a.name with
 | some _=>s
 | none=>(s.1++[resAt K a],(s.2&&hasAt K a) && !(s.1.any fun b=>twinAt b (resAt K a)))
def nmL (K:KnT)(r:Bool)(l:List At):List At×Bool:=l.foldl (nmF K) ([],r)
def namU (K:KnT)(n:Nd):Nd×Bool:=(⟨n.kind,(getK (splitU n.name).1 K).getD [],(splitU n.name).2,(nmL K (getK (splitU n.name).1 K).isSome n.attrs).1,[],n.many⟩,(nmL K (getK (splitU n.name).1 K).isSome n.attrs).2)
def Fo.res:Fo→KnT→List Nd×Bool
 | .nil,_=>([],true)
 | .cons n k r,K=>if n.kind=2 then (n::(r.res K).1,(r.res K).2)
  else ((namU (knL K true n.attrs).1 n).1::((k.res (knL K true n.attrs).1).1++(r.res K).1),(((knL K true n.attrs).2&&(namU (knL K true n.attrs).1 n).2)&&(k.res (knL K true n.attrs).1).2)&&(r.res K).2)
def knZ:KnT:=[([],[]),([120,109,108],xmlU)]
def foV:Nat→Nat→List Nd→Fo×List Nd
 | 0,_,v=>(.nil,v)
 | _+1,0,v=>(.nil,v)
 | _+1,_+1,[]=>(.nil,[])
 | f+1,c+1,n::v=>(.cons n (foV f n.many.toNat v).1 (foV f c (foV f n.many.toNat v).2).1,(foV f c (foV f n.many.toNat v).2).2)
theorem foV_of:∀(F:Fo) (d last f:Nat) (r:List Nd),F.good d last=true→F.size<f→foV f F.count (F.flat++r)=(F,r)
 | .nil,_,_,f+1,r,_,_=>by simp[Fo.count,Fo.flat,foV]
 | .cons n k r,d,last,f+1,rest,h,hf=>by
  obtain⟨h1,h2,h3,h4,h5,h6⟩:=Fo.good_cons.1 h
  simp only[Fo.size]at hf
  have hk:=foV_of k (d-1) 1 f (r.flat++rest) h5 (by omega)
  have hr:=foV_of r d n.kind f rest h6 (by omega)
  have hm:n.many.toNat=k.count:=by omega
  simp only[Fo.count,Fo.flat,List.cons_append,List.append_assoc,foV,hm,hk,hr]
 | F,_,_,0,_,_,hf=>by omega
def foOf (v:List Nd):Fo:=(foV (v.length+1) 1 v).1
theorem foOf_of {n:Nd}{k:Fo}{d:Nat}(h:(Fo.cons n k .nil).good d 0=true):foOf (n::k.flat) = .cons n k .nil:=by
 have:=foV_of (.cons n k .nil) d 0 ((n::k.flat).length+1) [] h (by simp[Fo.size,Fo.flat_length])
 unfold foOf
 simp only[Fo.count,Fo.flat,List.append_nil]at this
 rw[this]
def resolveU (v:List Nd):List Nd×Int:=if checkB v≠0 then ([],8) else if v.any spcNd=true then ([],8) else if ((foOf v).res knZ).2=true then (((foOf v).res knZ).1,0) else ([],110)
def wideU (v:List Nd):Bool:=v.any fun n=>decide (16<n.attrs.length)
def bareU (v:List Nd)(sp:List UInt8):List Nd×Int:=if checkU v≠0 then ([],checkU v) else if ptsErr sp≠0∨givenU sp=true then ([],8) else if wideU ((foOf v).bare sp)=true then ([],4) else ((foOf v).bare sp,0)
theorem one_atL (l:List At):((l.map atC).all fun r=>r.all V.one)=true:=by
 rw[List.all_map,List.all_eq_true];intro a _;rfl
theorem one_ndL (l:List Nd):((l.map ndC).all fun r=>r.all V.one)=true:=by
 rw[List.all_map,List.all_eq_true];intro a _;rfl
theorem mayN_attrs {n:Nd}(h:mayN n=true):n.attrs.length≤16∧n.text.length≤16384:=by
 rcases mayN_kind h with hk|hk
 ·obtain⟨h1,_,_,h4⟩:=mayN_elem h hk
  exact⟨(ats_iff.1 h4).1,by rw[h1];simp⟩
 ·obtain⟨_,_,h3,_,_,h6⟩:=mayN_text h hk
  exact⟨by rw[h3];simp,ptsErr_len h6⟩
theorem cont_colon {s:List UInt8}(h:(58:UInt8) ∉ s):s.contains 58=false:=by
 cases hc:s.contains 58 with
 | false=>rfl
 | true=>rw[List.contains_iff_mem]at hc;exact absurd hc h
theorem split_none {s:List UInt8}(h:(58:UInt8) ∉ s):splitU s=([],s):=by
 unfold splitU;rw[cut1_none.2 h]
theorem split_of {a b:List UInt8}(h:(58:UInt8) ∉ a):splitU (a++58::b)=(a,b):=by
 unfold splitU;rw[cut1_of h]
theorem decl_pre (s:List UInt8):declO ([120,109,108,110,115,58]++s)=some s:=by
 have h:preB ([120,109,108,110,115,58]++s) [120,109,108,110,115,58]=true:=by unfold preB;simp
 unfold declO
 rw[if_neg (by simp),if_pos h];rfl
theorem decl_none {s:List UInt8}(h1:s≠[120,109,108,110,115])(h2:s.take 6≠[120,109,108,110,115,58]):declO s=none:=by
 unfold declO preB
 rw[if_neg (by simpa using h1),if_neg (by simp[h2])]
theorem decl_plain {s:List UInt8}(h:(58:UInt8) ∉ s)(h1:s≠[120,109,108,110,115]):declO s=none :=
 decl_none h1 fun e=>h (List.mem_of_mem_take (i:=6) (by rw[e];simp))
theorem seen_in {l:List At} : ∀ {S:List (List UInt8)},∀ s∈l.foldl seenF S,s∈S ∨ ∃ a∈l,a.space=s∧s≠[]∧s≠xmlU:=by
 induction l with
 | nil=>intro S s h;exact .inl h
 | cons a l ih =>
  intro S s h
  rw[List.foldl_cons]at h
  rcases ih s h with h|⟨b,hb,h1⟩
  ·unfold seenF at h
   split at h
   ·exact .inl h
   ·rename_i h1
    split at h
    ·exact .inl h
    ·rename_i h2
     split at h
     ·exact .inl h
     ·rcases List.mem_append.1 h with h|h
      ·exact .inl h
      ·refine .inr ⟨a,List.mem_cons_self ..,?_⟩
       have:=List.mem_singleton.1 h
       subst this
       exact⟨rfl,by simpa using h1,by simpa using h2⟩
  ·exact .inr ⟨b,List.mem_cons_of_mem _ hb,h1⟩
theorem seen_has {l:List At} : ∀ {S:List (List UInt8)} {a:At},a∈l→a.space≠[]→a.space≠xmlU→a.space∈l.foldl seenF S:=by
 induction l with
 | nil=>intro S a h;cases h
 | cons b l ih =>
  intro S a h h1 h2
  rw[List.foldl_cons]
  rcases List.mem_cons.1 h with e|h
  ·subst e
   refine(seenFold_pre l (seenF S a)).subset ?_
   unfold seenF
   rw[if_neg (by simpa using h1),if_neg (by simpa using h2)]
   split
   ·rename_i h3;exact List.contains_iff_mem.1 h3
   ·simp
  ·exact ih h h1 h2
theorem ix_get {S:List (List UInt8)}{s:List UInt8}(h:s∈S):S[ixU S s]? = some s∧ixU S s<S.length:=by
 unfold ixU
 cases hf:S.findIdx? (· == s) with
 | none=>have:=cont_none hf;rw[List.contains_iff_mem.2 h]at this;cases this
 | some k =>
  obtain⟨hk,h1,_⟩:=List.findIdx?_eq_some_iff_getElem.1 hf
  have e:S[k]=s:=by simpa using h1
  exact⟨by simp only[Option.getD_some];rw[List.getElem?_eq_getElem hk,e],by simpa using hk⟩
theorem ats_pw {l:List At} : atsL l=true↔l.length≤16∧l.Pairwise (fun b a=>¬(a.space=b.space∧a.name=b.name)) ∧ ∀ a∈l,fullL a.name=true∧ptsErr a.value=0∧ptsErr a.space=0:=by
 rw[ats_iff]
 refine and_congr_right fun _=>?_
 have hok:∀(p:List At) (a:At),okA p a=true↔(∀ b∈p,¬(a.space=b.space∧a.name=b.name))∧fullL a.name=true∧ptsErr a.value=0∧ptsErr a.space=0:=fun p a=>by
  unfold okA
  simp only[Bool.and_eq_true,Bool.not_eq_true',decide_eq_true_eq,List.any_eq_false,beq_iff_eq,and_assoc]
 unfold atsTo
 constructor
 ·intro h
  refine⟨List.pairwise_iff_getElem.2 fun i j hi hj hij=>?_,fun a ha=>?_⟩
  ·have:=((hok _ _).1 (h j l[j] hj (List.getElem?_eq_getElem hj))).1 l[i] (by
    rw[List.mem_take_iff_getElem];exact⟨i,by omega,rfl⟩)
   exact this
  ·obtain⟨i,hi,rfl⟩:=List.getElem_of_mem ha
   exact((hok _ _).1 (h i l[i] hi (List.getElem?_eq_getElem hi))).2
 ·rintro ⟨h1,h2⟩ i a hi ha
  obtain⟨hi',rfl⟩:=List.getElem?_eq_some_iff.1 ha
  refine(hok _ _).2 ⟨fun b hb=>?_,h2 _ (List.getElem_mem hi')⟩
  obtain⟨k,hk,rfl⟩:=List.mem_take_iff_getElem.1 hb
  exact List.pairwise_iff_getElem.1 h1 k i (by omega) hi' (by omega)
def Fo.tell:Fo→List UInt8→Fo
 | .nil,_=>.nil
 | .cons n k r,sp=>.cons (if n.kind=2 then n else toldU n sp) (k.tell n.space) (r.tell sp)
theorem Fo.tell_size:∀(F:Fo) (sp:List UInt8),(F.tell sp).size=F.size
 | .nil,_=>rfl
 | .cons n k r,sp=>by simp[Fo.tell,Fo.size,k.tell_size,r.tell_size]
theorem Fo.tell_flat:∀ {F:Fo} {d last:Nat} (sp:List UInt8),F.good d last=true→(F.tell sp).flat=F.bare sp
 | .nil,_,_,_,_=>rfl
 | .cons n k r,d,last,sp,h=>by
  obtain⟨h1,h2,h3,h4,h5,h6⟩:=Fo.good_cons.1 h
  simp only[Fo.tell,Fo.flat,Fo.bare,Fo.tell_flat sp h6]
  by_cases hk:n.kind=2
  ·have:=Fo.text_leaf h hk
   subst this
   simp[hk,Fo.tell,Fo.flat]
  ·simp[hk,Fo.tell_flat n.space h5]
theorem tree_ofB {v:List Nd}(h:checkB v=0):∃ n k,n.kind=1∧v=n::k.flat∧(Fo.cons n k .nil).good 12 0=true∧k.size+1≤512:=by
 unfold checkB at h
 cases hb:behindO v with
 | none=>rw[hb]at h;cases h
 | some en =>
  obtain⟨n,k,h1,h2,h3,h4,_⟩:=behind_iff.1 hb
  exact⟨n,k,h1,h2,h3,by rw[h2]at h4;simpa [Fo.flat_length] using h4⟩
theorem checkB_of {n:Nd}{k:Fo}(hk:n.kind=1)(h:(Fo.cons n k .nil).good 12 0=true)(hl:k.size+1≤512):checkB (n::k.flat)=0:=by
 unfold checkB;rw[behind_of (Nat.le_refl _) hk h hl];rfl
theorem checkU_ok {v:List Nd}(h:checkU v=0):(∀ x∈v,badNd x=false)∧checkB v=0:=by
 unfold checkU at h
 split at h
 ·cases h
 ·rename_i hb
  refine⟨fun x hx=>?_,h⟩
  cases hx2:badNd x with
  | false=>rfl
  | true=>exact absurd (List.any_eq_true.2 ⟨x,hx,hx2⟩) hb
def loopB (rec:Nat→Option Nat)(v:List Nd):Nat→Nat→Bool→Option Nat
 | 0,next,_=>some next
 | c+1,next,text=>match rec next with
  | none=>none
  | some e=>match v[next]? with
   | none=>none
   | some y=>if (text&&y.kind==2)=true then none else loopB rec v c e (y.kind==2)
def okB (v:List Nd)(dz:Bool)(x:Nd):Bool:=mayN x&&decide (0≤x.many)&&decide (x.many≤(v.length:Int)) && !(x.kind==1&&dz)
def nodeB (rec:Nat→Option Nat)(v:List Nd)(dz:Bool)(p:Nat):Option Nat:=match v[p]? with
 | none=>none
 | some x=>if okB v dz x=true then loopB rec v x.many.toNat (p+1) false else none
def behB (v:List Nd):Nat→Nat→Option Nat
 | 0=>nodeB (fun _=>none) v true
 | d+1=>nodeB (behB v d) v false
theorem at_drop {v:List Nd}{p:Nat}{n:Nd}{r:List Nd}(h:v.drop p=n::r):v[p]? = some n∧p<v.length∧v.drop (p+1)=r:=by
 have h1:v[p]? = some n:=by
  have:(v.drop p)[0]? = some n:=by rw[h];rfl
  rwa[List.getElem?_drop,Nat.add_zero]at this
 refine⟨h1,(List.getElem?_eq_some_iff.1 h1).1,?_⟩
 have:(v.drop p).drop 1=r:=by rw[h];rfl
 rwa[List.drop_drop]at this
theorem flat_len {v:List Nd}{p:Nat}{F:Fo}{r:List Nd}(h:v.drop p=F.flat++r):F.size≤v.length:=by
 have:=congrArg List.length h
 rw[List.length_drop,List.length_append,Fo.flat_length]at this
 omega
theorem count_le_size:∀(F:Fo),F.count≤F.size
 | .nil=>Nat.le_refl _
 | .cons n k r=>by have:=count_le_size r;simp only[Fo.count,Fo.size];omega
theorem loopB_good (v:List Nd):∀(F:Fo) (d last p:Nat) (rest:List Nd) (text:Bool),v.drop p=F.flat++rest→F.good d last=true→(text=true→last=2)→loopB (behB v d) v F.count p text=some (p+F.size)
 | .nil,d,last,p,rest,text,_,_,_=>rfl
 | .cons n k r,d,last,p,rest,text,hd,hg,ht=>by
  obtain⟨h1,h2,h3,h4,h5,h6⟩:=Fo.good_cons.1 hg
  have hd':v.drop p=n::(k.flat++(r.flat++rest)):=by rw[hd];simp[Fo.flat]
  obtain⟨a1,a2,a3⟩:=at_drop hd'
  have hkl:=flat_len a3
  have hkc:=count_le_size k
  have hm:n.many.toNat=k.count:=by omega
  have hok:okB v (d==0) n=true:=by
   unfold okB
   rw[h1,decide_eq_true (by omega),decide_eq_true (by omega)]
   simp only[Bool.and_self,Bool.true_and,Bool.not_eq_true',Bool.and_eq_false_iff,beq_eq_false_iff_ne,ne_eq]
   by_cases hd0:d=0
   ·left;exact fun h=>h4 ⟨h,hd0⟩
   ·right;exact hd0
  have hrec:behB v d p=some (p+1+k.size):=by
   cases d with
   | zero =>
    have hk2:n.kind=2:=by
     rcases mayN_kind h1 with e|e
     ·exact absurd ⟨e,rfl⟩ h4
     ·exact e
    have:=Fo.text_leaf hg hk2
    subst this
    unfold behB nodeB
    rw[a1]
    simp only[beq_self_eq_true]at hok
    simp only[hok,if_true,hm,Fo.count,loopB,Fo.size,Nat.add_zero]
   | succ d =>
    unfold behB nodeB
    rw[a1]
    have hok':okB v false n=true:=hok
    simp only[hok',if_true,hm]
    exact loopB_good v k d 1 (p+1) (r.flat++rest) false a3 h5 (fun h=>by cases h)
  have hdr:v.drop (p+1+k.size)=r.flat++rest:=by
   have:(v.drop (p+1)).drop k.size=r.flat++rest:=by rw[a3,← Fo.flat_length,List.drop_left]
   rwa[List.drop_drop]at this
  have htk:(text&&n.kind==2)=false:=by
   cases text with
   | false=>rfl
   | true =>
    rw[Bool.true_and,beq_eq_false_iff_ne]
    exact fun h=>h3 ⟨ht rfl,h⟩
  simp only[Fo.count,loopB,hrec,a1,htk,Bool.false_eq_true,if_false]
  rw[loopB_good v r d n.kind (p+1+k.size) rest (n.kind==2) hdr h6 (fun h=>by simpa using h)]
  simp only[Fo.size]
  congr 1;omega
theorem behB_good {v:List Nd}{n:Nd}{k:Fo}{d p:Nat}{rest:List Nd}(hd:v.drop p=n::(k.flat++rest))(hg:(Fo.cons n k .nil).good d 0=true):behB v d p=some (p+1+k.size):=by
 have h:=loopB_good v (.cons n k .nil) d 0 p rest false (by rw[hd];simp[Fo.flat]) hg (fun h=>by cases h)
 simp only[Fo.count,loopB,Fo.size,Nat.add_zero,Nat.zero_add]at h
 cases hb:behB v d p with
 | none=>rw[hb]at h;cases h
 | some e =>
  rw[hb,(at_drop hd).1]at h
  simp only[Bool.false_and,Bool.false_eq_true,if_false,Option.some.injEq]at h
  rw[h];congr 1;omega
theorem loopB_some {rec:Nat→Option Nat}{v:List Nd}{d:Nat}(hrec:∀ p e,rec p=some e → ∃ n k rest,v.drop p=n::(k.flat++rest)∧(Fo.cons n k .nil).good d 0=true∧e=p+1+k.size) :
  ∀(c p:Nat) (text:Bool) (e last:Nat),loopB rec v c p text=some e→(last=2→text=true)→p≤v.length → ∃(F:Fo) (rest:List Nd),v.drop p=F.flat++rest∧F.count=c∧F.good d last=true∧e=p+F.size
 | 0,p,text,e,last,h,_,_=>by
  simp only[loopB,Option.some.injEq]at h
  exact⟨.nil,v.drop p,rfl,rfl,rfl,by simp[Fo.size,h]⟩
 | c+1,p,text,e,last,h,hl,hp=>by
  simp only[loopB]at h
  cases hr:rec p with
  | none=>rw[hr]at h;cases h
  | some e1 =>
   rw[hr]at h
   obtain⟨n,k,rest,a1,a2,a3⟩:=hrec p e1 hr
   obtain⟨b1,b2,b3⟩:=at_drop a1
   rw[b1]at h
   simp only at h
   split at h
   ·cases h
   ·rename_i htx
    obtain⟨g1,g2,g3,g4,g5,g6⟩:=Fo.good_cons.1 a2
    have hdr:v.drop e1=rest:=by
     have:(v.drop (p+1)).drop k.size=rest:=by rw[b3,← Fo.flat_length,List.drop_left]
     rw[List.drop_drop]at this
     rw[a3];exact this
    have he1:e1≤v.length:=by
     have:=congrArg List.length b3
     rw[List.length_drop,List.length_append,Fo.flat_length]at this
     omega
    obtain⟨R,rest2,c1,c2,c3,c4⟩:=loopB_some hrec c e1 (n.kind==2) e n.kind h (fun h=>by simp[h]) he1
    rw[hdr]at c1
    refine⟨.cons n k R,rest2,?_,?_,Fo.good_cons.2 ⟨g1,g2,fun hx=>?_,g4,g5,c3⟩,?_⟩
    ·rw[a1,c1];simp[Fo.flat]
    ·simp only[Fo.count,c2]
    ·exact htx (by rw[hl hx.1,hx.2];rfl)
    ·simp only[Fo.size];omega
theorem behB_some {v:List Nd} : ∀ {d p e:Nat},behB v d p=some e → ∃ n k rest,v.drop p=n::(k.flat++rest)∧(Fo.cons n k .nil).good d 0=true∧e=p+1+k.size
 | 0,p,e,h=>by
  unfold behB nodeB at h
  cases hx:v[p]? with
  | none=>rw[hx]at h;cases h
  | some x =>
   rw[hx]at h
   simp only at h
   split at h
   ·rename_i hok
    unfold okB at hok
    simp only[Bool.and_true,Bool.and_eq_true,decide_eq_true_eq,Bool.not_eq_true',beq_eq_false_iff_ne]at hok
    obtain⟨⟨⟨h1,h2⟩,h3⟩,h4⟩:=hok
    have hk2:x.kind=2:=by
     rcases mayN_kind h1 with e|e
     ·exact absurd e h4
     ·exact e
    have hm:=(mayN_text h1 hk2).2.2.2.1
    rw[hm]at h
    simp only[Int.toNat_zero,loopB,Option.some.injEq]at h
    obtain⟨hp,hpe⟩:=List.getElem?_eq_some_iff.1 hx
    refine⟨x,.nil,v.drop (p+1),?_,Fo.good_cons.2 ⟨h1,by rw[hm];rfl,by omega,by omega,rfl,rfl⟩,by simp[Fo.size,h]⟩
    rw[List.drop_eq_getElem_cons hp,hpe];rfl
   ·cases h
 | d+1,p,e,h=>by
  unfold behB nodeB at h
  cases hx:v[p]? with
  | none=>rw[hx]at h;cases h
  | some x =>
   rw[hx]at h
   simp only at h
   split at h
   ·rename_i hok
    unfold okB at hok
    simp only[Bool.and_false,Bf,Bool.and_true,Bool.and_eq_true,decide_eq_true_eq]at hok
    obtain⟨⟨h1,h2⟩,h3⟩:=hok
    obtain⟨hp,hpe⟩:=List.getElem?_eq_some_iff.1 hx
    obtain⟨F,rest,c1,c2,c3,c4⟩:=loopB_some (d:=d) (fun p e he=>behB_some he) x.many.toNat (p+1) false e 1 h (fun h=>by cases h) hp
    refine⟨x,F,rest,?_,Fo.good_cons.2 ⟨h1,by omega,by omega,by omega,c3,rfl⟩,c4⟩
    rw[List.drop_eq_getElem_cons hp,hpe,c1]
   ·cases h
theorem behB_le {v:List Nd}{d p e:Nat}(h:behB v d p=some e):p<e∧e≤v.length:=by
 obtain⟨n,k,rest,h1,_,h3⟩:=behB_some h
 obtain⟨_,_,a3⟩:=at_drop h1
 obtain⟨_,hp,_⟩:=at_drop h1
 have:=congrArg List.length a3
 rw[List.length_drop,List.length_append,Fo.flat_length]at this
 omega
def mayT (v:List Nd):Bool:=decide (checkB v=0)
theorem mayT_eq (v:List Nd):mayT v=(((decide (0<v.length)&&decide (v.length≤512))&&((v[0]?).map Nd.kind==some 1))&&(behB v 12 0==some v.length)):=by
 rw[Bool.eq_iff_iff]
 unfold mayT
 simp only[decide_eq_true_eq,Bool.and_eq_true,beq_iff_eq]
 constructor
 ·intro h
  obtain⟨n,k,hk,hv,hg,hl⟩:=tree_ofB h
  have hlen:v.length=k.size+1:=by rw[hv];simp[Fo.flat_length]
  have hb:=behB_good (v:=v) (n:=n) (k:=k) (d:=12) (p:=0) (rest:=[]) (by rw[List.drop_zero,List.append_nil];exact hv) hg
  refine⟨⟨⟨by omega,by omega⟩,by rw[hv];simp[hk]⟩,?_⟩
  rw[hb];congr 1;omega
 ·rintro ⟨⟨⟨h1,h2⟩,h3⟩,h4⟩
  obtain⟨n,k,rest,a1,a2,a3⟩:=behB_some h4
  rw[List.drop_zero]at a1
  have hr:rest=[]:=by
   have:=congrArg List.length a1
   simp only[List.length_cons,List.length_append,Fo.flat_length]at this
   exact List.eq_nil_of_length_eq_zero (by omega)
  subst hr
  rw[List.append_nil]at a1
  have hk:n.kind=1:=by rw[a1]at h3;simpa using h3
  rw[a1]
  exact checkB_of hk a2 (by rw[a1]at h2;simpa [Fo.flat_length] using h2)
end Go.Proofs.YtfcfldmioonipaaGreatDoor
