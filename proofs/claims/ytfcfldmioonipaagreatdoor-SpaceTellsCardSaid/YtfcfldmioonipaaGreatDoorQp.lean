/-
 Texts joined: XOc,XOd,XOe,XOf,XOi,XOg,XOj,XOh,XOk,XOl.
-/
import Derived.Test.YtfcfldmioonipaaGreatDoorQl
import Derived.Test.YtfcfldmioonipaaGreatDoorQe
import Derived.Test.YtfcfldmioonipaaGreatDoorQi
import Derived.Test.YtfcfldmioonipaaGreatDoorQo
namespace Go.Proofs.YtfcfldmioonipaaGreatDoor
set_option maxRecDepth 100000
set_option maxHeartbeats 32000000
set_option linter.unusedSimpArgs false
set_option linter.unusedVariables false
open Go Go.RowKit Vm Go.Lib Tryz
open Vm renaming cond_bool→Ca,cond_bit→Cb
open And renaming intro→Ai
open List renaming length_map→Lm,not_mem_nil→Ln,map_nil→Lo,map_cons→Lc,mem_cons→Lk
open Bool renaming not_false→Bf,not_true→Bt
def Fo.rsv:Fo→KnT→Fo
 | .nil,_=>.nil
 | .cons n k r,K=>.cons (if n.kind=2 then n else (namU (knL K true n.attrs).1 n).1) (if n.kind=2 then .nil else k.rsv (knL K true n.attrs).1) (r.rsv K)
theorem Fo.rsv_size:∀(F:Fo) (K:KnT),(F.rsv K).size≤F.size
 | .nil,_=>Nat.le_refl _
 | .cons n k r,K=>by
  have h1:=k.rsv_size (knL K true n.attrs).1
  have h2:=r.rsv_size K
  simp only[Fo.rsv,Fo.size]
  split
  ·simp only[Fo.size];omega
  ·omega
theorem Fo.rsv_flat:∀(F:Fo) (K:KnT),(F.rsv K).flat=(F.res K).1
 | .nil,_=>rfl
 | .cons n k r,K=>by
  simp only[Fo.rsv,Fo.flat,Fo.res,r.rsv_flat K]
  by_cases hk:n.kind=2
  ·simp[hk,Fo.flat]
  ·simp[hk,k.rsv_flat (knL K true n.attrs).1]
def tsC (s:List UInt8):List V:=[.str s]
theorem plain_ts (l:List (List UInt8)):plainLL (l.map tsC)=true:=plainLL_map _ (fun _=>rfl) l
theorem indexts_ev (l:List (List UInt8))(s:List UInt8)(hn:l.length≤lim)(nm:Nat):Ev cx 50 nm [.sl false 1 (l.map tsC),.str s] Mem.nil (.int .i64 (idxI (l.findIdx? (· == s)))) []:=by
 unfold lim at hn
 refine ev_go rfl (fun cargs w=>call50 cargs w) func50 rfl mixed (by kernel_rfl) rfl ?_;intro b0 hb0
 repeat' first|simp only[fins,mems,results50,ntmps50,wks,vcs,seval,tys]|exact rfl|refine call_off (v:=.any) ?_|((first|apply Ca|apply Cb)<;>intro hb)|refine Ai (by omega) ?_|(apply Ai<;>intro hb)
 (refine loop_can2 cxG (fun x:Nat=>l.length-x) (fun x=>x≤l.length∧(l.take x).any (· == s)=false) (b0+16) (fun x=>[(0,.sl false 1 (l.map tsC)),(1,.str s),(7,.int .i64 l.length),(8,.int .i64 x)]) (fun x=>[]) (0) [] ?_ ?_ ?_ ?_;rotate_left 1;(focus (show b0≤_;omega));(focus (refine⟨?_,?_⟩<;>(try simp only[cans,Lm,plain_ts,vcs,seval,tys,injs])<;>(try omega)));rotate_left 1)
 ·exact⟨Nat.zero_le _,by simp⟩
 ·rintro k ⟨hk,hno⟩
  by_cases hlt:k<l.length
  ·obtain⟨h,hh⟩:∃ h,l[k]? = some h:=⟨_,List.getElem?_eq_getElem hlt⟩
   have hat:(l.map tsC)[k]? = some (tsC h):=by rw[List.getElem?_map,hh];rfl
   have hd:decide (k<l.length)=true:=decide_eq_true hlt
   have hwk:IntKind.i64.wrap ((k:Int)+1)=((k+1:Nat):Int):=wrap_in (by omega) (by omega)
   have hc:(s==h)=(h==s):=by rw[Bool.eq_iff_iff];simp;exact⟨Eq.symm,Eq.symm⟩
   cases hp:(h==s) with
   | true =>
    have hfd:=find_at2 (p:=(· == s)) hno hh hp
    rw[hp]at hc
    (repeat' first|simp only[fins,mems,results50,ntmps50,wks,hat,tsC,hlt,hd,hwk,hfd,hc,idxI_some,Lm,vcs,seval,tys]|exact rfl|refine call_off (v:=.any) ?_|((first|apply Ca|apply Cb)<;>intro hb)|refine Ai (by omega) ?_|(apply Ai<;>intro hb)|refine Fin.pure ?_ ?_ ?_|simp only[injs])
   | false =>
    have hn':=notany_succ (p:=(· == s)) hno hh hp
    rw[hp]at hc
    repeat' first|simp only[fins,mems,results50,ntmps50,wks,hat,tsC,hlt,hd,hwk,hc,Lm,vcs,seval,tys]|exact rfl|refine call_off (v:=.any) ?_|((first|apply Ca|apply Cb)<;>intro hb)|refine Ai (by omega) ?_|(apply Ai<;>intro hb)
    all_goals ((refine again_can2 cxG (k+1) [] ?_ ?_ ?_ ?_;rotate_left 2;(focus (show b0≤_;omega));(focus (refine⟨?_,?_⟩<;>(try simp only[cans,plain_ts,hwk,vcs,seval,tys,injs])<;>(try omega)))))
    all_goals (first|(show l.length-(k+1)<l.length-k;omega)|exact⟨hlt,hn'⟩|skip)
  ·have hke:k=l.length:=by omega
   subst hke
   rw[List.take_length]at hno
   have hfd:=find_none2 hno
   have hd:decide (l.length<l.length)=false:=decide_eq_false (by omega)
   (repeat' first|simp only[fins,mems,results50,ntmps50,wks,hd,hfd,idxI_none,Lm,vcs,seval,tys]|exact rfl|refine call_off (v:=.any) ?_|((first|apply Ca|apply Cb)<;>intro hb)|refine Ai (by omega) ?_|(apply Ai<;>intro hb)|refine Fin.pure ?_ ?_ ?_|simp only[injs])
theorem idx_neg (s:List UInt8)(d:UInt8):decide ((0:Int)≤indexByte s d)=s.contains d:=by
 cases h:cut1 d s with
 | none =>
  rw[index1_none.2 h]
  cases hc:s.contains d with
  | false=>rfl
  | true=>exact absurd (List.contains_iff_mem.1 hc) (cut1_none.1 h)
 | some p =>
  obtain⟨a,b⟩:=p
  have:=(index1_some h).1
  rw[this,decide_eq_true (by omega),List.contains_iff_mem.2 (by rw[(cut1_some h).1];simp)]
theorem sidx_ev (s:List UInt8)(d:UInt8)(nm:Nat):Ev cx 61 nm [.str s,.str [d]] Mem.nil (.int .i64 (indexByte s d)) []:=by
 refine ev_go rfl (fun cargs w=>call61 cargs w) func61 rfl mixed (by kernel_rfl) rfl ?_;intro b0 hb0
 (repeat' first|simp only[fins,mems,results61,ntmps61,wks,vcs,seval,tys]|exact rfl|refine call_off (v:=.any) ?_|(first|(refine call_fn ?_ (index1_ev s d _) ?_)|(refine call_fn_g ?_ (fun _=>index1_ev s d _) ?_))|((first|apply Ca|apply Cb)<;>intro hb)|refine Ai (by omega) ?_|(apply Ai<;>intro hb)|refine Fin.pure ?_ ?_ ?_|simp only[injs])
theorem contains_ev (s:List UInt8)(d:UInt8)(nm:Nat):Ev cx 44 nm [.str s,.str [d]] Mem.nil (.bool (s.contains d)) []:=by
 rw[← idx_neg]
 refine ev_go rfl (fun cargs w=>call44 cargs w) func44 rfl mixed (by kernel_rfl) rfl ?_;intro b0 hb0
 (repeat' first|simp only[fins,mems,results44,ntmps44,wks,vcs,seval,tys]|exact rfl|refine call_off (v:=.any) ?_|(first|(refine call_fn ?_ (sidx_ev s d _) ?_)|(refine call_fn_g ?_ (fun _=>sidx_ev s d _) ?_))|((first|apply Ca|apply Cb)<;>intro hb)|refine Ai (by omega) ?_|(apply Ai<;>intro hb)|refine Fin.pure ?_ ?_ ?_|simp only[injs])
def knV (K:KnT):List (V×V):=K.map fun p=>(.str p.1,.agg [.str p.2])
theorem knM:mapT cx.P 45=some (9,48):=by kernel_rfl
theorem knB:mapB cx.P 45=true:=by kernel_rfl
theorem knS:solidT cx.P 45=true:=by kernel_rfl
theorem find_kn (p:List UInt8):∀(K:KnT),findV (.str p) (knV K)=some ((getK p K).map fun v=>.agg [.str v])
 | []=>rfl
 | q::r=>by
  have ih:=find_kn p r
  simp only[knV,Lc]at ih ⊢
  simp only[findV,sameV,getK]
  cases h:(p==q.1) with
  | true=>simp
  | false=>simpa using ih
theorem put_kn (p v:List UInt8):∀(K:KnT),putV (.str p) (.agg [.str v]) (knV K)=knV (putK p v K)
 | []=>rfl
 | q::r=>by
  have ih:=put_kn p v r
  simp only[knV,Lc]at ih ⊢
  simp only[putV,sameV,putK]
  cases h:(p==q.1) with
  | true=>simp
  | false=>simpa using ih
theorem mclone_ev (y:Nat)(K:KnT)(M:Mem)(nm:Nat)(hM:M y=some (mapK (knV K)))(ho:∀ z,(M z).isSome=true→z∈[y])(hlt:y<nm):Ev cx 18 nm [.mp y] M (.mp nm) [(y,some (mapK (knV K))),(nm,some (mapK (knV K)))]:=by
 have hc:=fun (M':Mem) (m:Nat) (h1:M' y=some (mapK (knV K))) h2 h3=>Ev.clone (cx:=cx) func41 (by kernel_rfl) (by kernel_rfl) (by kernel_rfl) (by kernel_rfl) 45 y (knV K) M' m h1 h2 h3
 refine ev_go rfl (fun cargs w=>call18 cargs w) func18 rfl mixed (by kernel_rfl) rfl ?_;intro b0 hb0
 have k1:y<b0:=below_of hb0 (by rw[hM];rfl)
 have z0:=lt_ne k1;have z1:=lt_ne_add k1;have z2:=lt_ne' k1;have z3:=lt_ne_add' k1
 have g1:(nm=y)=False:=eq_false (by omega)
 repeat' first|simp only[fins,mems,results18,ntmps18,wks,knB,hM,z0,z1,z2,z3,fresh_self,vcs,seval,tys]|exact rfl|refine call_off (v:=.any) ?_|(refine call_fn_full ?_ [y] (hc _ _ ?_ only_mem (by omega)) ?_ ?_)|(refine ext_iface rfl (by kernel_rfl) ?_)|(refine ext_assert (u:=?_) ?_ knS ?_)|((first|apply Ca|apply Cb)<;>intro hb)|refine Ai (by omega) ?_|(apply Ai<;>intro hb)
 all_goals ((refine Fin.give [(y,none),(b0+80,some 0)] [] ?_ ?_ ?_ ?_ ?_ (fun q hq=>by have hqq:=ho q hq;first|(simp only[gives,tgt,Lc,Lo,Lk,Ln,or_false]at hqq ⊢;omega)|(simp only[gives,tgt,Lc,Lo,Lk,Ln,or_false]at hqq))<;>(try simp only[results18,ntmps18,wks,hM,z0,z1,z2,z3,g1,ren_map,renOk_map,giv,vcs,seval,tys])<;>(try simp only[injs])<;>(try omega)))
theorem at_snoc (l:List At)(a:At):l.map atC++[[.str a.space,.str a.name,.str a.value]]=(l++[a]).map atC:=by simp[atC]
theorem ts_snoc (l:List (List UInt8))(a:List UInt8):l.map tsC++[[.str a]]=(l++[a]).map tsC:=by simp[tsC]
theorem tak_at (l:List At):(l.map atC).take l.length=l.map atC:=take_map_len _ _
theorem tak_ts (l:List (List UInt8)):(l.map tsC).take l.length=l.map tsC:=take_map_len _ _
theorem map_take_snoc {f:At→At}{l:List At}{k:Nat}{a:At}(h:l[k]? = some a):(l.take (k+1)).map f=(l.take k).map f++[f a]:=by
 obtain⟨hk,rfl⟩:=List.getElem?_eq_some_iff.1 h
 rw[List.take_succ_eq_append_getElem hk,List.map_append];rfl
theorem seenL_nil:seenL []=[]:=rfl
def toldA (n:Nd)(sp:List UInt8)(k:Nat):List At:=hdU n sp++decsU (seenL (n.attrs.take k))
def toldR (n:Nd)(k:Nat):List At:=(n.attrs.take k).map (relU (seenL n.attrs))
theorem toldA_len (n:Nd)(sp:List UInt8)(k:Nat):(toldA n sp k).length≤1+n.attrs.length:=by
 have h1:=seenL_len (n.attrs.take k)
 have h2:(hdU n sp).length≤1:=by unfold hdU;split<;>simp
 unfold toldA
 rw[List.length_append,decs_len]
 simp only[List.length_take]at h1
 omega
theorem toldR_len (n:Nd){k:Nat}(hk:k≤n.attrs.length):(toldR n k).length=k:=by unfold toldR;rw[Lm,List.length_take];omega
theorem told_own (n:Nd)(sp:List UInt8)(hn:n.attrs.length≤16)(hl:∀ a∈n.attrs,a.name.length≤1000000)(nm:Nat):Ev cx 28 nm [.agg (ndC n),.str sp] Mem.nil (.agg [.int .u8 n.kind,.str [],.str n.name,.own nm 0 (toldU n sp).attrs.length,.str [],.int .i64 n.many]) [(nm,some ⟨3,(toldU n sp).attrs.map atC⟩)]:=by
  have hall:(toldU n sp).attrs=toldA n sp n.attrs.length++toldR n n.attrs.length:=by unfold toldU toldA toldR;rw[List.take_length]
  rw[hall]
  have hS0:seenL (n.attrs.take 0)=[]:=by simp[seenL]
  have hR0:toldR n 0=[]:=by simp[toldR]
  rcases Bool.eq_false_or_eq_true (n.space==sp) with he|he
  focus
    have hA0:toldA n sp 0=[]:=by unfold toldA hdU;simp[he,seenL,decsU]
    refine ev_go rfl (fun cargs w=>call28 cargs w) func28 rfl mixed (by kernel_rfl) rfl ?_;intro b0 hb0
    repeat' first|simp only[fins,mems,results28,ntmps28,wks,ndC,he,Bt,Bf,plain_at,Lm,vcs,seval,tys]|exact rfl|refine call_off (v:=.any) ?_|refine draw_end' (ps:=[(1,4),(4,7),(1,9)]) (by decide +kernel) (by simp only[List.forall_mem_cons,List.getD_cons_zero,List.getD_cons_succ,results28,ntmps28,wks,ndC,he,Bt,Bf,plain_at,Lm,vcs,seval,tys]<;>(try simp)<;>(try omega)) ?_|refine draw_end (by decide +kernel) ?_|((first|apply Ca|apply Cb)<;>intro hb)|refine Ai (by omega) ?_|(apply Ai<;>intro hb)
    (refine loop_can2 cxG (fun x:Nat=>n.attrs.length-x) (fun x=>x≤n.attrs.length) (b0+16) (fun x=>[(4,.ptr b0 0 0),(5,.ptr (b0+1) 0 0),(6,.own (b0+3) 0 (seenL (n.attrs.take x)).length),(7,.own (b0+4) 0 (toldR n x).length),(33,.sl false 3 (n.attrs.map atC)),(34,.int .i64 n.attrs.length),(35,.int .i64 x)]) (fun x=>[(b0,⟨6,[[.int .u8 0,.str [],.str [],.nils,.str [],.int .i64 0]]⟩),(b0+1,⟨6,[[.int .u8 n.kind,.str [],.str n.name,.own (b0+2) 0 (toldA n sp x).length,.str [],.int .i64 n.many]]⟩),(b0+2,⟨3,(toldA n sp x).map atC⟩),(b0+3,⟨1,(seenL (n.attrs.take x)).map tsC⟩),(b0+4,⟨3,(toldR n x).map atC⟩)]) (0) [some (b0+16),some (b0+144),none,none,none] ?_ ?_ ?_ ?_;rotate_left 1;(focus (show b0≤_;omega));(focus (refine⟨?_,?_⟩<;>(try simp only[cans,hA0,hS0,hR0,seenL_nil,List.take_zero,isRow_inst,atC,plain_at,plain_ts,Lc,Lo,List.length_cons,List.length_nil,Lm,vcs,seval,tys,injs])<;>(try omega)));rotate_left 1)
  rotate_left 2
  focus
    have hA0:toldA n sp 0=[⟨[],[120,109,108,110,115],n.space⟩]:=by unfold toldA hdU;simp[he,seenL,decsU]
    refine ev_go rfl (fun cargs w=>call28 cargs w) func28 rfl mixed (by kernel_rfl) rfl ?_;intro b0 hb0
    repeat' first|simp only[fins,mems,results28,ntmps28,wks,ndC,he,Bt,Bf,plain_at,Lm,vcs,seval,tys]|exact rfl|refine call_off (v:=.any) ?_|refine draw_end' (ps:=[(1,4),(4,7),(1,9)]) (by decide +kernel) (by simp only[List.forall_mem_cons,List.getD_cons_zero,List.getD_cons_succ,results28,ntmps28,wks,ndC,he,Bt,Bf,plain_at,Lm,vcs,seval,tys]<;>(try simp)<;>(try omega)) ?_|refine draw_end (by decide +kernel) ?_|((first|apply Ca|apply Cb)<;>intro hb)|refine Ai (by omega) ?_|(apply Ai<;>intro hb)
    (refine loop_can2 cxG (fun x:Nat=>n.attrs.length-x) (fun x=>x≤n.attrs.length) (b0+16) (fun x=>[(4,.ptr b0 0 0),(5,.ptr (b0+1) 0 0),(6,.own (b0+3) 0 (seenL (n.attrs.take x)).length),(7,.own (b0+4) 0 (toldR n x).length),(33,.sl false 3 (n.attrs.map atC)),(34,.int .i64 n.attrs.length),(35,.int .i64 x)]) (fun x=>[(b0,⟨6,[[.int .u8 0,.str [],.str [],.nils,.str [],.int .i64 0]]⟩),(b0+1,⟨6,[[.int .u8 n.kind,.str [],.str n.name,.own (b0+2) 0 (toldA n sp x).length,.str [],.int .i64 n.many]]⟩),(b0+2,⟨3,(toldA n sp x).map atC⟩),(b0+3,⟨1,(seenL (n.attrs.take x)).map tsC⟩),(b0+4,⟨3,(toldR n x).map atC⟩)]) (0) [some (b0+16),some (b0+144),some (b0+336),none,none] ?_ ?_ ?_ ?_;rotate_left 1;(focus (show b0≤_;omega));(focus (refine⟨?_,?_⟩<;>(try simp only[cans,hA0,hS0,hR0,seenL_nil,List.take_zero,isRow_inst,atC,plain_at,plain_ts,Lc,Lo,List.length_cons,List.length_nil,Lm,vcs,seval,tys,injs])<;>(try omega)));rotate_left 1)
  all_goals (first|exact Nat.zero_le _|skip)
  all_goals
    intro k hk
    by_cases hlt:k<n.attrs.length
    · obtain ⟨a,ha⟩:∃ a,n.attrs[k]? = some a:=⟨_,List.getElem?_eq_getElem hlt⟩
      have hat:=at_at ha
      have d1:decide ((k:Int)<(n.attrs.length:Int))=true:=decide_eq_true (by omega)
      have d2:decide (k<n.attrs.length)=true:=decide_eq_true hlt
      have hwk:IntKind.i64.wrap ((k:Int)+1)=((k+1:Nat):Int):=wrap_in (by omega) (by omega)
      have hAl:=toldA_len n sp k
      have hRl:=toldR_len n hk
      have hRl1:=toldR_len n (k:=k+1) hlt
      have hSl:=seenL_len (n.attrs.take k)
      rw[List.length_take]at hSl
      have hS1:=seenL_take ha
      have hR1:toldR n (k+1)=toldR n k++[relU (seenL n.attrs) a]:=map_take_snoc ha
      have hA1:toldA n sp (k+1)=hdU n sp++decsU (seenL (n.attrs.take (k+1))):=rfl
      have htk:((toldR n k).map atC).take k=(toldR n k).map atC:=List.take_of_length_le (by rw[Lm];omega)
      have hna:=hl a (List.mem_of_getElem? ha)
      have hpre:=seenL_pre n.attrs (k+1)
      cases h0:(a.space==[]) with
      | true =>
        have hrel:relU (seenL n.attrs) a=⟨[],a.name,a.value⟩:=by unfold relU;rw[h0];rfl
        have hS2:seenL (n.attrs.take (k+1))=seenL (n.attrs.take k):=by rw[hS1];unfold seenF;rw[if_pos h0]
        have hA2:toldA n sp (k+1)=toldA n sp k:=by unfold toldA;rw[hS2]
        have hsn:(toldR n k).map atC++[[.str [],.str a.name,.str a.value]]=(toldR n (k+1)).map atC:=by rw[hR1,hrel];exact at_snoc (toldR n k) ⟨[],a.name,a.value⟩
        repeat' first|simp only[fins,mems,results28,ntmps28,wks,hat,atC,hlt,d1,d2,h0,hwk,hRl,htk,hsn,Bt,Bf,plain_at,plain_ts,Lm,vcs,seval,tys]|exact rfl|refine call_off (v:=.any) ?_|refine draw_end' (ps:=[(1,4),(4,7),(1,9)]) (by decide +kernel) (by simp only[List.forall_mem_cons,List.getD_cons_zero,List.getD_cons_succ,results28,ntmps28,wks,hat,atC,hlt,d1,d2,h0,hwk,hRl,htk,hsn,Bt,Bf,plain_at,plain_ts,Lm,vcs,seval,tys]<;>(try simp)<;>(try omega)) ?_|refine draw_end (by decide +kernel) ?_|((first|apply Ca|apply Cb)<;>intro hb)|refine Ai (by omega) ?_|(apply Ai<;>intro hb)
        all_goals ((refine again_can2 cxG (k+1) [some b0,some (b0+1),some (b0+2),some (b0+3),some (b0+304)] ?_ ?_ ?_ ?_;rotate_left 2;(focus (show b0≤_;omega));(focus (refine⟨?_,?_⟩<;>(try simp only[cans,hS2,hA2,hRl1,hwk,plain_at,plain_ts,Lm,vcs,seval,tys,injs])<;>(try omega)))))
        all_goals (first|(show n.attrs.length-(k+1)<n.attrs.length-k;omega)|exact hlt|skip)
      | false =>
        have hxl:(a.space==xmlU)=(a.space==[104,116,116,112,58,47,47,119,119,119,46,119,51,46,111,114,103,47,88,77,76,47,49,57,57,56,47,110,97,109,101,115,112,97,99,101]):=rfl
        have h0':¬(a.space==[])=true:=by rw[h0];decide
        have hrel:relU (seenL n.attrs) a=⟨[],preU (seenL n.attrs) a.space++58::a.name,a.value⟩:=by unfold relU;rw[if_neg h0']
        have hsn0:∀ p:List UInt8,preU (seenL n.attrs) a.space=p→(toldR n k).map atC++[[.str [],.str (p++[58]++a.name),.str a.value]]=(toldR n (k+1)).map atC:=fun p hp=>by
          rw[hR1,hrel,hp,show p++[58]++a.name=p++58::a.name by simp];exact at_snoc (toldR n k) ⟨[],p++58::a.name,a.value⟩
        cases hx:(a.space==xmlU) with
        | true =>
          have hS2:seenL (n.attrs.take (k+1))=seenL (n.attrs.take k):=by rw[hS1];unfold seenF;rw[if_neg h0',if_pos hx]
          have hA2:toldA n sp (k+1)=toldA n sp k:=by unfold toldA;rw[hS2]
          have hsn:=hsn0 [120,109,108] (by unfold preU;rw[if_pos hx])
          simp only[List.cons_append,List.nil_append]at hsn
          rw[hx]at hxl
          repeat' first|simp only[fins,mems,results28,ntmps28,wks,hat,atC,hlt,d1,d2,h0,hxl.symm,hwk,hRl,htk,hsn,Bt,Bf,plain_at,plain_ts,List.length_append,List.length_cons,List.length_nil,Lm,vcs,seval,tys]|exact rfl|refine call_off (v:=.any) ?_|refine draw_end' (ps:=[(1,4),(4,7),(1,9)]) (by decide +kernel) (by simp only[List.forall_mem_cons,List.getD_cons_zero,List.getD_cons_succ,results28,ntmps28,wks,hat,atC,hlt,d1,d2,h0,hxl.symm,hwk,hRl,htk,hsn,Bt,Bf,plain_at,plain_ts,List.length_append,List.length_cons,List.length_nil,Lm,vcs,seval,tys]<;>(try simp)<;>(try omega)) ?_|refine draw_end (by decide +kernel) ?_|((first|apply Ca|apply Cb)<;>intro hb)|refine Ai (by omega) ?_|(apply Ai<;>intro hb)
          all_goals ((refine again_can2 cxG (k+1) [some b0,some (b0+1),some (b0+2),some (b0+3),some (b0+480)] ?_ ?_ ?_ ?_;rotate_left 2;(focus (show b0≤_;omega));(focus (refine⟨?_,?_⟩<;>(try simp only[cans,hS2,hA2,hRl1,hwk,plain_at,plain_ts,Lm,vcs,seval,tys,injs])<;>(try omega)))))
          all_goals (first|(show n.attrs.length-(k+1)<n.attrs.length-k;omega)|exact hlt|skip)
        | false =>
          rw[hx]at hxl
          have hx':¬(a.space==xmlU)=true:=by rw[hx];decide
          have hix:=fun nm=>indexts_ev (seenL (n.attrs.take k)) a.space (by unfold lim;omega) nm
          have hSF:=seenL_pre n.attrs k
          cases hf:(seenL (n.attrs.take k)).findIdx? (· == a.space) with
          | some j =>
            have hj:j<(seenL (n.attrs.take k)).length:=(List.findIdx?_eq_some_iff_getElem.1 hf).1
            have hS2:seenL (n.attrs.take (k+1))=seenL (n.attrs.take k):=by rw[hS1];unfold seenF;rw[if_neg h0',if_neg hx',if_pos (cont_some hf)]
            have hA2:toldA n sp (k+1)=toldA n sp k:=by unfold toldA;rw[hS2]
            have hsn:=hsn0 (110::itoaU (j+1)) (by unfold preU;rw[if_neg hx',ix_of hSF hf])
            simp only[List.cons_append,List.append_assoc,List.nil_append]at hsn
            have hil:=itoa_small (j+1) (by omega)
            have hit:=fun nm=>itoa_ev (j+1) (by omega) nm
            have e1:decide ((j:Int)<0)=false:=decide_eq_false (by omega)
            have e2:IntKind.i64.wrap ((j:Int)+1)=((j+1:Nat):Int):=wrap_in (by omega) (by omega)
            rw[hf,idxI_some]at hix
            repeat' first|simp only[fins,mems,results28,ntmps28,wks,hat,atC,hlt,d1,d2,h0,hxl.symm,hwk,hRl,htk,hsn,e1,e2,tak_ts,Bt,Bf,plain_at,plain_ts,List.append_assoc,List.length_append,List.length_cons,List.length_nil,Lm,vcs,seval,tys]|exact rfl|refine call_off (v:=.any) ?_|(first|(refine call_fn ?_ (hit _) ?_)|(refine call_fn_g ?_ (fun _=>hit _) ?_))|((refine call_fn_vx (xs:=?_) [b0+3] ?_ ?_ ?_ rfl (hix _) ?_);rotate_left 1)|omega|refine draw_end' (ps:=[(1,4),(4,7),(1,9)]) (by decide +kernel) (by simp only[List.forall_mem_cons,List.getD_cons_zero,List.getD_cons_succ,results28,ntmps28,wks,hat,atC,hlt,d1,d2,h0,hxl.symm,hwk,hRl,htk,hsn,e1,e2,tak_ts,Bt,Bf,plain_at,plain_ts,List.append_assoc,List.length_append,List.length_cons,List.length_nil,Lm,vcs,seval,tys]<;>(try simp)<;>(try omega)) ?_|refine draw_end (by decide +kernel) ?_|((first|apply Ca|apply Cb)<;>intro hb)|refine Ai (by omega) ?_|(apply Ai<;>intro hb)
            all_goals ((refine again_can2 cxG (k+1) [some b0,some (b0+1),some (b0+2),some (b0+3),some (b0+672)] ?_ ?_ ?_ ?_;rotate_left 2;(focus (show b0≤_;omega));(focus (refine⟨?_,?_⟩<;>(try simp only[cans,hS2,hA2,hRl1,hwk,plain_at,plain_ts,Lm,vcs,seval,tys,injs])<;>(try omega)))))
            all_goals (first|(show n.attrs.length-(k+1)<n.attrs.length-k;omega)|exact hlt|skip)
          | none =>
            have hS2:seenL (n.attrs.take (k+1))=seenL (n.attrs.take k)++[a.space]:=by rw[hS1];unfold seenF;rw[if_neg h0',if_neg hx',if_neg (by rw[cont_none hf];decide)]
            have hpre:=seenL_pre n.attrs (k+1)
            have hsn:=hsn0 (110::itoaU ((seenL (n.attrs.take k)).length+1)) (by
              rw[hS2]at hpre
              unfold preU;rw[if_neg hx',ix_of hpre (find_snoc hf)])
            have hA2:toldA n sp (k+1)=toldA n sp k++[decU (seenL (n.attrs.take k)).length a.space]:=by unfold toldA;rw[hS2,decs_snoc,List.append_assoc]
            have hAs:(toldA n sp k).map atC++[[.str [],.str ([120,109,108,110,115,58,110]++itoaU ((seenL (n.attrs.take k)).length+1)),.str a.space]]=(toldA n sp (k+1)).map atC:=by rw[hA2];exact at_snoc (toldA n sp k) (decU _ _)
            have hA3:(toldA n sp k).length+1=(toldA n sp (k+1)).length:=by rw[hA2,List.length_append];rfl
            have hSs:(seenL (n.attrs.take k)).map tsC++[[.str a.space]]=(seenL (n.attrs.take (k+1))).map tsC:=by rw[hS2];exact ts_snoc _ _
            have hS3:(seenL (n.attrs.take k)).length+1=(seenL (n.attrs.take (k+1))).length:=by rw[hS2,List.length_append];rfl
            simp only[List.cons_append,List.append_assoc,List.nil_append]at hsn hAs
            generalize hJ:(seenL (n.attrs.take k)).length=j at hsn hAs hS3 hSl hA2
            have hil:=itoa_small (j+1) (by omega)
            have hit:=fun nm=>itoa_ev (j+1) (by omega) nm
            have e1:decide ((-1:Int)<0)=true:=rfl
            have e2:IntKind.i64.wrap ((j:Int)+1)=((j+1:Nat):Int):=wrap_in (by omega) (by omega)
            have htj:((seenL (n.attrs.take k)).map tsC).take j=(seenL (n.attrs.take k)).map tsC:=List.take_of_length_le (by rw[Lm];omega)
            rw[hf,idxI_none]at hix
            repeat' first|simp only[fins,mems,results28,ntmps28,wks,hat,atC,hlt,d1,d2,h0,hxl.symm,hwk,hRl,htk,hsn,hAs,hSs,hJ,e1,e2,htj,tak_at,Bt,Bf,plain_at,plain_ts,List.append_assoc,List.length_append,List.length_cons,List.length_nil,Lm,vcs,seval,tys]|exact rfl|refine call_off (v:=.any) ?_|(first|(refine call_fn ?_ (hit _) ?_)|(refine call_fn_g ?_ (fun _=>hit _) ?_))|((refine call_fn_vx (xs:=?_) [b0+3] ?_ ?_ ?_ rfl (hix _) ?_);rotate_left 1)|omega|refine draw_end' (ps:=[(1,4),(4,7),(1,9)]) (by decide +kernel) (by simp only[List.forall_mem_cons,List.getD_cons_zero,List.getD_cons_succ,results28,ntmps28,wks,hat,atC,hlt,d1,d2,h0,hxl.symm,hwk,hRl,htk,hsn,hAs,hSs,hJ,e1,e2,htj,tak_at,Bt,Bf,plain_at,plain_ts,List.append_assoc,List.length_append,List.length_cons,List.length_nil,Lm,vcs,seval,tys]<;>(try simp)<;>(try omega)) ?_|refine draw_end (by decide +kernel) ?_|((first|apply Ca|apply Cb)<;>intro hb)|refine Ai (by omega) ?_|(apply Ai<;>intro hb)
            all_goals ((refine again_can2 cxG (k+1) [some b0,some (b0+1),some (b0+736),some (b0+544),some (b0+1024)] ?_ ?_ ?_ ?_;rotate_left 2;(focus (show b0≤_;omega));(focus (refine⟨?_,?_⟩<;>(try simp only[cans,hS3,hA3,hRl1,hwk,plain_at,plain_ts,Lm,vcs,seval,tys,injs])<;>(try omega)))))
            all_goals (first|(show n.attrs.length-(k+1)<n.attrs.length-k;omega)|exact hlt|skip)
    · have hke:k=n.attrs.length:=by omega
      subst hke
      have d1:decide ((n.attrs.length:Int)<(n.attrs.length:Int))=false:=decide_eq_false (by omega)
      have d2:decide (n.attrs.length<n.attrs.length)=false:=decide_eq_false (by omega)
      have hAl:=toldA_len n sp n.attrs.length
      have hRl:=toldR_len n (Nat.le_refl n.attrs.length)
      have htk:((toldR n n.attrs.length).map atC).take n.attrs.length=(toldR n n.attrs.length).map atC:=List.take_of_length_le (by rw[Lm];omega)
      have hsn:(toldA n sp n.attrs.length).map atC++(toldR n n.attrs.length).map atC=(toldA n sp n.attrs.length++toldR n n.attrs.length).map atC:=by rw[List.map_append]
      have hlen:(toldA n sp n.attrs.length++toldR n n.attrs.length).length=(toldA n sp n.attrs.length).length+n.attrs.length:=by rw[List.length_append,hRl]
      ((repeat' first|simp only[fins,mems,results28,ntmps28,wks,d1,d2,hRl,htk,hsn,hlen,one_atL,tak_at,plain_at,plain_ts,Lm,vcs,seval,tys]|exact rfl|refine call_off (v:=.any) ?_|refine draw_end' (ps:=[(1,4),(4,7),(1,9)]) (by decide +kernel) (by simp only[List.forall_mem_cons,List.getD_cons_zero,List.getD_cons_succ,results28,ntmps28,wks,d1,d2,hRl,htk,hsn,hlen,one_atL,tak_at,plain_at,plain_ts,Lm,vcs,seval,tys]<;>(try simp)<;>(try omega)) ?_|refine draw_end (by decide +kernel) ?_|((first|apply Ca|apply Cb)<;>intro hb)|refine Ai (by omega) ?_|(apply Ai<;>intro hb));(all_goals (first|(refine Fin.auto (r:=?_) (l:=?_) ?_ ?_ ?_ ?_ ?_ ?_ ?_;rotate_left 1;(simp only[results28,ntmps28,envL_cons,envL_nil,memL_cons,memL_nil,d1,d2,hRl,htk,hsn,hlen,one_atL,tak_at,plain_at,plain_ts,Lm,vcs,seval,tys]);(exact rfl);rotate_left 1;(simp only[V.owns,ownsL,List.cons_append,List.nil_append]);(exact rfl);all_goals (try simp only[results28,ntmps28,envL_cons,envL_nil,memL_cons,memL_nil,d1,d2,hRl,htk,hsn,hlen,one_atL,tak_at,plain_at,plain_ts,Lm,ownx,vcs,seval,tys]);all_goals (try simp only[injs]))|skip)))
theorem knZ0:zeroOf cx.P 48=some (.agg #[.string ⟨#[]⟩]):=by kernel_rfl
theorem knK (p:List UInt8):keyKind cx.P 9 (.str p)=true:=by kernel_rfl
section
variable {Q:Post} {st:List Frm} {nm:Nat} {e:Env} {M:Mem} {d:Bool} {fs:List (List Nat)} {ops r:List Oper} {dst:Option Tmp} {t:TypeId} {pos:String} {af:Array Edge} {gd:Option (Nat×Bool)} {i:Nat}
theorem lookup_kn {m k:Operand}(y:Nat)(K:KnT){p:List UInt8}(hm:evalV cx.G true e m = .mp y)(hM:M y=some (mapK (knV K)))(hk:evalV cx.G true e k = .str p)
  (h:goOps cx Q st nm (e.putD dst (.tup [.agg [.str ((getK p K).getD [])],.bool (getK p K).isSome])) M d (fs++[[y]]) ops r (i+1)):goExt cx Q st nm e M d fs ops ⟨dst,.lookup 45 m k true,t,pos,af,gd⟩ r i:=by
 refine ext_lookup hm hM hk knM (knK p) rfl knZ0 (find_kn p K) (fun v hv=>?_) ?_
 ·obtain⟨x,_,rfl⟩:=Option.map_eq_some_iff.1 hv;rfl
 ·rw[gotV_true,Option.isSome_map]
  cases hg:getK p K with
  | none=>rw[hg]at h;exact h
  | some v=>rw[hg]at h;exact h
end
theorem app_same {M:Mem}{q:Nat}{k:Blk}(h:M q=some k)(eff:List (Nat×Option Blk)):M.app ((q,some k)::eff)=M.app eff:=by
 have:M.put q (some k)=M:=by
  funext x
  by_cases e:x=q
  ·subst e;rw[Mem.put_same,h]
  ·rw[Mem.put_ne _ _ e]
 show(M.put q (some k)).app eff=_
 rw[this]
theorem nmL_take {K:KnT}{r:Bool}{l:List At}{k:Nat}{a:At}(h:l[k]? = some a):nmL K r (l.take (k+1))=nmF K (nmL K r (l.take k)) a:=by
 obtain⟨hk,rfl⟩:=List.getElem?_eq_some_iff.1 h
 unfold nmL
 rw[List.take_succ_eq_append_getElem hk,List.foldl_append];rfl
theorem nmL_len (K:KnT):∀(l:List At) (s:List At×Bool),(l.foldl (nmF K) s).1.length≤s.1.length+l.length
 | [],s=>by simp
 | a::l,s=>by
  have h1:=nmL_len K l (nmF K s a)
  have h2:(nmF K s a).1.length≤s.1.length+1:=by
   unfold nmF
   cases declO a.name with
   | some p=>simp only;omega
   | none=>simp
  simp only[List.foldl_cons,List.length_cons]
  omega
theorem named_own (n:Nd)(K:KnT)(hn:n.okTo 1000000)(ha16:n.attrs.length≤1000)(q:Nat)(M:Mem)(nm:Nat)(hM:M q=some (mapK (knV K)))(ho:∀ z,(M z).isSome=true→z∈[q])(hlt:q<nm) :
  Ev cx 21 nm [.agg (ndC n),.mp q] M (.tup [.agg [.int .u8 n.kind,.str (namU K n).1.space,.str (namU K n).1.name,.own nm 0 (namU K n).1.attrs.length,.str [],.int .i64 n.many],.bool (namU K n).2]) [(q,some (mapK (knV K))),(nm,some ⟨3,(namU K n).1.attrs.map atC⟩)]:=by
 have hsp:=fun nm=>split_ev n.name (by have:=hn.2.2.1;unfold lim;omega) nm
 have g1:(nm=q)=False:=eq_false (by omega)
 unfold namU
 generalize hP:splitU n.name=P at hsp ⊢
 simp only
 generalize hR0:(getK P.1 K).isSome=r0
 refine ev_go rfl (fun cargs w=>call21 cargs w) func21 rfl mixed (by kernel_rfl) rfl ?_;intro b0 hb0
 have k1:q<b0:=below_of hb0 (by rw[hM];rfl)
 have z0:=lt_ne k1;have z1:=lt_ne_add k1;have z2:=lt_ne' k1;have z3:=lt_ne_add' k1
 repeat' first|simp only[fins,mems,results21,ntmps21,wks,ndC,hM,hR0,z0,z1,z2,z3,plain_at,Lm,vcs,seval,tys]|exact rfl|refine call_off (v:=.any) ?_|(first|(refine call_fn ?_ (hsp _) ?_)|(refine call_fn_g ?_ (fun _=>hsp _) ?_))|(refine lookup_kn q K (p:=?_) ?_ ?_ ?_ ?_;rotate_left 1;iterate 3 (focus (simp only[results21,ntmps21,wks,ndC,hM,hR0,z0,z1,z2,z3,plain_at,Lm,vcs,seval,tys]<;>exact rfl)))|((first|apply Ca|apply Cb)<;>intro hb)|refine Ai (by omega) ?_|(apply Ai<;>intro hb)
 have hz0:(nmL K r0 [])=([],r0):=rfl
 (refine loop_can2 cxG (fun x:Nat=>n.attrs.length-x) (fun x=>x≤n.attrs.length) (b0+16) (fun x=>[(1,.mp q),(4,.ptr b0 0 0),(5,.bool (nmL K r0 (n.attrs.take x)).2),(38,.sl false 3 (n.attrs.map atC)),(39,.int .i64 n.attrs.length),(40,.int .i64 x)]) (fun x=>[(b0,⟨6,[[.int .u8 n.kind,.str ((getK P.1 K).getD []),.str P.2,.own (b0+1) 0 (nmL K r0 (n.attrs.take x)).1.length,.str [],.int .i64 n.many]]⟩),(b0+1,⟨3,(nmL K r0 (n.attrs.take x)).1.map atC⟩),(q,mapK (knV K))]) (0) [some (b0+16),none,some q] ?_ ?_ ?_ ?_;rotate_left 1;(focus (show b0≤_;omega));(focus (refine⟨?_,?_⟩<;>(try simp only[cans,hz0,hM,z0,z1,z2,z3,atC,plain_at,ren_map,renOk_map,isRow_inst,List.take_zero,Lo,List.length_nil,Lm,vcs,seval,tys,injs])<;>(try omega)));rotate_left 1)
 ·exact Nat.zero_le _
 ·intro k hk
  by_cases hlt:k<n.attrs.length
  ·obtain⟨a,ha⟩:∃ a,n.attrs[k]? = some a:=⟨_,List.getElem?_eq_getElem hlt⟩
   have hat:=at_at ha
   have hok:=hn.2.2.2.2 a (List.mem_of_getElem? ha)
   have d1:decide ((k:Int)<(n.attrs.length:Int))=true:=decide_eq_true (by omega)
   have d2:decide (k<n.attrs.length)=true:=decide_eq_true hlt
   have hwk:IntKind.i64.wrap ((k:Int)+1)=((k+1:Nat):Int):=wrap_in (by omega) (by omega)
   have hlen:(nmL K r0 (n.attrs.take k)).1.length≤1000:=by
    have:=nmL_len K (n.attrs.take k) ([],r0)
    unfold nmL;simp only[List.length_nil,List.length_take]at this;omega
   have hst:=nmL_take (K:=K) (r:=r0) ha
   have hde:=fun nm=>declares_ev a (by have:=hok.2.1;unfold lim;omega) nm
   rw[declU_eq]at hde
   unfold atC at hde
   generalize hA:nmL K r0 (n.attrs.take k)=acc at hst hlen
   obtain⟨acc,rk⟩:=acc
   dsimp only at hlen
   have htk:(acc.map atC).take acc.length=acc.map atC:=take_map_len _ _
   unfold nmF at hst
   cases hd:declO a.name with
   | some p =>
    rw[hd]at hst hde
    repeat' first|simp only[fins,mems,results21,ntmps21,wks,hat,atC,hlt,d1,d2,hwk,htk,hA,z0,z1,z2,z3,Option.isSome_some,Bt,Bf,plain_at,Lm,vcs,seval,tys]|exact rfl|refine call_off (v:=.any) ?_|(first|(refine call_fn ?_ (hde _) ?_)|(refine call_fn_g ?_ (fun _=>hde _) ?_))|((first|apply Ca|apply Cb)<;>intro hb)|refine Ai (by omega) ?_|(apply Ai<;>intro hb)
    all_goals ((refine again_can2 cxG (k+1) [some b0,some (b0+1),some q] ?_ ?_ ?_ ?_;rotate_left 2;(focus (show b0≤_;omega));(focus (refine⟨?_,?_⟩<;>(try simp only[cans,hst,hA,hwk,z0,z1,z2,z3,plain_at,ren_map,renOk_map,Lm,vcs,seval,tys,injs])<;>(try omega)))))
    all_goals (first|(show n.attrs.length-(k+1)<n.attrs.length-k;omega)|exact hlt|skip)
   | none =>
    rw[hd]at hst hde
    simp only at hst
    have hcn:=fun nm=>contains_ev a.name 58 nm
    cases hc:a.name.contains 58 with
    | false =>
     have hx:resAt K a=⟨[],a.name,a.value⟩:=by unfold resAt;rw[hc];rfl
     have hh:hasAt K a=true:=by unfold hasAt;rw[hc];rfl
     rw[hx,hh,Bool.and_true]at hst
     have hco:=fun nm=>containsat_ev acc 45 [.rp (atC ⟨[],a.name,a.value⟩)] (fun y=>twinAt y ⟨[],a.name,a.value⟩) (fun y _ nm=>named1_ev y _ nm) (by unfold lim;omega) rfl nm
     have hsn:=at_snoc acc ⟨[],a.name,a.value⟩
     rw[hc]at hcn
     generalize (acc.any fun y=>twinAt y ⟨[],a.name,a.value⟩)=tw at hst hco
     unfold atC at hco
     repeat' first|simp only[fins,mems,results21,ntmps21,wks,hat,atC,hlt,d1,d2,hwk,htk,hA,hsn,z0,z1,z2,z3,Option.isSome_none,Bt,Bf,plain_at,Lm,vcs,seval,tys]|exact rfl|refine call_off (v:=.any) ?_|(first|(refine call_fn ?_ (hde _) ?_)|(refine call_fn_g ?_ (fun _=>hde _) ?_)|(refine call_fn ?_ (hcn _) ?_)|(refine call_fn_g ?_ (fun _=>hcn _) ?_))|((refine call_fn_vx (xs:=?_) [b0+1,b0+304] ?_ ?_ ?_ rfl (hco _) ?_);rotate_left 1)|omega|((first|apply Ca|apply Cb)<;>intro hb)|refine Ai (by omega) ?_|(apply Ai<;>intro hb)
     all_goals ((refine again_can2 cxG (k+1) [some b0,some (b0+624),some q] ?_ ?_ ?_ ?_;rotate_left 2;(focus (show b0≤_;omega));(focus (refine⟨?_,?_⟩<;>(try simp only[cans,hst,hA,hwk,z0,z1,z2,z3,plain_at,ren_map,renOk_map,List.length_append,List.length_cons,List.length_nil,Lm,vcs,seval,tys,injs])<;>(try omega)))))
     all_goals (first|(show n.attrs.length-(k+1)<n.attrs.length-k;omega)|exact hlt|skip)
    | true =>
     have hs2:=fun nm=>split_ev a.name (by have:=hok.2.1;unfold lim;omega) nm
     have hx:resAt K a=⟨(getK (splitU a.name).1 K).getD [],(splitU a.name).2,a.value⟩:=by unfold resAt;rw[hc];rfl
     have hh:hasAt K a=(getK (splitU a.name).1 K).isSome:=by unfold hasAt;rw[hc];rfl
     rw[hx,hh]at hst
     generalize splitU a.name=S2 at hst hs2
     have hco:=fun nm=>containsat_ev acc 45 [.rp (atC ⟨(getK S2.1 K).getD [],S2.2,a.value⟩)] (fun y=>twinAt y ⟨(getK S2.1 K).getD [],S2.2,a.value⟩) (fun y _ nm=>named1_ev y _ nm) (by unfold lim;omega) rfl nm
     have hsn:=at_snoc acc ⟨(getK S2.1 K).getD [],S2.2,a.value⟩
     rw[hc]at hcn
     generalize (acc.any fun y=>twinAt y ⟨(getK S2.1 K).getD [],S2.2,a.value⟩)=tw at hst hco
     generalize hG2:(getK S2.1 K).isSome=g2 at hst
     unfold atC at hco
     repeat' first|simp only[fins,mems,results21,ntmps21,wks,hat,atC,hlt,d1,d2,hwk,htk,hA,hsn,hG2,z0,z1,z2,z3,Option.isSome_none,Bt,Bf,plain_at,Lm,vcs,seval,tys]|exact rfl|refine call_off (v:=.any) ?_|(first|(refine call_fn ?_ (hde _) ?_)|(refine call_fn_g ?_ (fun _=>hde _) ?_)|(refine call_fn ?_ (hcn _) ?_)|(refine call_fn_g ?_ (fun _=>hcn _) ?_)|(refine call_fn ?_ (hs2 _) ?_)|(refine call_fn_g ?_ (fun _=>hs2 _) ?_))|((refine call_fn_vx (xs:=?_) [b0+1,b0+304] ?_ ?_ ?_ rfl (hco _) ?_);rotate_left 1)|(refine lookup_kn q K (p:=?_) ?_ ?_ ?_ ?_;rotate_left 1;iterate 3 (focus (simp only[results21,ntmps21,wks,hat,atC,hlt,d1,d2,hwk,htk,hA,hsn,hG2,z0,z1,z2,z3,Option.isSome_none,Bt,Bf,plain_at,Lm,vcs,seval,tys]<;>exact rfl)))|omega|((first|apply Ca|apply Cb)<;>intro hb)|refine Ai (by omega) ?_|(apply Ai<;>intro hb)
     all_goals ((refine again_can2 cxG (k+1) [some b0,some (b0+1056),some q] ?_ ?_ ?_ ?_;rotate_left 2;(focus (show b0≤_;omega));(focus (refine⟨?_,?_⟩<;>(try simp only[cans,hst,hA,hwk,z0,z1,z2,z3,plain_at,ren_map,renOk_map,List.length_append,List.length_cons,List.length_nil,Lm,vcs,seval,tys,injs])<;>(try omega)))))
     all_goals (first|(show n.attrs.length-(k+1)<n.attrs.length-k;omega)|exact hlt|skip)
  ·have hke:k=n.attrs.length:=by omega
   subst hke
   have d1:decide ((n.attrs.length:Int)<(n.attrs.length:Int))=false:=decide_eq_false (by omega)
   have d2:decide (n.attrs.length<n.attrs.length)=false:=decide_eq_false (by omega)
   have htk:=tak_at (nmL K r0 n.attrs).1
   repeat' first|simp only[fins,mems,results21,ntmps21,wks,d1,d2,htk,z0,z1,z2,z3,List.take_length,plain_at,Lm,vcs,seval,tys]|exact rfl|refine call_off (v:=.any) ?_|((first|apply Ca|apply Cb)<;>intro hb)|refine Ai (by omega) ?_|(apply Ai<;>intro hb)
   all_goals ((refine Fin.give [(q,none),(b0+1,some 0)] [] ?_ ?_ ?_ ?_ ?_ (fun q hq=>by have hqq:=ho q hq;first|(simp only[gives,tgt,Lc,Lo,Lk,Ln,or_false]at hqq ⊢;omega)|(simp only[gives,tgt,Lc,Lo,Lk,Ln,or_false]at hqq))<;>(try simp only[results21,ntmps21,wks,hM,g1,z0,z1,z2,z3,ren_map,renOk_map,plain_at,Lm,giv,vcs,seval,tys])<;>(try simp only[injs])<;>(try omega)))
theorem mclone2_ev (y:Nat)(K:KnT)(M:Mem)(nm:Nat)(hM:M y=some (mapK (knV K)))(ho:∀ z,(M z).isSome=true→z∈[y])(hlt:y<nm):Ev cx 18 nm [.mp y] M (.mp nm) [(nm,some (mapK (knV K)))] :=
 (mclone_ev y K M nm hM ho hlt).eff_eq (app_same hM _)
def AllO (P:Nd→Fo→Prop):Fo→Prop
 | .nil=>True
 | .cons n k r=>P n k∧AllO P r
theorem nd_snoc (l:List Nd)(n:Nd):l.map ndC++[[.int .u8 n.kind,.str n.space,.str n.name,.sl false 3 (n.attrs.map atC),.str n.text,.int .i64 n.many]]=(l++[n]).map ndC:=by simp[ndC]
def bkC (v:List Nd)(ob pb:Nat):V:=.fn 27 [.rp [.sl false 6 (v.map ndC)],.ptr ob 0 0,.ptr pb 0 0]
def BareOk (v:List Nd)(ob pb:Nat)(n:Nd)(k:Fo):Prop :=
  ∀(p:Nat) (sp:List UInt8) (r:List Nd) (L:List Nd) (lk:Nat) (M:Mem) (nm:Nat),v.drop p=n::(k.flat++r)→L.length+k.size+1≤600 →
    ob≠lk→pb≠lk→M ob=some ⟨1,[[.own lk 0 L.length]]⟩→M lk=some ⟨6,L.map ndC⟩→M pb=some ⟨1,[[bkC v ob pb]]⟩→(∀ z,(M z).isSome=true→z∈[ob,lk,pb])→ob<nm→lk<nm→pb<nm →
    Ev cx 27 nm [.int .i64 p,.str sp,.rp [.sl false 6 (v.map ndC)],.ptr ob 0 0,.ptr pb 0 0] M (.int .i64 ((p+1+k.size:Nat):Int))
      [(lk,none),(ob,some ⟨1,[[.own nm 0 (L++(Fo.cons n k .nil).bare sp).length]]⟩),(pb,some ⟨1,[[bkC v ob pb]]⟩),(nm,some ⟨6,(L++(Fo.cons n k .nil).bare sp).map ndC⟩)]
theorem bare_text (v:List Nd)(hv:v.length≤512)(ob pb:Nat)(d1:ob≠pb)(n:Nd)(hk:n.kind=2):BareOk v ob pb n .nil:=by
 intro p sp r L lk M nm hvd hL e1 e2 hob hlk hpb ho l1 l2 l3
 obtain⟨hx,_,hp⟩:=drop_at hvd
 have hat:=nd_at hx
 have hpi:(p:Int)<(v.length:Int):=by omega
 have hkb:((n.kind:Int)==2)=true:=by rw[hk];rfl
 have hres:(Fo.cons n .nil .nil).bare sp=[n]:=by simp[Fo.bare,hk]
 have hw1:IntKind.i64.wrap ((p:Int)+1)=((p+1:Nat):Int):=wrap_in (by omega) (by omega)
 rw[hres]
 simp only[Fo.size,Nat.add_zero]at hL ⊢
 have hsn:=nd_snoc L n
 have hll:(L++[n]).length=L.length+1:=by simp
 rw[hll]
 have g1:(nm=ob)=False:=eq_false (by omega);have g2:(nm=pb)=False:=eq_false (by omega)
 unfold bkC at hpb ⊢
 have n1:=eq_false d1;have n2:=eq_false e1;have n3:=eq_false e2;have n4:=eq_false (Ne.symm d1);have n5:=eq_false (Ne.symm e1);have n6:=eq_false (Ne.symm e2)
 refine ev_go rfl (fun cargs w=>call27 cargs w) func27 rfl mixed (by kernel_rfl) rfl ?_;intro b0 hb0
 have k1:ob<b0:=below_of hb0 (by rw[hob];rfl)
 have k2:lk<b0:=below_of hb0 (by rw[hlk];rfl)
 have k3:pb<b0:=below_of hb0 (by rw[hpb];rfl)
 have z0:=lt_ne k1;have z1:=lt_ne_add k1;have z2:=lt_ne' k1;have z3:=lt_ne_add' k1
 have y0:=lt_ne k2;have y1:=lt_ne_add k2;have y2:=lt_ne' k2;have y3:=lt_ne_add' k2
 have x0:=lt_ne k3;have x1:=lt_ne_add k3;have x2:=lt_ne' k3;have x3:=lt_ne_add' k3
 repeat' first|simp only[fins,mems,results27,ntmps27,wks,hat,ndC,hkb,hp,hpi,hob,hlk,hpb,hw1,hsn,tak_nd,plain_nd,plain_at,n1,n2,n3,n4,n5,n6,z0,z1,z2,z3,y0,y1,y2,y3,x0,x1,x2,x3,Lm,vcs,seval,tys]|exact rfl|refine call_off (v:=.any) ?_|refine draw_end' (ps:=[(0,3),(0,4)]) (by decide +kernel) (by simp only[List.forall_mem_cons,List.getD_cons_zero,List.getD_cons_succ,results27,ntmps27,wks,hat,ndC,hkb,hp,hpi,hob,hlk,hpb,hw1,hsn,tak_nd,plain_nd,plain_at,n1,n2,n3,n4,n5,n6,z0,z1,z2,z3,y0,y1,y2,y3,x0,x1,x2,x3,Lm,vcs,seval,tys]<;>(try simp)<;>(try omega)) ?_|refine draw_end (by decide +kernel) ?_|((first|apply Ca|apply Cb)<;>intro hb)|refine Ai (by omega) ?_|(apply Ai<;>intro hb)
 all_goals ((refine Fin.give [(ob,none),(pb,none),(b0+208,some 0)] [lk] ?_ ?_ ?_ ?_ ?_ (fun q hq=>by have hqq:=ho q hq;first|(simp only[gives,tgt,Lc,Lo,Lk,Ln,or_false]at hqq ⊢;omega)|(simp only[gives,tgt,Lc,Lo,Lk,Ln,or_false]at hqq))<;>(try simp only[results27,ntmps27,wks,hob,hlk,hpb,g1,g2,plain_nd,n1,n2,n3,n4,n5,n6,z0,z1,z2,z3,y0,y1,y2,y3,x0,x1,x2,x3,Bool.and_self,Bool.and_false,Bool.false_and,Lm,giv,vcs,seval,tys])<;>(try simp only[injs])<;>(try omega)))
theorem Fo.cnt_size:∀(F:Fo),F.count≤F.size
 | .nil=>Nat.le_refl _
 | .cons _ k r=>by have:=r.cnt_size;simp only[Fo.count,Fo.size];omega
theorem Fo.bare_len:∀(F:Fo) (sp:List UInt8),(F.bare sp).length≤F.size
 | .nil,_=>Nat.le_refl _
 | .cons n k r,sp=>by
  have h1:=k.bare_len n.space;have h2:=r.bare_len sp
  simp only[Fo.bare,Fo.size,List.length_append]
  split
  ·simp only[List.length_cons,List.length_nil];omega
  ·simp only[List.length_cons];omega
structure BrSt where
 R:Fo
 c:Nat
 q:Nat
 L:List Nd
theorem apart {a b:Nat}(h:a≠b):((a=b)=False)∧((b=a)=False):=⟨eq_false h,eq_false (Ne.symm h)⟩
theorem under {a b0:Nat}(h:a<b0):((a=b0)=False)∧(∀ c,(a=b0+c)=False)∧((b0=a)=False)∧(∀ c,(b0+c=a)=False):=⟨lt_ne h,lt_ne_add h,lt_ne' h,lt_ne_add' h⟩
theorem knL_take {K:KnT}{r:Bool}{l:List At}{k:Nat}{a:At}(h:l[k]? = some a):knL K r (l.take (k+1))=knF (knL K r (l.take k)) a:=by
 obtain⟨hk,rfl⟩:=List.getElem?_eq_some_iff.1 h
 unfold knL
 rw[List.take_succ_eq_append_getElem hk,List.foldl_append];rfl
theorem knFold_b:∀(l:List At) (K:KnT) (b r:Bool),l.foldl knF (K,b&&r)=((l.foldl knF (K,r)).1,b&&(l.foldl knF (K,r)).2)
 | [],_,_,_=>rfl
 | a::l,K,b,r=>by
  rw[List.foldl_cons,List.foldl_cons]
  unfold knF
  cases declO a.name with
  | none=>exact knFold_b l K b r
  | some p=>simp only;rw[Bool.and_assoc];exact knFold_b l _ b _
theorem knL_b (K:KnT)(b:Bool)(l:List At):knL K b l=((knL K true l).1,b&&(knL K true l).2):=by
 have:=knFold_b l K b true
 rwa[Bool.and_true]at this
def rsC (v:List Nd)(ob rb pb:Nat):V:=.fn 17 [.rp [.sl false 6 (v.map ndC)],.ptr ob 0 0,.ptr rb 0 0,.ptr pb 0 0]
def ResOk (v:List Nd)(ob rb pb:Nat)(n:Nd)(k:Fo):Prop :=
  ∀(p:Nat) (K:KnT) (r:List Nd) (L:List Nd) (b:Bool) (lk mk:Nat) (M:Mem) (nm:Nat),v.drop p=n::(k.flat++r)→L.length+k.size+1≤600 →
    ob≠lk→rb≠lk→pb≠lk→mk≠lk→mk≠ob→mk≠rb→mk≠pb→M mk=some (mapK (knV K))→M rb=some ⟨1,[[.bool b]]⟩→M ob=some ⟨1,[[.own lk 0 L.length]]⟩→M lk=some ⟨6,L.map ndC⟩→M pb=some ⟨1,[[rsC v ob rb pb]]⟩ →
    (∀ z,(M z).isSome=true→z∈[mk,rb,ob,lk,pb])→mk<nm→rb<nm→ob<nm→lk<nm→pb<nm →
    Ev cx 17 nm [.int .i64 p,.mp mk,.rp [.sl false 6 (v.map ndC)],.ptr ob 0 0,.ptr rb 0 0,.ptr pb 0 0] M (.int .i64 ((p+1+k.size:Nat):Int))
      [(lk,none),(mk,some (mapK (knV K))),(rb,some ⟨1,[[.bool (b&&((Fo.cons n k .nil).res K).2)]]⟩),(ob,some ⟨1,[[.own nm 0 (L++((Fo.cons n k .nil).res K).1).length]]⟩),(pb,some ⟨1,[[rsC v ob rb pb]]⟩),(nm,some ⟨6,(L++((Fo.cons n k .nil).res K).1).map ndC⟩)]
theorem res_text (v:List Nd)(hv:v.length≤512)(ob rb pb:Nat)(d1:ob≠pb)(d2:ob≠rb)(d3:rb≠pb)(n:Nd)(hk:n.kind=2):ResOk v ob rb pb n .nil:=by
 intro p K r L b lk mk M nm hvd hL e1 e2 e3 e4 e5 e6 e7 hmk hrb hob hlk hpb ho l1 l2 l3 l4 l5
 obtain⟨hx,_,hp⟩:=drop_at hvd
 have hat:=nd_at hx
 have hpi:(p:Int)<(v.length:Int):=by omega
 have hkb:((n.kind:Int)==2)=true:=by rw[hk];rfl
 have hres:(Fo.cons n .nil .nil).res K=([n],true):=by simp[Fo.res,hk]
 have hw1:IntKind.i64.wrap ((p:Int)+1)=((p+1:Nat):Int):=wrap_in (by omega) (by omega)
 rw[hres]
 simp only[Fo.size,Nat.add_zero,Bool.and_true]at hL ⊢
 have hsn:=nd_snoc L n
 have hll:(L++[n]).length=L.length+1:=by simp
 rw[hll]
 have G:=Ai (apart (show nm≠ob by omega)) (Ai (apart (show nm≠pb by omega)) (Ai (apart (show nm≠rb by omega)) (apart (show nm≠mk by omega))))
 unfold rsC at hpb ⊢
 have Z:=Ai (apart d1) (Ai (apart d2) (Ai (apart d3) (Ai (apart e1) (Ai (apart e2) (Ai (apart e3) (Ai (apart e4) (Ai (apart e5) (Ai (apart e6) (apart e7)))))))))
 refine ev_go rfl (fun cargs w=>call17 cargs w) func17 rfl mixed (by kernel_rfl) rfl ?_;intro b0 hb0
 have U:=Ai (under (below_of hb0 (by rw[hob];rfl))) (Ai (under (below_of hb0 (by rw[hlk];rfl))) (Ai (under (below_of hb0 (by rw[hpb];rfl))) (Ai (under (below_of hb0 (by rw[hrb];rfl))) (under (below_of hb0 (by rw[hmk];rfl))))))
 repeat' first|simp only[fins,mems,results17,ntmps17,wks,hat,ndC,hkb,hp,hpi,hob,hlk,hpb,hrb,hmk,hw1,hsn,tak_nd,plain_nd,plain_at,Z,U,Lm,vcs,seval,tys]|exact rfl|refine call_off (v:=.any) ?_|((first|apply Ca|apply Cb)<;>intro hb)|refine Ai (by omega) ?_|(apply Ai<;>intro hb)
 all_goals ((refine Fin.give [(mk,none),(rb,none),(ob,none),(pb,none),(b0+208,some 0)] [lk] ?_ ?_ ?_ ?_ ?_ (fun q hq=>by have hqq:=ho q hq;first|(simp only[gives,tgt,Lc,Lo,Lk,Ln,or_false]at hqq ⊢;omega)|(simp only[gives,tgt,Lc,Lo,Lk,Ln,or_false]at hqq))<;>(try simp only[results17,ntmps17,wks,hob,hlk,hpb,hrb,hmk,G,Z,U,plain_nd,ren_map,renOk_map,Bool.and_self,Bool.and_false,Bool.false_and,Lm,giv,vcs,seval,tys])<;>(try simp only[injs])<;>(try omega)))
structure ReSt where
 R:Fo
 c:Nat
 q:Nat
 L:List Nd
 b:Bool
theorem Fo.res_len:∀(F:Fo) (K:KnT),(F.res K).1.length≤F.size
 | .nil,_=>Nat.le_refl _
 | .cons n k r,K=>by
  have h1:=k.res_len (knL K true n.attrs).1;have h2:=r.res_len K
  simp only[Fo.res,Fo.size]
  split
  ·simp only[List.length_cons];omega
  ·simp only[List.length_cons,List.length_append];omega
def barP (n:Nd):Bool:=decide (16<n.attrs.length)
theorem bare_bad (v:List Nd)(sp:List UInt8)(hv:v.length≤lim)(hok:∀ n∈v,n.okTo lim∧n.i64)(hs:sp.length≤lim)(h:checkU v≠0∨ptsErr sp≠0∨givenU sp=true)(nm:Nat) :
  Ev cx 8 nm [.sl false 6 (v.map ndC),.str sp] Mem.nil (.tup [.nils,.int .i64 (if checkU v≠0 then checkU v else 8)]) []:=by
 have hc:=checkU_ev v hv hok
 have ht:=tCheck_ev sp hs
 have hg:=given_ev sp
 by_cases h1:checkU v=0
 ·have e1:(checkU v != 0)=false:=by rw[h1];rfl
  rw[if_neg (by simpa using h1)]
  by_cases h2:ptsErr sp=0
  ·have e2:(ptsErr sp != 0)=false:=by rw[h2];rfl
   have h3:givenU sp=true:=by rcases h with h|h|h;exact absurd h1 h;exact absurd h2 h;exact h
   rw[h3]at hg
   refine ev_go rfl (fun cargs w=>call8 cargs w) func8 rfl mixed (by kernel_rfl) rfl ?_;intro b0 hb0
   (repeat' first|simp only[fins,mems,results8,ntmps8,wks,e1,e2,Bt,Bf,plain_nd,vcs,seval,tys]|exact rfl|refine call_off (v:=.any) ?_|(first|(refine call_fn ?_ (ht _) ?_)|(refine call_fn_g ?_ (fun _=>ht _) ?_)|(refine call_fn ?_ (hg _) ?_)|(refine call_fn_g ?_ (fun _=>hg _) ?_))|((refine call_fn_vx (xs:=?_) [b0] ?_ ?_ ?_ rfl (hc _) ?_);rotate_left 1)|omega|((first|apply Ca|apply Cb)<;>intro hb)|refine Ai (by omega) ?_|(apply Ai<;>intro hb)|refine Fin.pure ?_ ?_ ?_|simp only[injs])
  ·have e2:(ptsErr sp != 0)=true:=by simpa using h2
   refine ev_go rfl (fun cargs w=>call8 cargs w) func8 rfl mixed (by kernel_rfl) rfl ?_;intro b0 hb0
   (repeat' first|simp only[fins,mems,results8,ntmps8,wks,e1,e2,Bt,Bf,plain_nd,vcs,seval,tys]|exact rfl|refine call_off (v:=.any) ?_|(first|(refine call_fn ?_ (ht _) ?_)|(refine call_fn_g ?_ (fun _=>ht _) ?_)|(refine call_fn ?_ (hg _) ?_)|(refine call_fn_g ?_ (fun _=>hg _) ?_))|((refine call_fn_vx (xs:=?_) [b0] ?_ ?_ ?_ rfl (hc _) ?_);rotate_left 1)|omega|((first|apply Ca|apply Cb)<;>intro hb)|refine Ai (by omega) ?_|(apply Ai<;>intro hb)|refine Fin.pure ?_ ?_ ?_|simp only[injs])
 ·have e1:(checkU v != 0)=true:=by simpa using h1
  rw[if_pos h1]
  refine ev_go rfl (fun cargs w=>call8 cargs w) func8 rfl mixed (by kernel_rfl) rfl ?_;intro b0 hb0
  (repeat' first|simp only[fins,mems,results8,ntmps8,wks,e1,plain_nd,vcs,seval,tys]|exact rfl|refine call_off (v:=.any) ?_|((refine call_fn_vx (xs:=?_) [b0] ?_ ?_ ?_ rfl (hc _) ?_);rotate_left 1)|omega|((first|apply Ca|apply Cb)<;>intro hb)|refine Ai (by omega) ?_|(apply Ai<;>intro hb)|refine Fin.pure ?_ ?_ ?_|simp only[injs])
theorem res_bad (v:List Nd)(hv:v.length≤lim)(hok:∀ n∈v,n.okTo lim∧n.i64)(h:checkB v≠0∨v.any spcNd=true)(nm:Nat) :
  Ev cx 6 nm [.sl false 6 (v.map ndC)] Mem.nil (.tup [.nils,.int .i64 8]) []:=by
 have hc:=checkT_ev v hv hok
 have hs:=containsnd_ev v 16 [] spcNd (fun n hn nm=>spaced_ev n (hok n hn).1.1 nm) hv rfl
 by_cases h1:checkB v=0
 ·rw[h1]at hc
  rw[h.resolve_left (fun h=>h h1)]at hs
  refine ev_go rfl (fun cargs w=>call6 cargs w) func6 rfl mixed (by kernel_rfl) rfl ?_;intro b0 hb0
  (repeat' first|simp only[fins,mems,results6,ntmps6,wks,plain_nd,vcs,seval,tys]|exact rfl|refine call_off (v:=.any) ?_|((refine call_fn_vx (xs:=?_) [b0] ?_ ?_ ?_ rfl (hc _) ?_);rotate_left 1)|((refine call_fn_vx (xs:=?_) [b0] ?_ ?_ ?_ rfl (hs _) ?_);rotate_left 1)|omega|((first|apply Ca|apply Cb)<;>intro hb)|refine Ai (by omega) ?_|(apply Ai<;>intro hb)|refine Fin.pure ?_ ?_ ?_|simp only[injs])
 ·have h8:checkB v=8:=by
   unfold checkB at h1 ⊢
   split
   ·rfl
   ·rename_i g;rw[if_neg g]at h1;exact absurd rfl h1
  rw[h8]at hc
  refine ev_go rfl (fun cargs w=>call6 cargs w) func6 rfl mixed (by kernel_rfl) rfl ?_;intro b0 hb0
  (repeat' first|simp only[fins,mems,results6,ntmps6,wks,plain_nd,vcs,seval,tys]|exact rfl|refine call_off (v:=.any) ?_|((refine call_fn_vx (xs:=?_) [b0] ?_ ?_ ?_ rfl (hc _) ?_);rotate_left 1)|omega|((first|apply Ca|apply Cb)<;>intro hb)|refine Ai (by omega) ?_|(apply Ai<;>intro hb)|refine Fin.pure ?_ ?_ ?_|simp only[injs])
theorem knZF:knV knZ=[(.str [],.agg [.str []]),(.str [120,109,108],.agg [.str [104,116,116,112,58,47,47,119,119,119,46,119,51,46,111,114,103,47,88,77,76,47,49,57,57,56,47,110,97,109,101,115,112,97,99,101]])]:=rfl
theorem foV_mem:∀(f c:Nat) (v:List Nd),(∀ x∈(foV f c v).1.flat,x∈v) ∧ ∀ x∈(foV f c v).2,x∈v
 | 0,_,v=>⟨fun x hx=>by simp[foV,Fo.flat]at hx,fun x hx=>by simpa [foV] using hx⟩
 | _+1,0,v=>⟨fun x hx=>by simp[foV,Fo.flat]at hx,fun x hx=>by simpa [foV] using hx⟩
 | _+1,_+1,[]=>⟨fun x hx=>by simp[foV,Fo.flat]at hx,fun x hx=>by simp[foV]at hx⟩
 | f+1,c+1,n::v=>by
  obtain⟨a1,a2⟩:=foV_mem f n.many.toNat v
  obtain⟨b1,b2⟩:=foV_mem f c (foV f n.many.toNat v).2
  simp only[foV,Fo.flat,Lk,List.mem_append]
  refine⟨fun x hx=>?_,fun x hx=>.inr (a2 x (b2 x hx))⟩
  rcases hx with h|h|h
  ·exact .inl h
  ·exact .inr (a1 x h)
  ·exact .inr (a2 x (b1 x h))
theorem foOf_mem (v:List Nd):∀ x∈(foOf v).flat,x∈v:=(foV_mem _ _ v).1
def KFit (B:Nat)(K:KnT):Prop:=∀ p v,getK p K=some v→v.length≤B
theorem kfit_zero {B:Nat}(hB:100≤B):KFit B knZ:=fun p v h=>by
 unfold knZ at h
 simp only[getK]at h
 split at h
 ·cases h;simp
 ·split at h
  ·cases h;exact Nat.le_trans (by decide) hB
  ·cases h
theorem kfit_fold {B:Nat} : ∀(l:List At) (K:KnT) (r:Bool),KFit B K→(∀ a∈l,a.value.length≤B)→KFit B (knL K r l).1
 | [],_,_,h,_=>h
 | a::l,K,r,h,hl=>by
  unfold knL
  rw[List.foldl_cons]
  have hK:KFit B (knF (K,r) a).1:=by
   unfold knF
   cases declO a.name with
   | none=>exact h
   | some p =>
    intro q v hq
    rw[get_put]at hq
    split at hq
    ·cases hq;exact hl a (List.mem_cons_self ..)
    ·exact h q v hq
  exact kfit_fold l _ (knF (K,r) a).2 hK (fun b hb=>hl b (List.mem_cons_of_mem _ hb))
theorem split_len (s:List UInt8):(splitU s).2.length≤s.length:=by
 unfold splitU
 cases h:cut1 58 s with
 | none=>exact Nat.le_refl _
 | some p=>obtain⟨a,b⟩:=p;have:=(cut1_some h).1;rw[this];simp;omega
theorem getd_len {B:Nat}{K:KnT}(h:KFit B K)(p:List UInt8):((getK p K).getD []).length≤B:=by
 cases hg:getK p K with
 | none=>simp
 | some v=>simpa using h p v hg
theorem nm_fit {B:Nat}{K:KnT}(hK:KFit B K):∀(l:List At) (s:List At×Bool),(∀ a∈s.1,a.space.length≤B∧a.name.length≤B∧a.value.length≤B)→(∀ a∈l,a.space.length≤B∧a.name.length≤B∧a.value.length≤B) →
  ∀ a∈(l.foldl (nmF K) s).1,a.space.length≤B∧a.name.length≤B∧a.value.length≤B
 | [],_,hs,_=>hs
 | x::l,s,hs,hl=>by
  rw[List.foldl_cons]
  refine nm_fit hK l _ ?_ (fun b hb=>hl b (List.mem_cons_of_mem _ hb))
  unfold nmF
  cases declO x.name with
  | some p=>exact hs
  | none =>
   intro a ha
   rcases List.mem_append.1 ha with h|h
   ·exact hs a h
   ·have:=List.mem_singleton.1 h;subst this
    obtain⟨q1,q2,q3⟩:=hl x (List.mem_cons_self ..)
    unfold resAt
    split
    ·exact⟨getd_len hK _,Nat.le_trans (split_len _) q2,q3⟩
    ·exact⟨by simp,q2,q3⟩
theorem Fo.res_fit {B:Nat}(hB:100≤B):∀(F:Fo) (K:KnT),KFit B K→(∀ n∈F.flat,n.okTo B∧n.i64) → ∀ x∈(F.res K).1,x.okTo B∧x.i64
 | .nil,_,_,_=>fun x hx=>by simp[Fo.res]at hx
 | .cons n k r,K,hK,hok=>by
  simp only[Fo.flat,Lk,List.mem_append]at hok
  have hr:=Fo.res_fit hB r K hK (fun x hx=>hok x (.inr (.inr hx)))
  simp only[Fo.res]
  split
  ·intro x hx
   rcases List.mem_cons.1 hx with e|hx
   ·subst e;exact hok _ (.inl rfl)
   ·exact hr x hx
  ·have hn:=hok n (.inl rfl)
   have hK2:=kfit_fold n.attrs K true hK (fun a ha=>(hn.1.2.2.2.2 a ha).2.2)
   have hk:=Fo.res_fit hB k _ hK2 (fun x hx=>hok x (.inr (.inl hx)))
   intro x hx
   rcases List.mem_cons.1 hx with e|hx
   ·subst e
    have hlen:=nmL_len (knL K true n.attrs).1 n.attrs ([],(getK (splitU n.name).1 (knL K true n.attrs).1).isSome)
    refine⟨⟨?_,getd_len hK2 _,Nat.le_trans (split_len _) hn.1.2.2.1,by simp[namU],fun a ha=>?_⟩,hn.2⟩
    ·have:=hn.1.1
     unfold namU nmL;simp only[List.length_nil]at hlen;simp only;omega
    ·exact nm_fit hK2 n.attrs _ (by simp) (fun a ha=>hn.1.2.2.2.2 a ha) a ha
   ·rcases List.mem_append.1 hx with hx|hx
    ·exact hk x hx
    ·exact hr x hx
theorem res_fit {v:List Nd}{B:Nat}(hB:100≤B)(hok:∀ n∈v,n.okTo B∧n.i64):∀ x∈(resolveU v).1,x.okTo B∧x.i64:=by
 unfold resolveU
 split
 ·intro x hx;cases hx
 ·split
  ·intro x hx;cases hx
  ·split
   ·exact Fo.res_fit hB _ _ (kfit_zero hB) (fun x hx=>hok x (foOf_mem v x hx))
   ·intro x hx;cases hx
theorem itoa_len (n:Nat):(itoaU n).length≤2:=by unfold itoaU;split<;>simp
theorem told_fit {n:Nd}{sp:List UInt8}{B:Nat}(hok:n.okTo B∧n.i64):(toldU n sp).space=[]∧(toldU n sp).name.length≤B+50∧(toldU n sp).text=[]∧(toldU n sp).i64 ∧ ∀ a∈(toldU n sp).attrs,a.space.length≤B+50∧a.name.length≤B+50∧a.value.length≤B+50:=by
 obtain⟨⟨_,h2,h3,_,h5⟩,h6⟩:=hok
 refine⟨rfl,by show n.name.length≤_;omega,rfl,h6,fun a ha=>?_⟩
 unfold toldU at ha
 rcases List.mem_append.1 ha with ha|ha
 ·rcases List.mem_append.1 ha with ha|ha
  ·unfold hdU at ha
   split at ha
   ·cases ha
   ·have:=List.mem_singleton.1 ha;subst this;exact⟨by simp,by simp,by show n.space.length≤_;omega⟩
  ·unfold decsU at ha
   obtain⟨i,hi,rfl⟩:=List.mem_mapIdx.1 ha
   have hs:((seenL n.attrs)[i]).length≤B:=by
    rcases seen_in _ (List.getElem_mem hi) with h|⟨b,hb,e,_⟩
    ·cases h
    ·rw[← e];exact(h5 b hb).1
   have:=itoa_len (i+1)
   exact⟨by simp[decU],by simp only[decU,List.length_append,List.length_cons,List.length_nil];omega,by simp only[decU];omega⟩
 ·obtain⟨b,hb,rfl⟩:=List.mem_map.1 ha
  obtain⟨q1,q2,q3⟩:=h5 b hb
  refine⟨by simp[relU],?_,by show b.value.length≤_;omega⟩
  unfold relU
  split
  ·exact Nat.le_trans q2 (by omega)
  ·have:(preU (seenL n.attrs) b.space).length≤3:=by
    unfold preU
    split
    ·simp
    ·have:=itoa_len (ixU (seenL n.attrs) b.space+1);simp only[List.length_cons];omega
   simp only[List.length_append,List.length_cons];omega
theorem Fo.bare_fit {B:Nat} : ∀(F:Fo) (sp:List UInt8),(∀ n∈F.flat,n.okTo B∧n.i64) → ∀ x∈F.bare sp,x.space.length≤B+50∧x.name.length≤B+50∧x.text.length≤B+50∧x.i64 ∧ ∀ a∈x.attrs,a.space.length≤B+50∧a.name.length≤B+50∧a.value.length≤B+50
 | .nil,_,_=>fun x hx=>by simp[Fo.bare]at hx
 | .cons n k r,sp,hok=>by
  simp only[Fo.flat,Lk,List.mem_append]at hok
  have hr:=Fo.bare_fit r sp (fun x hx=>hok x (.inr (.inr hx)))
  have hk:=Fo.bare_fit k n.space (fun x hx=>hok x (.inr (.inl hx)))
  have hn:=hok n (.inl rfl)
  simp only[Fo.bare]
  intro x hx
  rcases List.mem_append.1 hx with hx|hx
  ·split at hx
   ·have:=List.mem_singleton.1 hx;subst this
    obtain⟨⟨_,h2,h3,h4,h5⟩,h6⟩:=hn
    exact⟨by omega,by omega,by omega,h6,fun a ha=>by obtain⟨q1,q2,q3⟩:=h5 a ha;exact⟨by omega,by omega,by omega⟩⟩
   ·rcases List.mem_cons.1 hx with e|hx
    ·subst e
     obtain⟨t1,t2,t3,t4,t5⟩:=told_fit (sp:=sp) hn
     exact⟨by rw[t1];simp,t2,by rw[t3];simp,t4,t5⟩
    ·exact hk x hx
  ·exact hr x hx
theorem bare_fit {v:List Nd}{sp:List UInt8}{B:Nat}(hok:∀ n∈v,n.okTo B∧n.i64):∀ x∈(bareU v sp).1,x.okTo (B+50)∧x.i64:=by
 unfold bareU
 split
 ·intro x hx;cases hx
 ·split
  ·intro x hx;cases hx
  ·split
   ·intro x hx;cases hx
   ·rename_i h3
    intro x hx
    obtain⟨h4,h5,h6,h7,h8⟩:=Fo.bare_fit (foOf v) sp (fun x hx=>hok x (foOf_mem v x hx)) x hx
    have h16:=List.any_eq_false.1 (Bool.not_eq_true _ ▸ h3:wideU _=false) x hx
    simp only[decide_eq_true_eq]at h16
    exact⟨⟨by omega,h4,h5,h6,h8⟩,h7⟩
theorem foV_len:∀(f c:Nat) (v:List Nd),(foV f c v).1.size+(foV f c v).2.length≤v.length
 | 0,_,v=>by simp[foV,Fo.size]
 | _+1,0,v=>by simp[foV,Fo.size]
 | _+1,_+1,[]=>by simp[foV,Fo.size]
 | f+1,c+1,n::v=>by
  have a:=foV_len f n.many.toNat v
  have b:=foV_len f c (foV f n.many.toNat v).2
  simp only[foV,Fo.size,List.length_cons]
  omega
theorem res_length (v:List Nd):(resolveU v).1.length≤v.length:=by
 unfold resolveU
 split
 ·simp
 ·split
  ·simp
  ·split
   ·have h1:=Fo.res_len (foOf v) knZ
    have h2:=foV_len (v.length+1) 1 v
    unfold foOf at h1 ⊢
    simp only;omega
   ·simp
theorem bare_length (v:List Nd)(sp:List UInt8):(bareU v sp).1.length≤v.length:=by
 unfold bareU
 split
 ·simp
 ·split
  ·simp
  ·split
   ·simp
   ·have h1:=Fo.bare_len (foOf v) sp
    have h2:=foV_len (v.length+1) 1 v
    unfold foOf at h1 ⊢
    simp only;omega
end Go.Proofs.YtfcfldmioonipaaGreatDoor
