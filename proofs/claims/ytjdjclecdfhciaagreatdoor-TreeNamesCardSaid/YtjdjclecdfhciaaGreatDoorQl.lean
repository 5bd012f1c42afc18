/-
 Texts joined: XNg,XNh,XNi,XNj,XNk,XNl,XNm,XNn,XNo.
-/
import Derived.Test.YtjdjclecdfhciaaGreatDoorQk
import Derived.Test.YtjdjclecdfhciaaGreatDoorQj
namespace Go.Proofs.YtjdjclecdfhciaaGreatDoor
set_option maxRecDepth 100000
set_option maxHeartbeats 32000000
set_option linter.unusedSimpArgs false
set_option linter.unusedVariables false
open Go Go.RowKit Vm Go.Lib Tryz
open Vm renaming cond_bool→Ca,cond_bit→Cb
open And renaming intro→Ai
open List renaming length_map→Lm,not_mem_nil→Ln,map_nil→Lo,map_cons→Lc,mem_cons→Lk
open Bool renaming not_false→Bf,not_true→Bt
def srcK (s:List UInt8):Blk:=⟨1,[[.str s]]⟩
theorem eat_ev (s p:List UInt8)(hs:s.length≤lim)(hp:p.length≤lim)(q:Nat)(M:Mem)(nm:Nat)(hq:M q=some (srcK s))(ho:∀ z,(M z).isSome=true→z∈[q])(hqn:q<nm) :
  Ev cx 142 nm [.ptr q 0 0,.str p] M (.bool (preB s p)) [(q,some (srcK (if preB s p=true then s.drop p.length else s)))]:=by
 have h:=cutPre_ev s p hs hp
 cases hb:preB s p with
 | true =>
  rw[preR_yes hb]at h
  simp only[if_true]
  unfold srcK at hq ⊢
  refine ev_go rfl (fun cargs w=>call142 cargs w) func142 rfl mixed (by kernel_rfl) rfl ?_;intro b0 hb0
  have lq:q<b0:=below_of hb0 (by rw[hq];rfl)
  have z0:=lt_ne lq;have z1:=lt_ne_add lq;have z2:=lt_ne' lq;have z3:=lt_ne_add' lq
  repeat' first|simp only[fins,mems,results142,ntmps142,wks,hq,z0,z1,z2,z3,vcs,seval,tys]|exact rfl|refine call_off (v:=.any) ?_|(first|(refine call_fn ?_ (h _) ?_)|(refine call_fn_g ?_ (fun _=>h _) ?_))|((first|apply Ca|apply Cb)<;>intro hb)|refine Ai (by omega) ?_|(apply Ai<;>intro hb)
  all_goals ((refine Fin.give [(q,none)] [] ?_ ?_ ?_ ?_ ?_ (fun q hq=>by have hqq:=ho q hq;first|(simp only[gives,tgt,Lc,Lo,Lk,Ln,or_false]at hqq ⊢;omega)|(simp only[gives,tgt,Lc,Lo,Lk,Ln,or_false]at hqq))<;>(try simp only[results142,ntmps142,wks,hq,z0,z1,z2,z3,giv,vcs,seval,tys])<;>(try simp only[injs])<;>(try omega)))
 | false =>
  rw[preR_no hb]at h
  simp only[Bool.false_eq_true,if_false]
  unfold srcK at hq ⊢
  refine ev_go rfl (fun cargs w=>call142 cargs w) func142 rfl mixed (by kernel_rfl) rfl ?_;intro b0 hb0
  have lq:q<b0:=below_of hb0 (by rw[hq];rfl)
  have z0:=lt_ne lq;have z1:=lt_ne_add lq;have z2:=lt_ne' lq;have z3:=lt_ne_add' lq
  repeat' first|simp only[fins,mems,results142,ntmps142,wks,hq,z0,z1,z2,z3,vcs,seval,tys]|exact rfl|refine call_off (v:=.any) ?_|(first|(refine call_fn ?_ (h _) ?_)|(refine call_fn_g ?_ (fun _=>h _) ?_))|((first|apply Ca|apply Cb)<;>intro hb)|refine Ai (by omega) ?_|(apply Ai<;>intro hb)
  all_goals ((refine Fin.give [(q,none)] [] ?_ ?_ ?_ ?_ ?_ (fun q hq=>by have hqq:=ho q hq;first|(simp only[gives,tgt,Lc,Lo,Lk,Ln,or_false]at hqq ⊢;omega)|(simp only[gives,tgt,Lc,Lo,Lk,Ln,or_false]at hqq))<;>(try simp only[results142,ntmps142,wks,hq,z0,z1,z2,z3,giv,vcs,seval,tys])<;>(try simp only[injs])<;>(try omega)))
theorem skip_ev (s:List UInt8)(hs:s.length≤lim)(q:Nat)(M:Mem)(nm:Nat)(hq:M q=some (srcK s))(ho:∀ z,(M z).isSome=true→z∈[q])(hqn:q<nm) :
  Ev cx 165 nm [.ptr q 0 0] M (.bool (decide ((skipL s).length<s.length))) [(q,some (srcK (skipL s)))]:=by
 have h:=trimLeftW_ev blanks4 s (by decide) (by decide) (by decide) hs
 rw[trim_skip]at h
 change ∀ nm,Ev cx _ nm _ Mem.nil (.str (skipL s)) []at h
 unfold blanks4 at h
 have hd:decide (((skipL s).length:Int)<(s.length:Int))=decide ((skipL s).length<s.length):=decide_eq_decide.2 (by omega)
 unfold srcK at hq ⊢
 refine ev_go rfl (fun cargs w=>call165 cargs w) func165 rfl mixed (by kernel_rfl) rfl ?_;intro b0 hb0
 have lq:q<b0:=below_of hb0 (by rw[hq];rfl)
 have z0:=lt_ne lq;have z1:=lt_ne_add lq;have z2:=lt_ne' lq;have z3:=lt_ne_add' lq
 repeat' first|simp only[fins,mems,results165,ntmps165,wks,hq,z0,z1,z2,z3,hd,vcs,seval,tys]|exact rfl|refine call_off (v:=.any) ?_|(first|(refine call_fn ?_ (h _) ?_)|(refine call_fn_g ?_ (fun _=>h _) ?_))|((first|apply Ca|apply Cb)<;>intro hb)|refine Ai (by omega) ?_|(apply Ai<;>intro hb)
 all_goals ((refine Fin.give [(q,none)] [] ?_ ?_ ?_ ?_ ?_ (fun q hq=>by have hqq:=ho q hq;first|(simp only[gives,tgt,Lc,Lo,Lk,Ln,or_false]at hqq ⊢;omega)|(simp only[gives,tgt,Lc,Lo,Lk,Ln,or_false]at hqq))<;>(try simp only[results165,ntmps165,wks,hq,z0,z1,z2,z3,hd,giv,vcs,seval,tys])<;>(try simp only[injs])<;>(try omega)))
section
variable {cx:Cx} {Q:Post} {st:List Frm} {nm:Nat} {e:Env} {M:Mem} {d:Bool} {fs:List (List Nat)} {ops r:List Oper} {dst:Option Tmp} {t:TypeId} {pos:String} {af:Array Edge} {gd:Option (Nat×Bool)} {i:Nat}
def boxT (P:Program)(t:TypeId):Bool:=match P.underlying t with
 | some (.interface _)|none=>false
 | some _=>true
theorem run_box {P:Program}{w:World}{t:TypeId}(x:Value)(h:boxT P t=true):(Instr.makeInterface t x).run P w = .ok (.iface t x) w:=by
 unfold boxT at h
 cases hu:P.underlying t with
 | none=>rw[hu]at h;cases h
 | some u =>
  rw[hu]at h
  simp only[Instr.makeInterface,Sem.run_bind,run_underlying hu w,Result.andThen_ok]
  cases u<;>first|rfl|cases h
theorem ext_iface {ty:TypeId}{x:Operand}{u:V}(hx:evalV cx.G true e x=u)(ht:boxT cx.P ty=true)
  (h:goOps cx Q st nm (e.putD dst (.iface ty u)) M d (fs++[[]]) ops r (i+1)):goExt cx Q st nm e M d fs ops ⟨dst,.makeInterface ty x,t,pos,af,gd⟩ r i:=by
 refine⟨_,[],_,⟨fun x hx=>by simp[effNames]at hx,fun x hx=>by simp[effNames]at hx,fun h=>absurd rfl h,fun h=>absurd rfl h,?_⟩,h⟩
 intro N X w0 I ρ e' M' a w hr he hin hev hMM hf
 have hxi:=he.eval hr (c:=true) rfl (hin x (by simp[Op.operands]))
 rw[hev x (by simp[Op.operands]),hx]at hxi
 exact⟨_,w,(Steps1.still (nm:=nm+16*i) hr (.iface (t:=ty) hxi)).n,wp_val (s:=Instr.makeInterface ty (a.eval x)) rfl (run_box _ ht)⟩
end
def noV:V:=.iface 25 (.int .i64 80)
theorem no_evp (q:Nat)(M:Mem)(nm:Nat):EvP cx 146 nm [.ptr q 0 0] M noV:=by
 unfold noV
 refine evp_go rfl cxG rfl (fun cargs w=>call146 cargs w) func146 rfl mixed (by kernel_rfl) rfl ?_;intro b0 hb0
 repeat' first|simp only[fins,mems,results146,ntmps146,wks,goOps_panic,goPan_iface,goEx_code_pan,goEx_blk_pan,panP_at,vcs,seval,tys]|exact rfl|refine call_off (v:=.any) ?_|(refine ext_iface rfl (by kernel_rfl) ?_)|((first|apply Ca|apply Cb)<;>intro hb)|refine Ai (by omega) ?_|(apply Ai<;>intro hb)
theorem word_at {s:List UInt8}{x:Nat}(h:∀ c∈s.take x,wordB c=true)(h2:∀ c,s[x]? = some c→wordB c=false):wordT s=s.take x∧wordR s=s.drop x:=by
 have e:s=s.take x++s.drop x:=(List.take_append_drop x s).symm
 have hd:(s.drop x).takeWhile wordB=[]∧(s.drop x).dropWhile wordB=s.drop x:=by
  cases hc:s.drop x with
  | nil=>exact⟨rfl,rfl⟩
  | cons c t =>
   have:s[x]? = some c:=by
    have:=congrArg List.head? hc
    simpa [List.head?_drop] using this
   rw[List.takeWhile_cons,List.dropWhile_cons,h2 c this]
   exact⟨rfl,rfl⟩
 unfold wordT wordR
 constructor
 ·conv=>lhs;rw[e]
  rw[List.takeWhile_append_of_pos h,hd.1,List.append_nil]
 ·conv=>lhs;rw[e]
  rw[List.dropWhile_append_of_pos h,hd.2]
theorem word_step {s:List UInt8}{x:Nat}{c:UInt8}(h:∀ c∈s.take x,wordB c=true)(hc:s[x]? = some c)(hw:wordB c=true):∀ c∈s.take (x+1),wordB c=true:=by
 intro d hd
 rw[List.take_add_one,hc]at hd
 rcases List.mem_append.1 hd with hd|hd
 ·exact h d hd
 ·simp at hd;rw[hd];exact hw
theorem name_some {s n r:List UInt8}(h:nameO s=some (n,r)):wordT s=n∧wordR s=r∧fullL n=true:=by
 unfold nameO at h
 split at h
 ·rename_i hf;cases h;exact⟨rfl,rfl,hf⟩
 ·cases h
theorem name_none {s:List UInt8}(h:nameO s=none):fullL (wordT s)=false:=by
 unfold nameO at h
 split at h
 ·cases h
 ·rename_i hf;simpa using hf
theorem sName_ev (s n r:List UInt8)(hs:s.length≤1000000)(hn:nameO s=some (n,r))(q:Nat)(M:Mem)(nm:Nat)(hq:M q=some (srcK s))(ho:∀ z,(M z).isSome=true→z∈[q])(hqn:q<nm) :
  Ev cx 164 nm [.ptr q 0 0] M (.str n) [(q,some (srcK r))]:=by
 obtain⟨hw1,hw2,hfl⟩:=name_some hn
 unfold srcK at hq ⊢
 refine ev_go rfl (fun cargs w=>call164 cargs w) func164 rfl mixed (by kernel_rfl) rfl ?_;intro b0 hb0
 have lq:q<b0:=below_of hb0 (by rw[hq];rfl)
 have z0:=lt_ne lq;have z1:=lt_ne_add lq;have z2:=lt_ne' lq;have z3:=lt_ne_add' lq
 repeat' first|simp only[fins,mems,results164,ntmps164,wks,vcs,seval,tys]|exact rfl|refine call_off (v:=.any) ?_|((first|apply Ca|apply Cb)<;>intro hb)|refine Ai (by omega) ?_|(apply Ai<;>intro hb)
 (refine loop_can2 cxG (fun x:Nat=>s.length-x) (fun x=>x≤s.length∧(∀ c∈s.take x,wordB c=true)) (b0+16) (fun x=>[(0,.ptr q 0 0),(3,.int .i64 x)]) (fun x=>[(q,⟨1,[[.str s]]⟩)]) (0) [some q] ?_ ?_ ?_ ?_;rotate_left 1;(focus (show b0≤_;omega));(focus (refine⟨?_,?_⟩<;>(try simp only[cans,hq,z0,z1,z2,z3,vcs,seval,tys,injs])<;>(try omega)));rotate_left 1)
 ·exact⟨Nat.zero_le _,by simp⟩
 ·rintro x ⟨h1,h2⟩
  have hend:∀(hx:∀ c,s[x]? = some c→wordB c=false),s.take x=wordT s∧s.drop x=wordR s:=fun hx=>⟨(word_at h2 hx).1.symm,(word_at h2 hx).2.symm⟩
  have h1':(x:Int)≤(s.length:Int):=by omega
  by_cases hx:x<s.length
  ·obtain⟨c,hc⟩:∃ c,s[x]? = some c:=⟨_,List.getElem?_eq_getElem hx⟩
   have hx':decide ((x:Int)<(s.length:Int))=true:=decide_eq_true (by omega)
   have hpe:=part_ev c false
   have q58:((c.toNat:Int)==58)=decide (c=58):=beq_byte c 58
   have hwx:IntKind.i64.wrap ((x:Int)+1)=((x+1:Nat):Int):=wrap_in (by omega) (by omega)
   have hwc:wordB c=(partB false c||decide (c=58)):=by unfold wordB;congr 1
   have hgo:∀(hp:wordB c=true),x+1≤s.length ∧ ∀ c∈s.take (x+1),wordB c=true:=fun hp=>⟨by omega,word_step h2 hc hp⟩
   cases hp:partB false c<;>cases h58:decide (c=58)<;>rw[hp,h58]at hwc<;>rw[hp]at hpe<;>rw[h58]at q58
   ·have he:=hend (fun d hd=>by rw[hc]at hd;cases hd;exact hwc)
    have hfe:=full_ev (wordT s) (by unfold lim;rw[← he.1,List.length_take];omega)
    rw[hw1,hfl]at hfe
    have e1:s.take x=n:=by rw[he.1,hw1]
    have e2:s.drop x=r:=by rw[he.2,hw2]
    repeat' first|simp only[fins,mems,results164,ntmps164,wks,hc,hx',h1,h1',hx,q58,e1,e2,vcs,seval,tys]|exact rfl|refine call_off (v:=.any) ?_|(first|(refine call_fn ?_ (hfe _) ?_)|(refine call_fn_g ?_ (fun _=>hfe _) ?_)|(refine call_fn ?_ (hpe _) ?_)|(refine call_fn_g ?_ (fun _=>hpe _) ?_))|(refine call_off (v:=.any) ?_)|refine Ai (by omega) ?_
    all_goals ((refine Fin.give [(q,none)] [] ?_ ?_ ?_ ?_ ?_ (fun q hq=>by have hqq:=ho q hq;first|(simp only[gives,tgt,Lc,Lo,Lk,Ln,or_false]at hqq ⊢;omega)|(simp only[gives,tgt,Lc,Lo,Lk,Ln,or_false]at hqq))<;>(try simp only[results164,ntmps164,wks,hq,z0,z1,z2,z3,giv,vcs,seval,tys])<;>(try simp only[injs])<;>(try omega)))
   ·repeat' first|simp only[fins,mems,results164,ntmps164,wks,hc,hx',h1,h1',hx,q58,hwx,vcs,seval,tys]|exact rfl|refine call_off (v:=.any) ?_|(first|(refine call_fn ?_ (hpe _) ?_)|(refine call_fn_g ?_ (fun _=>hpe _) ?_))|(refine call_off (v:=.any) ?_)|refine Ai (by omega) ?_
    all_goals ((refine again_can2 cxG (x+1) [some q] ?_ ?_ ?_ ?_;rotate_left 2;(focus (show b0≤_;omega));(focus (refine⟨?_,?_⟩<;>(try simp only[cans,hq,z0,z1,z2,z3,vcs,seval,tys,injs])<;>(try omega)))))
    all_goals (first|(show s.length-(x+1)<s.length-x;omega)|exact hgo hwc|skip)
   ·repeat' first|simp only[fins,mems,results164,ntmps164,wks,hc,hx',h1,h1',hx,q58,hwx,vcs,seval,tys]|exact rfl|refine call_off (v:=.any) ?_|(first|(refine call_fn ?_ (hpe _) ?_)|(refine call_fn_g ?_ (fun _=>hpe _) ?_))|(refine call_off (v:=.any) ?_)|refine Ai (by omega) ?_
    all_goals ((refine again_can2 cxG (x+1) [some q] ?_ ?_ ?_ ?_;rotate_left 2;(focus (show b0≤_;omega));(focus (refine⟨?_,?_⟩<;>(try simp only[cans,hq,z0,z1,z2,z3,vcs,seval,tys,injs])<;>(try omega)))))
    all_goals (first|(show s.length-(x+1)<s.length-x;omega)|exact hgo hwc|skip)
   ·repeat' first|simp only[fins,mems,results164,ntmps164,wks,hc,hx',h1,h1',hx,q58,hwx,vcs,seval,tys]|exact rfl|refine call_off (v:=.any) ?_|(first|(refine call_fn ?_ (hpe _) ?_)|(refine call_fn_g ?_ (fun _=>hpe _) ?_))|(refine call_off (v:=.any) ?_)|refine Ai (by omega) ?_
    all_goals ((refine again_can2 cxG (x+1) [some q] ?_ ?_ ?_ ?_;rotate_left 2;(focus (show b0≤_;omega));(focus (refine⟨?_,?_⟩<;>(try simp only[cans,hq,z0,z1,z2,z3,vcs,seval,tys,injs])<;>(try omega)))))
    all_goals (first|(show s.length-(x+1)<s.length-x;omega)|exact hgo hwc|skip)
  ·have hx':decide ((x:Int)<(s.length:Int))=false:=decide_eq_false (by omega)
   have hxe:s[x]? = none:=List.getElem?_eq_none (by omega)
   have he:=hend (fun d hd=>by rw[hxe]at hd;cases hd)
   have hfe:=full_ev (wordT s) (by unfold lim;rw[← he.1,List.length_take];omega)
   rw[hw1,hfl]at hfe
   have e1:s.take x=n:=by rw[he.1,hw1]
   have e2:s.drop x=r:=by rw[he.2,hw2]
   repeat' first|simp only[fins,mems,results164,ntmps164,wks,hxe,hx',h1,h1',hx,e1,e2,vcs,seval,tys]|exact rfl|refine call_off (v:=.bool false) ?_|(first|(refine call_fn ?_ (hfe _) ?_)|(refine call_fn_g ?_ (fun _=>hfe _) ?_))|refine Ai (by omega) ?_
   all_goals ((refine Fin.give [(q,none)] [] ?_ ?_ ?_ ?_ ?_ (fun q hq=>by have hqq:=ho q hq;first|(simp only[gives,tgt,Lc,Lo,Lk,Ln,or_false]at hqq ⊢;omega)|(simp only[gives,tgt,Lc,Lo,Lk,Ln,or_false]at hqq))<;>(try simp only[results164,ntmps164,wks,hq,z0,z1,z2,z3,giv,vcs,seval,tys])<;>(try simp only[injs])<;>(try omega)))
theorem sName_evp (s:List UInt8)(hs:s.length≤1000000)(hn:nameO s=none)(q:Nat)(M:Mem)(nm:Nat)(hq:M q=some (srcK s))(ho:∀ z,(M z).isSome=true→z∈[q])(hqn:q<nm) :
  EvP cx 164 nm [.ptr q 0 0] M noV:=by
 have hfl:=name_none hn
 unfold srcK at hq
 refine evp_go rfl cxG rfl (fun cargs w=>call164 cargs w) func164 rfl mixed (by kernel_rfl) rfl ?_;intro b0 hb0
 have lq:q<b0:=below_of hb0 (by rw[hq];rfl)
 have z0:=lt_ne lq;have z1:=lt_ne_add lq;have z2:=lt_ne' lq;have z3:=lt_ne_add' lq
 repeat' first|simp only[fins,mems,results164,ntmps164,wks,vcs,seval,tys]|exact rfl|refine call_off (v:=.any) ?_|((first|apply Ca|apply Cb)<;>intro hb)|refine Ai (by omega) ?_|(apply Ai<;>intro hb)
 (refine loop_can2 cxG (fun x:Nat=>s.length-x) (fun x=>x≤s.length∧(∀ c∈s.take x,wordB c=true)) (b0+16) (fun x=>[(0,.ptr q 0 0),(3,.int .i64 x)]) (fun x=>[(q,⟨1,[[.str s]]⟩)]) (0) [some q] ?_ ?_ ?_ ?_;rotate_left 1;(focus (show b0≤_;omega));(focus (refine⟨?_,?_⟩<;>(try simp only[cans,hq,z0,z1,z2,z3,vcs,seval,tys,injs])<;>(try omega)));rotate_left 1)
 ·exact⟨Nat.zero_le _,by simp⟩
 ·rintro x ⟨h1,h2⟩
  have hend:∀(hx:∀ c,s[x]? = some c→wordB c=false),s.take x=wordT s∧s.drop x=wordR s:=fun hx=>⟨(word_at h2 hx).1.symm,(word_at h2 hx).2.symm⟩
  have h1':(x:Int)≤(s.length:Int):=by omega
  by_cases hx:x<s.length
  ·obtain⟨c,hc⟩:∃ c,s[x]? = some c:=⟨_,List.getElem?_eq_getElem hx⟩
   have hx':decide ((x:Int)<(s.length:Int))=true:=decide_eq_true (by omega)
   have hpe:=part_ev c false
   have q58:((c.toNat:Int)==58)=decide (c=58):=beq_byte c 58
   have hwx:IntKind.i64.wrap ((x:Int)+1)=((x+1:Nat):Int):=wrap_in (by omega) (by omega)
   have hwc:wordB c=(partB false c||decide (c=58)):=by unfold wordB;congr 1
   have hgo:∀(hp:wordB c=true),x+1≤s.length ∧ ∀ c∈s.take (x+1),wordB c=true:=fun hp=>⟨by omega,word_step h2 hc hp⟩
   cases hp:partB false c<;>cases h58:decide (c=58)<;>rw[hp,h58]at hwc<;>rw[hp]at hpe<;>rw[h58]at q58
   ·have he:=hend (fun d hd=>by rw[hc]at hd;cases hd;exact hwc)
    have hfe:=full_ev (wordT s) (by unfold lim;rw[← he.1,List.length_take];omega)
    rw[hfl]at hfe
    have e1:s.take x=wordT s:=he.1
    repeat' first|simp only[fins,mems,results164,ntmps164,wks,hc,hx',h1,h1',hx,q58,e1,goOps_panic,goPan_iface,goEx_code_pan,goEx_blk_pan,goEx_again_pan,panP_at,vcs,seval,tys]|exact rfl|refine call_off (v:=.any) ?_|(first|(refine call_fn ?_ (hfe _) ?_)|(refine call_fn_g ?_ (fun _=>hfe _) ?_)|(refine call_fn ?_ (hpe _) ?_)|(refine call_fn_g ?_ (fun _=>hpe _) ?_))|(refine call_off (v:=.any) ?_)|(refine call_pan rfl [q] (no_evp q _ _) ?_)|refine Ai (by omega) ?_
   ·repeat' first|simp only[fins,mems,results164,ntmps164,wks,hc,hx',h1,h1',hx,q58,hwx,vcs,seval,tys]|exact rfl|refine call_off (v:=.any) ?_|(first|(refine call_fn ?_ (hpe _) ?_)|(refine call_fn_g ?_ (fun _=>hpe _) ?_))|(refine call_off (v:=.any) ?_)|refine Ai (by omega) ?_
    all_goals ((refine again_can2 cxG (x+1) [some q] ?_ ?_ ?_ ?_;rotate_left 2;(focus (show b0≤_;omega));(focus (refine⟨?_,?_⟩<;>(try simp only[cans,hq,z0,z1,z2,z3,vcs,seval,tys,injs])<;>(try omega)))))
    all_goals (first|(show s.length-(x+1)<s.length-x;omega)|exact hgo hwc|skip)
   ·repeat' first|simp only[fins,mems,results164,ntmps164,wks,hc,hx',h1,h1',hx,q58,hwx,vcs,seval,tys]|exact rfl|refine call_off (v:=.any) ?_|(first|(refine call_fn ?_ (hpe _) ?_)|(refine call_fn_g ?_ (fun _=>hpe _) ?_))|(refine call_off (v:=.any) ?_)|refine Ai (by omega) ?_
    all_goals ((refine again_can2 cxG (x+1) [some q] ?_ ?_ ?_ ?_;rotate_left 2;(focus (show b0≤_;omega));(focus (refine⟨?_,?_⟩<;>(try simp only[cans,hq,z0,z1,z2,z3,vcs,seval,tys,injs])<;>(try omega)))))
    all_goals (first|(show s.length-(x+1)<s.length-x;omega)|exact hgo hwc|skip)
   ·repeat' first|simp only[fins,mems,results164,ntmps164,wks,hc,hx',h1,h1',hx,q58,hwx,vcs,seval,tys]|exact rfl|refine call_off (v:=.any) ?_|(first|(refine call_fn ?_ (hpe _) ?_)|(refine call_fn_g ?_ (fun _=>hpe _) ?_))|(refine call_off (v:=.any) ?_)|refine Ai (by omega) ?_
    all_goals ((refine again_can2 cxG (x+1) [some q] ?_ ?_ ?_ ?_;rotate_left 2;(focus (show b0≤_;omega));(focus (refine⟨?_,?_⟩<;>(try simp only[cans,hq,z0,z1,z2,z3,vcs,seval,tys,injs])<;>(try omega)))))
    all_goals (first|(show s.length-(x+1)<s.length-x;omega)|exact hgo hwc|skip)
  ·have hx':decide ((x:Int)<(s.length:Int))=false:=decide_eq_false (by omega)
   have hxe:s[x]? = none:=List.getElem?_eq_none (by omega)
   have he:=hend (fun d hd=>by rw[hxe]at hd;cases hd)
   have hfe:=full_ev (wordT s) (by unfold lim;rw[← he.1,List.length_take];omega)
   rw[hfl]at hfe
   have e1:s.take x=wordT s:=he.1
   repeat' first|simp only[fins,mems,results164,ntmps164,wks,hxe,hx',h1,h1',hx,e1,goOps_panic,goPan_iface,goEx_code_pan,goEx_blk_pan,goEx_again_pan,panP_at,vcs,seval,tys]|exact rfl|refine call_off (v:=.bool false) ?_|(first|(refine call_fn ?_ (hfe _) ?_)|(refine call_fn_g ?_ (fun _=>hfe _) ?_))|(refine call_pan rfl [q] (no_evp q _ _) ?_)|refine Ai (by omega) ?_
theorem cut_dec {d:UInt8}(hd:d.toNat<128):∀(zs:List Int) (a b:List UInt8),zs.all may=true→enc zs=a++d::b→(dec a).isSome=true∧(dec b).isSome=true
 | [],a,b,_,h=>by
  have:=congrArg List.length h
  simp[enc]at this
 | z::zs,a,b,hm,h=>by
  simp only[List.all_cons,Bool.and_eq_true]at hm
  have e:enc (z::zs)=encodeRune z++enc zs:=by simp[enc]
  have e1:enc [z]=encodeRune z:=by simp[enc]
  have d1:dec (encodeRune z)=some [z]:=by rw[← e1];exact dec_enc [z] (by simp[hm.1])
  rw[e]at h
  rcases List.append_eq_append_iff.1 h with ⟨a',h1,h2⟩|⟨c',h1,h2⟩
  ·obtain⟨k1,k2⟩:=cut_dec hd zs a' b hm.2 h2
   obtain⟨y,hy⟩:=Option.isSome_iff_exists.1 k1
   refine⟨?_,k2⟩
   rw[h1,dec_both d1 hy];rfl
  ·cases c' with
   | nil =>
    simp only[List.append_nil,List.nil_append]at h1 h2
    obtain⟨_,k2⟩:=cut_dec hd zs [] b hm.2 (by rw[← h2];rfl)
    refine⟨?_,k2⟩
    rw[← h1,d1];rfl
   | cons c t =>
    simp only[List.cons_append,List.cons.injEq]at h2
    obtain⟨h2,h3⟩:=h2
    by_cases hz:z<128
    ·have hr:=may_range hm.1
     rw[low_enc (by omega) hz]at h1
     cases a with
     | nil =>
      simp only[List.nil_append,List.cons.injEq]at h1
      rw[← h1.2,List.nil_append]at h3
      exact⟨rfl,by rw[h3,dec_enc zs hm.2];rfl⟩
     | cons a0 a1 =>
      have:=congrArg List.length h1
      simp at this
    ·have:=enc_high (z:=z) (by omega) d (by rw[h1,h2];simp)
     omega
theorem cut_text {d:UInt8}(hd:d.toNat<128){s a b:List UInt8}(h:(dec s).isSome=true)(he:s=a++d::b):(dec a).isSome=true∧(dec b).isSome=true:=by
 obtain⟨zs,hz⟩:=Option.isSome_iff_exists.1 h
 obtain⟨hm,h2⟩:=(dec_iff s zs).1 hz
 exact cut_dec hd zs a b hm (by rw[h2,he])
theorem pre_one (c d:UInt8)(t:List UInt8):preB (c::t) [d]=(c==d):=by
 unfold preB;simp
theorem rValue_ev (s v r:List UInt8)(hs:s.length≤16384)(hd:(dec s).isSome=true)(hv:valueO s=some (v,r))(q:Nat)(M:Mem)(nm:Nat)(hq:M q=some (srcK s))(ho:∀ z,(M z).isSome=true→z∈[q])(hqn:q<nm) :
  Ev cx 167 nm [.ptr q 0 0] M (.str v) [(q,some (srcK r))]:=by
 obtain⟨a,h1,h2⟩:=value_some hv
 obtain⟨k,hk,rfl,hka⟩:=quote_some h1
 have e1:∀(k:UInt8) (t:List UInt8) (y:Bool),t.length≤20000→preB t [k]=y → ∀(M':Mem) (n':Nat),M' q=some ⟨1,[[.str t]]⟩→(∀ z,(M' z).isSome=true→z∈[q])→q<n'→Ev cx 142 n' [.ptr q 0 0,.str [k]] M' (.bool y) [(q,some ⟨1,[[.str (if y then t.drop 1 else t)]]⟩)]:=by
  intro k t y ht hy M' n' h1 h2 h3
  have:=eat_ev t [k] (by unfold lim;omega) (by simp[lim]) q M' n' h1 h2 h3
  rw[hy]at this
  cases y<;>exact this
 have hla:a.length+r.length+2≤16384:=by simpa [Nat.add_assoc,Nat.add_comm,Nat.add_left_comm] using hs
 have hk128:k.toNat<128:=by rcases hk with rfl|rfl<;>decide
 obtain⟨_,hd2⟩:=cut_text hk128 (a:=[]) hd rfl
 obtain⟨hda,hdr⟩:=cut_text hk128 hd2 rfl
 have hcv:=cut_ev (a++k::r) k (by simp[lim];omega)
 have ecv:cutV k (a++k::r) = .tup [.str a,.str r,.bool true]:=by unfold cutV;rw[cut1_of hka]
 rw[ecv]at hcv
 have hmp:=map_ev a (by omega) hda
 unfold flatF at hmp
 have hg:=eGet_ev (a.map flatB) (by rw[Lm];unfold lim;omega)
 rw[getV_some (ptsErr_iff.2 ⟨by rw[Lm];omega,dec_flat hda⟩) h2]at hg
 unfold srcK at hq ⊢
 rcases hk with rfl|rfl
 ·have p1:=e1 39 (39::(a++39::r)) true (by simp;omega) (pre_one _ _ _)
  simp only[if_true,List.drop_succ_cons,List.drop_zero]at p1
  refine ev_go rfl (fun cargs w=>call167 cargs w) func167 rfl mixed (by kernel_rfl) rfl ?_;intro b0 hb0
  have lq:q<b0:=below_of hb0 (by rw[hq];rfl)
  have z0:=lt_ne lq;have z1:=lt_ne_add lq;have z2:=lt_ne' lq;have z3:=lt_ne_add' lq
  repeat' first|simp only[fins,mems,results167,ntmps167,wks,hq,z0,z1,z2,z3,vcs,seval,tys]|exact rfl|refine call_off (v:=.any) ?_|(first|(refine call_fn ?_ (hcv _) ?_)|(refine call_fn_g ?_ (fun _=>hcv _) ?_)|(refine call_fn ?_ (hmp _) ?_)|(refine call_fn_g ?_ (fun _=>hmp _) ?_)|(refine call_fn ?_ (hg _) ?_)|(refine call_fn_g ?_ (fun _=>hg _) ?_))|(refine call_fn_full ?_ [q] (p1 _ _ ?_ only_mem (by omega)) ?_ ?_)|((first|apply Ca|apply Cb)<;>intro hb)|refine Ai (by omega) ?_|(apply Ai<;>intro hb)
  all_goals ((refine Fin.give [(q,none)] [] ?_ ?_ ?_ ?_ ?_ (fun q hq=>by have hqq:=ho q hq;first|(simp only[gives,tgt,Lc,Lo,Lk,Ln,or_false]at hqq ⊢;omega)|(simp only[gives,tgt,Lc,Lo,Lk,Ln,or_false]at hqq))<;>(try simp only[results167,ntmps167,wks,hq,z0,z1,z2,z3,giv,vcs,seval,tys])<;>(try simp only[injs])<;>(try omega)))
 ·have p1:=e1 39 (34::(a++34::r)) false (by simp;omega) (pre_one _ _ _)
  have p2:=e1 34 (34::(a++34::r)) true (by simp;omega) (pre_one _ _ _)
  simp only[if_true,Bool.false_eq_true,if_false,List.drop_succ_cons,List.drop_zero]at p1 p2
  refine ev_go rfl (fun cargs w=>call167 cargs w) func167 rfl mixed (by kernel_rfl) rfl ?_;intro b0 hb0
  have lq:q<b0:=below_of hb0 (by rw[hq];rfl)
  have z0:=lt_ne lq;have z1:=lt_ne_add lq;have z2:=lt_ne' lq;have z3:=lt_ne_add' lq
  repeat' first|simp only[results167,ntmps167,wks,hq,z0,z1,z2,z3,vcs,seval,tys]|exact rfl|((first|(refine call_fn ?_ (hcv _) ?_)|(refine call_fn_g ?_ (fun _=>hcv _) ?_)|(refine call_fn ?_ (hmp _) ?_)|(refine call_fn_g ?_ (fun _=>hmp _) ?_)|(refine call_fn ?_ (hg _) ?_)|(refine call_fn_g ?_ (fun _=>hg _) ?_));(focus (simp only[results167,ntmps167,wks,hq,z0,z1,z2,z3,vcs,seval,tys]<;>exact rfl)))|((refine call_fn_full ?_ [q] (p1 _ _ ?_ only_mem (by omega)) ?_ ?_);iterate 3 (focus (simp only[mems,results167,ntmps167,wks,hq,z0,z1,z2,z3,vcs,seval,tys]<;>exact rfl)))|((refine call_fn_full ?_ [q] (p2 _ _ ?_ only_mem (by omega)) ?_ ?_);iterate 3 (focus (simp only[mems,results167,ntmps167,wks,hq,z0,z1,z2,z3,vcs,seval,tys]<;>exact rfl)))|((first|apply Ca|apply Cb)<;>intro hb)|refine Ai (by omega) ?_|(apply Ai<;>intro hb)
  all_goals ((refine Fin.give [(q,none)] [] ?_ ?_ ?_ ?_ ?_ (fun q hq=>by have hqq:=ho q hq;first|(simp only[gives,tgt,Lc,Lo,Lk,Ln,or_false]at hqq ⊢;omega)|(simp only[gives,tgt,Lc,Lo,Lk,Ln,or_false]at hqq))<;>(try simp only[results167,ntmps167,wks,hq,z0,z1,z2,z3,giv,vcs,seval,tys])<;>(try simp only[injs])<;>(try omega)))
theorem rValue_evp (s:List UInt8)(hs:s.length≤16384)(hd:(dec s).isSome=true)(hv:valueO s=none)(q:Nat)(M:Mem)(nm:Nat)(hq:M q=some (srcK s))(ho:∀ z,(M z).isSome=true→z∈[q])(hqn:q<nm) :
  EvP cx 167 nm [.ptr q 0 0] M noV:=by
 have e1:∀(k:UInt8) (t:List UInt8) (y:Bool),t.length≤20000→preB t [k]=y → ∀(M':Mem) (n':Nat),M' q=some ⟨1,[[.str t]]⟩→(∀ z,(M' z).isSome=true→z∈[q])→q<n'→Ev cx 142 n' [.ptr q 0 0,.str [k]] M' (.bool y) [(q,some ⟨1,[[.str (if y then t.drop 1 else t)]]⟩)]:=by
  intro k t y ht hy M' n' h1 h2 h3
  have:=eat_ev t [k] (by unfold lim;omega) (by simp[lim]) q M' n' h1 h2 h3
  rw[hy]at this
  cases y<;>exact this
 unfold srcK at hq
 by_cases hk:∃ k t,s=k::t∧(k=39∨k=34)
 ·obtain⟨k,t,rfl,hk⟩:=hk
  have hk128:k.toNat<128:=by rcases hk with rfl|rfl<;>decide
  obtain⟨_,hd2⟩:=cut_text hk128 (a:=[]) hd rfl
  have hlt:t.length+1≤16384:=by simpa using hs
  have hcv:=cut_ev t k (by unfold lim;omega)
  cases hc:cut1 k t with
  | none =>
   have ecv:cutV k t = .tup [.str t,.str [],.bool false]:=by unfold cutV;rw[hc]
   rw[ecv]at hcv
   rcases hk with rfl|rfl
   ·have p1:=e1 39 (39::t) true (by simp;omega) (pre_one _ _ _)
    simp only[if_true,List.drop_succ_cons,List.drop_zero]at p1
    refine evp_go rfl cxG rfl (fun cargs w=>call167 cargs w) func167 rfl mixed (by kernel_rfl) rfl ?_;intro b0 hb0
    have lq:q<b0:=below_of hb0 (by rw[hq];rfl)
    have z0:=lt_ne lq;have z1:=lt_ne_add lq;have z2:=lt_ne' lq;have z3:=lt_ne_add' lq
    repeat' first|simp only[fins,mems,results167,ntmps167,wks,hq,z0,z1,z2,z3,goOps_panic,goPan_iface,goEx_code_pan,goEx_blk_pan,goEx_again_pan,panP_at,vcs,seval,tys]|exact rfl|refine call_off (v:=.any) ?_|(first|(refine call_fn ?_ (hcv _) ?_)|(refine call_fn_g ?_ (fun _=>hcv _) ?_))|(refine call_fn_full ?_ [q] (p1 _ _ ?_ only_mem (by omega)) ?_ ?_)|(refine call_pan rfl [q] (no_evp q _ _) ?_)|((first|apply Ca|apply Cb)<;>intro hb)|refine Ai (by omega) ?_|(apply Ai<;>intro hb)
   ·have p1:=e1 39 (34::t) false (by simp;omega) (pre_one _ _ _)
    have p2:=e1 34 (34::t) true (by simp;omega) (pre_one _ _ _)
    simp only[if_true,Bool.false_eq_true,if_false,List.drop_succ_cons,List.drop_zero]at p1 p2
    refine evp_go rfl cxG rfl (fun cargs w=>call167 cargs w) func167 rfl mixed (by kernel_rfl) rfl ?_;intro b0 hb0
    have lq:q<b0:=below_of hb0 (by rw[hq];rfl)
    have z0:=lt_ne lq;have z1:=lt_ne_add lq;have z2:=lt_ne' lq;have z3:=lt_ne_add' lq
    repeat' first|simp only[results167,ntmps167,wks,hq,z0,z1,z2,z3,goOps_panic,goPan_iface,goEx_code_pan,goEx_blk_pan,goEx_again_pan,panP_at,vcs,seval,tys]|exact rfl|((first|(refine call_fn ?_ (hcv _) ?_)|(refine call_fn_g ?_ (fun _=>hcv _) ?_));(focus (simp only[results167,ntmps167,wks,hq,z0,z1,z2,z3,goOps_panic,goPan_iface,goEx_code_pan,goEx_blk_pan,goEx_again_pan,panP_at,vcs,seval,tys]<;>exact rfl)))|((refine call_fn_full ?_ [q] (p1 _ _ ?_ only_mem (by omega)) ?_ ?_);iterate 3 (focus (simp only[mems,results167,ntmps167,wks,hq,z0,z1,z2,z3,goOps_panic,goPan_iface,goEx_code_pan,goEx_blk_pan,goEx_again_pan,panP_at,vcs,seval,tys]<;>exact rfl)))|((refine call_fn_full ?_ [q] (p2 _ _ ?_ only_mem (by omega)) ?_ ?_);iterate 3 (focus (simp only[mems,results167,ntmps167,wks,hq,z0,z1,z2,z3,goOps_panic,goPan_iface,goEx_code_pan,goEx_blk_pan,goEx_again_pan,panP_at,vcs,seval,tys]<;>exact rfl)))|(refine call_pan rfl [q] (no_evp q _ _) ?_)|((first|apply Ca|apply Cb)<;>intro hb)|refine Ai (by omega) ?_|(apply Ai<;>intro hb)
  | some p =>
   obtain⟨a,r⟩:=p
   have ecv:cutV k t = .tup [.str a,.str r,.bool true]:=by unfold cutV;rw[hc]
   rw[ecv]at hcv
   obtain⟨he,hka⟩:=cut1_some hc
   obtain⟨hda,hdr⟩:=cut_text hk128 hd2 he
   have hla:a.length≤16384:=by
    have:=congrArg List.length he
    simp at this;omega
   have hto:readL (a.map flatB)=none:=by
    unfold valueO at hv
    rw[quote_cons,if_pos hk,hc]at hv
    simpa [toldO] using hv
   have hmp:=map_ev a (by omega) hda
   unfold flatF at hmp
   have hg:=eGet_ev (a.map flatB) (by rw[Lm];unfold lim;omega)
   rw[getV_none (ptsErr_iff.2 ⟨by rw[Lm];omega,dec_flat hda⟩) hto]at hg
   rcases hk with rfl|rfl
   ·have p1:=e1 39 (39::t) true (by simp;omega) (pre_one _ _ _)
    simp only[if_true,List.drop_succ_cons,List.drop_zero]at p1
    refine evp_go rfl cxG rfl (fun cargs w=>call167 cargs w) func167 rfl mixed (by kernel_rfl) rfl ?_;intro b0 hb0
    have lq:q<b0:=below_of hb0 (by rw[hq];rfl)
    have z0:=lt_ne lq;have z1:=lt_ne_add lq;have z2:=lt_ne' lq;have z3:=lt_ne_add' lq
    repeat' first|simp only[fins,mems,results167,ntmps167,wks,hq,z0,z1,z2,z3,goOps_panic,goPan_iface,goEx_code_pan,goEx_blk_pan,goEx_again_pan,panP_at,vcs,seval,tys]|exact rfl|refine call_off (v:=.any) ?_|(first|(refine call_fn ?_ (hcv _) ?_)|(refine call_fn_g ?_ (fun _=>hcv _) ?_)|(refine call_fn ?_ (hmp _) ?_)|(refine call_fn_g ?_ (fun _=>hmp _) ?_)|(refine call_fn ?_ (hg _) ?_)|(refine call_fn_g ?_ (fun _=>hg _) ?_))|(refine call_fn_full ?_ [q] (p1 _ _ ?_ only_mem (by omega)) ?_ ?_)|(refine call_pan rfl [q] (no_evp q _ _) ?_)|((first|apply Ca|apply Cb)<;>intro hb)|refine Ai (by omega) ?_|(apply Ai<;>intro hb)
   ·have p1:=e1 39 (34::t) false (by simp;omega) (pre_one _ _ _)
    have p2:=e1 34 (34::t) true (by simp;omega) (pre_one _ _ _)
    simp only[if_true,Bool.false_eq_true,if_false,List.drop_succ_cons,List.drop_zero]at p1 p2
    refine evp_go rfl cxG rfl (fun cargs w=>call167 cargs w) func167 rfl mixed (by kernel_rfl) rfl ?_;intro b0 hb0
    have lq:q<b0:=below_of hb0 (by rw[hq];rfl)
    have z0:=lt_ne lq;have z1:=lt_ne_add lq;have z2:=lt_ne' lq;have z3:=lt_ne_add' lq
    repeat' first|simp only[results167,ntmps167,wks,hq,z0,z1,z2,z3,goOps_panic,goPan_iface,goEx_code_pan,goEx_blk_pan,goEx_again_pan,panP_at,vcs,seval,tys]|exact rfl|((first|(refine call_fn ?_ (hcv _) ?_)|(refine call_fn_g ?_ (fun _=>hcv _) ?_)|(refine call_fn ?_ (hmp _) ?_)|(refine call_fn_g ?_ (fun _=>hmp _) ?_)|(refine call_fn ?_ (hg _) ?_)|(refine call_fn_g ?_ (fun _=>hg _) ?_));(focus (simp only[results167,ntmps167,wks,hq,z0,z1,z2,z3,goOps_panic,goPan_iface,goEx_code_pan,goEx_blk_pan,goEx_again_pan,panP_at,vcs,seval,tys]<;>exact rfl)))|((refine call_fn_full ?_ [q] (p1 _ _ ?_ only_mem (by omega)) ?_ ?_);iterate 3 (focus (simp only[mems,results167,ntmps167,wks,hq,z0,z1,z2,z3,goOps_panic,goPan_iface,goEx_code_pan,goEx_blk_pan,goEx_again_pan,panP_at,vcs,seval,tys]<;>exact rfl)))|((refine call_fn_full ?_ [q] (p2 _ _ ?_ only_mem (by omega)) ?_ ?_);iterate 3 (focus (simp only[mems,results167,ntmps167,wks,hq,z0,z1,z2,z3,goOps_panic,goPan_iface,goEx_code_pan,goEx_blk_pan,goEx_again_pan,panP_at,vcs,seval,tys]<;>exact rfl)))|(refine call_pan rfl [q] (no_evp q _ _) ?_)|((first|apply Ca|apply Cb)<;>intro hb)|refine Ai (by omega) ?_|(apply Ai<;>intro hb)
 ·have hn:∀ k:UInt8,k=39∨k=34→preB s [k]=false:=by
   intro k hk2
   cases s with
   | nil=>rfl
   | cons c t =>
    rw[pre_one]
    refine beq_false_of_ne (fun e=>hk ⟨c,t,rfl,?_⟩)
    rw[e];exact hk2
  have p1:=e1 39 s false (by omega) (hn 39 (.inl rfl))
  have p2:=e1 34 s false (by omega) (hn 34 (.inr rfl))
  simp only[Bool.false_eq_true,if_false]at p1 p2
  refine evp_go rfl cxG rfl (fun cargs w=>call167 cargs w) func167 rfl mixed (by kernel_rfl) rfl ?_;intro b0 hb0
  have lq:q<b0:=below_of hb0 (by rw[hq];rfl)
  have z0:=lt_ne lq;have z1:=lt_ne_add lq;have z2:=lt_ne' lq;have z3:=lt_ne_add' lq
  repeat' first|simp only[results167,ntmps167,wks,hq,z0,z1,z2,z3,goOps_panic,goPan_iface,goEx_code_pan,goEx_blk_pan,goEx_again_pan,panP_at,vcs,seval,tys]|exact rfl|((refine call_fn_full ?_ [q] (p1 _ _ ?_ only_mem (by omega)) ?_ ?_);iterate 3 (focus (simp only[mems,results167,ntmps167,wks,hq,z0,z1,z2,z3,goOps_panic,goPan_iface,goEx_code_pan,goEx_blk_pan,goEx_again_pan,panP_at,vcs,seval,tys]<;>exact rfl)))|((refine call_fn_full ?_ [q] (p2 _ _ ?_ only_mem (by omega)) ?_ ?_);iterate 3 (focus (simp only[mems,results167,ntmps167,wks,hq,z0,z1,z2,z3,goOps_panic,goPan_iface,goEx_code_pan,goEx_blk_pan,goEx_again_pan,panP_at,vcs,seval,tys]<;>exact rfl)))|(refine call_pan rfl [q] (no_evp q _ _) ?_)|((first|apply Ca|apply Cb)<;>intro hb)|refine Ai (by omega) ?_|(apply Ai<;>intro hb)
end Go.Proofs.YtjdjclecdfhciaaGreatDoor
namespace Go.Proofs.YtjdjclecdfhciaaGreatDoor
set_option maxRecDepth 100000
set_option maxHeartbeats 32000000
set_option linter.unusedSimpArgs false
set_option linter.unusedVariables false
open Go Go.RowKit Go.Lib
theorem drop_dec {p:UInt8→Bool}(hp:∀ c,p c=true→c.toNat<128):∀ s:List UInt8,(dec s).isSome=true→(dec (s.dropWhile p)).isSome=true
 | [],h=>h
 | c::s,h=>by
  rw[List.dropWhile_cons]
  by_cases hc:p c=true
  ·rw[if_pos hc]
   exact drop_dec hp s (cut_text (hp c hc) (a:=[]) h rfl).2
  ·rw[if_neg hc];exact h
theorem blank_low:∀ c:UInt8,blankB c=true→c.toNat<128:=by
 have key:∀ n:Fin 256,blankB (UInt8.ofNat n.val)=true→n.val<128:=by decide +kernel
 intro c hc
 have:=key ⟨c.toNat,c.toNat_lt⟩ (by simpa using hc)
 exact this
theorem word_low:∀ c:UInt8,wordB c=true→c.toNat<128:=by
 have key:∀ n:Fin 256,wordB (UInt8.ofNat n.val)=true→n.val<128:=by decide +kernel
 intro c hc
 have:=key ⟨c.toNat,c.toNat_lt⟩ (by simpa using hc)
 exact this
theorem skip_dec {s:List UInt8}(h:(dec s).isSome=true):(dec (skipL s)).isSome=true:=drop_dec blank_low s h
theorem name_dec {s n r:List UInt8}(h:(dec s).isSome=true)(hn:nameO s=some (n,r)):(dec r).isSome=true:=by
 rw[←(name_some hn).2.1]
 exact drop_dec word_low s h
theorem value_dec {s v r:List UInt8}(h:(dec s).isSome=true)(hv:valueO s=some (v,r)):(dec r).isSome=true:=by
 obtain⟨a,h1,_⟩:=value_some hv
 obtain⟨k,hk,rfl,_⟩:=quote_some h1
 have hk128:k.toNat<128:=by rcases hk with rfl|rfl<;>decide
 exact(cut_text hk128 (a:=k::a) h rfl).2
theorem attr_dec {s r:List UInt8}{a:Pr}(h:(dec s).isSome=true)(ha:attrO s=some (a,r)):(dec r).isSome=true:=by
 obtain⟨r1,t,h1,h2,h3⟩:=attr_some ha
 have d1:=skip_dec (name_dec h h1)
 rw[h2]at d1
 have d2:=(cut_text (d:=61) (by decide) (a:=[]) d1 rfl).2
 exact value_dec (skip_dec d2) h3
theorem text_dec {s:List UInt8}(h:(dec s).isSome=true):(dec (textT s)).isSome=true∧(dec (textR s)).isSome=true:=by
 have e:s=textT s++textR s:=(List.takeWhile_append_dropWhile).symm
 cases hr:textR s with
 | nil =>
  rw[hr,List.append_nil]at e
  rw[← e];exact⟨h,rfl⟩
 | cons c t =>
  have hc:textB c=false:=by
   have:=List.head?_dropWhile_not textB s
   unfold textR at hr
   rw[hr]at this
   simpa using this
  have hc60:c=60:=by simpa [textB] using hc
  rw[hr]at e
  subst hc60
  obtain⟨h1,h2⟩:=cut_text (d:=60) (by decide) h e
  refine⟨h1,?_⟩
  have d60:dec [60]=some [60]:=by decide +kernel
  obtain⟨y,hy⟩:=Option.isSome_iff_exists.1 h2
  rw[show(60:UInt8)::t=[60]++t from rfl,dec_both d60 hy];rfl
end Go.Proofs.YtjdjclecdfhciaaGreatDoor
namespace Go.Proofs.YtjdjclecdfhciaaGreatDoor
set_option maxRecDepth 100000
set_option maxHeartbeats 32000000
set_option linter.unusedSimpArgs false
set_option linter.unusedVariables false
open Go Go.RowKit Vm Go.Lib Tryz
open Vm renaming cond_bool→Ca,cond_bit→Cb
open And renaming intro→Ai
open List renaming length_map→Lm,not_mem_nil→Ln,map_nil→Lo,map_cons→Lc,mem_cons→Lk
open Bool renaming not_false→Bf,not_true→Bt
theorem eatI_ev (s p:List UInt8)(y:Bool)(hs:s.length≤20000)(hp:p.length≤100)(hy:preB s p=y)(q:Nat)(M:Mem)(nm:Nat)(hq:M q=some ⟨1,[[.str s]]⟩)(ho:∀ z,(M z).isSome=true→z∈[q])(hqn:q<nm) :
  Ev cx 142 nm [.ptr q 0 0,.str p] M (.bool y) [(q,some ⟨1,[[.str (if y then s.drop p.length else s)]]⟩)]:=by
 have:=eat_ev s p (by unfold lim;omega) (by unfold lim;omega) q M nm hq ho hqn
 rw[hy]at this
 cases y<;>exact this
theorem after_pre {c:UInt8}{s:List UInt8} : preB s [c]=(afterO c s).isSome:=by
 cases s with
 | nil=>rfl
 | cons d t =>
  rw[pre_one,after_cons]
  by_cases h:d=c
  ·rw[if_pos h,h];simp
  ·rw[if_neg h];simpa using h
theorem rEnd_ev (s t n r r2:List UInt8)(hs:s.length≤16384)(h1:afterO 47 s=some t)(h2:nameO t=some (n,r))(h3:afterO 62 (skipL r)=some r2)(q:Nat)(M:Mem)(nm:Nat)(hq:M q=some (srcK s))(ho:∀ z,(M z).isSome=true→z∈[q])(hqn:q<nm) :
  Ev cx 143 nm [.ptr q 0 0] M (.agg [.int .u8 2,.str n,.nils,.str []]) [(q,some (srcK r2))]:=by
 obtain rfl:=after_some h1
 have hk:=after_some h3
 have l1:t.length+1≤16384:=by simpa using hs
 obtain⟨_,_,_,l2⟩:=name_lt h2
 have l3:=skip_le r
 have p1:∀(M':Mem) (n':Nat),M' q=some ⟨1,[[.str (47::t)]]⟩→(∀ z,(M' z).isSome=true→z∈[q])→q<n'→Ev cx 142 n' [.ptr q 0 0,.str [47]] M' (.bool true) [(q,some ⟨1,[[.str t]]⟩)]:=fun M' n' a b c=>by
  have:=eatI_ev (47::t) [47] true (by omega) (by decide) (by rw[pre_one];rfl) q M' n' a b c
  exact this
 have p2:∀(M':Mem) (n':Nat),M' q=some ⟨1,[[.str (skipL r)]]⟩→(∀ z,(M' z).isSome=true→z∈[q])→q<n'→Ev cx 142 n' [.ptr q 0 0,.str [62]] M' (.bool true) [(q,some ⟨1,[[.str r2]]⟩)]:=fun M' n' a b c=>by
  rw[hk]at a l3
  have:=eatI_ev (62::r2) [62] true (by omega) (by decide) (by rw[pre_one];rfl) q M' n' a b c
  exact this
 have hn:=sName_ev t n r (by omega) h2
 have hsk:=skip_ev r (by unfold lim;omega)
 unfold srcK at hq hn hsk ⊢
 refine ev_go rfl (fun cargs w=>call143 cargs w) func143 rfl mixed (by kernel_rfl) rfl ?_;intro b0 hb0
 have lq:q<b0:=below_of hb0 (by rw[hq];rfl)
 have z0:=lt_ne lq;have z1:=lt_ne_add lq;have z2:=lt_ne' lq;have z3:=lt_ne_add' lq
 repeat' first|simp only[results143,ntmps143,wks,hq,z0,z1,z2,z3,vcs,seval,tys]|exact rfl|((first|(refine call_fn_full ?_ [q] (p1 _ _ ?_ only_mem (by omega)) ?_ ?_)|(refine call_fn_full ?_ [q] (hn q _ _ ?_ only_mem (by omega)) ?_ ?_)|(refine call_fn_full ?_ [q] (hsk q _ _ ?_ only_mem (by omega)) ?_ ?_));iterate 3 (focus (simp only[mems,results143,ntmps143,wks,hq,z0,z1,z2,z3,vcs,seval,tys]<;>exact rfl)))|((refine call_fn_full ?_ [q] (p2 _ _ ?_ only_mem (by omega)) ?_ ?_);iterate 3 (focus (simp only[mems,results143,ntmps143,wks,hq,z0,z1,z2,z3,vcs,seval,tys]<;>exact rfl)))|((first|apply Ca|apply Cb)<;>intro hb)|refine Ai (by omega) ?_|(apply Ai<;>intro hb)
 all_goals ((refine Fin.give [(q,none)] [] ?_ ?_ ?_ ?_ ?_ (fun q hq=>by have hqq:=ho q hq;first|(simp only[gives,tgt,Lc,Lo,Lk,Ln,or_false]at hqq ⊢;omega)|(simp only[gives,tgt,Lc,Lo,Lk,Ln,or_false]at hqq))<;>(try simp only[results143,ntmps143,wks,hq,z0,z1,z2,z3,giv,vcs,seval,tys])<;>(try simp only[injs])<;>(try omega)))
theorem rEnd_evp (s t:List UInt8)(hs:s.length≤16384)(h1:afterO 47 s=some t)(hno:tagO s=none)(q:Nat)(M:Mem)(nm:Nat)(hq:M q=some (srcK s))(ho:∀ z,(M z).isSome=true→z∈[q])(hqn:q<nm) :
  EvP cx 143 nm [.ptr q 0 0] M noV:=by
 obtain rfl:=after_some h1
 have l1:t.length+1≤16384:=by simpa using hs
 have p1:∀(M':Mem) (n':Nat),M' q=some ⟨1,[[.str (47::t)]]⟩→(∀ z,(M' z).isSome=true→z∈[q])→q<n'→Ev cx 142 n' [.ptr q 0 0,.str [47]] M' (.bool true) [(q,some ⟨1,[[.str t]]⟩)]:=fun M' n' a b c=>by
  have:=eatI_ev (47::t) [47] true (by omega) (by decide) (by rw[pre_one];rfl) q M' n' a b c
  exact this
 unfold srcK at hq
 cases h2:nameO t with
 | none =>
  have hn:=sName_evp t (by omega) h2
  unfold srcK at hn
  refine evp_go rfl cxG rfl (fun cargs w=>call143 cargs w) func143 rfl mixed (by kernel_rfl) rfl ?_;intro b0 hb0
  have lq:q<b0:=below_of hb0 (by rw[hq];rfl)
  have z0:=lt_ne lq;have z1:=lt_ne_add lq;have z2:=lt_ne' lq;have z3:=lt_ne_add' lq
  repeat' first|simp only[results143,ntmps143,wks,hq,z0,z1,z2,z3,goOps_panic,goPan_iface,goEx_code_pan,goEx_blk_pan,goEx_again_pan,panP_at,vcs,seval,tys]|exact rfl|((refine call_fn_full ?_ [q] (p1 _ _ ?_ only_mem (by omega)) ?_ ?_);iterate 3 (focus (simp only[mems,results143,ntmps143,wks,hq,z0,z1,z2,z3,goOps_panic,goPan_iface,goEx_code_pan,goEx_blk_pan,goEx_again_pan,panP_at,vcs,seval,tys]<;>exact rfl)))|((first|apply Ca|apply Cb)<;>intro hb)|refine Ai (by omega) ?_|(apply Ai<;>intro hb)
  refine call_pan rfl [q] (hn q _ _ ?_ only_mem (by omega)) ?_
  ·simp only[mems,wks,hq,z0,z1,z2,z3,vcs,seval,tys]<;>exact rfl
  ·simp only[goEx_code_pan,goEx_blk_pan,goEx_again_pan,panP_at,noV]
 | some p =>
  obtain⟨n,r⟩:=p
  obtain⟨_,_,_,l2⟩:=name_lt h2
  have l3:=skip_le r
  have h3:afterO 62 (skipL r)=none:=by
   unfold tagO at hno
   rw[h1]at hno
   simp only[h2,Option.bind_some,Option.map_eq_none_iff]at hno
   exact hno
  have hn:=sName_ev t n r (by omega) h2
  have hsk:=skip_ev r (by unfold lim;omega)
  have p2:=eatI_ev (skipL r) [62] false (by omega) (by decide) (by rw[after_pre,h3];rfl)
  simp only[Bool.false_eq_true,if_false]at p2
  unfold srcK at hn hsk
  refine evp_go rfl cxG rfl (fun cargs w=>call143 cargs w) func143 rfl mixed (by kernel_rfl) rfl ?_;intro b0 hb0
  have lq:q<b0:=below_of hb0 (by rw[hq];rfl)
  have z0:=lt_ne lq;have z1:=lt_ne_add lq;have z2:=lt_ne' lq;have z3:=lt_ne_add' lq
  repeat' first|simp only[results143,ntmps143,wks,hq,z0,z1,z2,z3,goOps_panic,goPan_iface,goEx_code_pan,goEx_blk_pan,goEx_again_pan,panP_at,vcs,seval,tys]|exact rfl|((first|(refine call_fn_full ?_ [q] (p1 _ _ ?_ only_mem (by omega)) ?_ ?_)|(refine call_fn_full ?_ [q] (hn q _ _ ?_ only_mem (by omega)) ?_ ?_)|(refine call_fn_full ?_ [q] (hsk q _ _ ?_ only_mem (by omega)) ?_ ?_));iterate 3 (focus (simp only[mems,results143,ntmps143,wks,hq,z0,z1,z2,z3,goOps_panic,goPan_iface,goEx_code_pan,goEx_blk_pan,goEx_again_pan,panP_at,vcs,seval,tys]<;>exact rfl)))|((refine call_fn_full ?_ [q] (p2 q _ _ ?_ only_mem (by omega)) ?_ ?_);iterate 3 (focus (simp only[mems,results143,ntmps143,wks,hq,z0,z1,z2,z3,goOps_panic,goPan_iface,goEx_code_pan,goEx_blk_pan,goEx_again_pan,panP_at,vcs,seval,tys]<;>exact rfl)))|(refine call_pan rfl [q] (no_evp q _ _) ?_)|((first|apply Ca|apply Cb)<;>intro hb)|refine Ai (by omega) ?_|(apply Ai<;>intro hb)
def idxI (o:Option Nat):Int:=match o with|some n=>n|none=>-1
theorem idxI_some (n:Nat):idxI (some n)=n:=rfl
theorem idxI_none:idxI none = -1:=rfl
theorem find_at2 {α:Type}{p:α→Bool} : ∀ {l:List α} {k:Nat} {x:α},(l.take k).any p=false→l[k]? = some x→p x=true→l.findIdx? p=some k
 | [],k,x,_,h,_=>by simp at h
 | y::l,0,x,_,h,hp=>by simp at h;subst h;simp[List.findIdx?_cons,hp]
 | y::l,k+1,x,hn,h,hp=>by
  simp only[List.take_succ_cons,List.any_cons,Bool.or_eq_false_iff]at hn
  rw[List.findIdx?_cons,hn.1]
  simp[find_at2 (l:=l) (k:=k) (x:=x) hn.2 (by simpa using h) hp]
theorem find_none2 {α:Type}{p:α→Bool}{l:List α}(h:l.any p=false):l.findIdx? p=none:=by
 simpa [List.findIdx?_eq_none_iff] using h
theorem any_none {α:Type}{p:α→Bool}{l:List α}(h:l.findIdx? p=none):l.any p=false:=by
 simpa [List.findIdx?_eq_none_iff] using h
theorem any_some {α:Type}{p:α→Bool}{l:List α}{n:Nat}(h:l.findIdx? p=some n):l.any p=true:=by
 cases ha:l.any p with
 | true=>rfl
 | false=>rw[find_none2 ha]at h;cases h
theorem finL_caps {caps:List V}(h:plainL caps=true)(σ:List (Nat×Nat))(M:Mem):finL σ M caps=caps:=(finL_plain σ M caps h).1
theorem finLOk_caps {caps:List V}(h:plainL caps=true)(σ:List (Nat×Nat))(M:Mem):finLOk σ M caps=True:=eq_true (finL_plain σ M caps h).2
theorem indexpr_ev (l:List Pr)(f:Nat)(caps:List V)(p:Pr→Bool)(hf:∀ h∈l,∀ nm,Ev cx f nm (.agg (prC h)::caps) Mem.nil (.bool (p h)) [])(hn:l.length≤lim)(hpl:plainL caps=true)(nm:Nat):Ev cx 133 nm [.sl false 2 (l.map prC),.fn f caps] Mem.nil (.int .i64 (idxI (l.findIdx? p))) []:=by
 unfold lim at hn
 refine ev_go rfl (fun cargs w=>call133 cargs w) func133 rfl mixed (by kernel_rfl) rfl ?_;intro b0 hb0
 repeat' first|simp only[fins,mems,results133,ntmps133,wks,vcs,seval,tys]|exact rfl|refine call_off (v:=.any) ?_|((first|(refine call_val (g:=?_) ?_ ?_)|(refine call_valg (g:=?_) ?_ ?_));rotate_left 1;(focus (simp only[results133,ntmps133,wks,vcs,seval,tys]<;>exact rfl)))|((first|apply Ca|apply Cb)<;>intro hb)|refine Ai (by omega) ?_|(apply Ai<;>intro hb)
 (refine loop_can2 cxG (fun x:Nat=>l.length-x) (fun x=>x≤l.length∧(l.take x).any p=false) (b0+16) (fun x=>[(0,.sl false 2 (l.map prC)),(1,.fn f caps),(7,.int .i64 l.length),(8,.int .i64 x)]) (fun x=>[]) (0) [] ?_ ?_ ?_ ?_;rotate_left 1;(focus (show b0≤_;omega));(focus (refine⟨?_,?_⟩<;>(try simp only[cans,Lm,plain_pr,finL_caps hpl,finLOk_caps hpl,vcs,seval,tys,injs])<;>(try omega)));rotate_left 1)
 ·exact⟨Nat.zero_le _,by simp⟩
 ·rintro k ⟨hk,hno⟩
  by_cases hlt:k<l.length
  ·obtain⟨h,hh⟩:∃ h,l[k]? = some h:=⟨_,List.getElem?_eq_getElem hlt⟩
   have hat:(l.map prC)[k]? = some (prC h):=by rw[List.getElem?_map,hh];rfl
   have hd:decide (k<l.length)=true:=decide_eq_true hlt
   have hwk:IntKind.i64.wrap ((k:Int)+1)=((k+1:Nat):Int):=wrap_in (by omega) (by omega)
   have hfh:=hf h (List.mem_of_getElem? hh)
   cases hp:p h with
   | true =>
    have hfd:=find_at2 hno hh hp
    rw[hp]at hfh
    (repeat' first|simp only[fins,mems,results133,ntmps133,wks,hat,prC,hlt,hd,hwk,hfd,idxI_some,Lm,vcs,seval,tys]|exact rfl|refine call_off (v:=.any) ?_|refine call_pure (g:=f) (caps:=caps) (by simp only[results133,ntmps133,wks,hat,prC,hlt,hd,hwk,hfd,idxI_some,Lm,vcs,seval,tys]<;>exact rfl) (by simp only[results133,ntmps133,wks,hat,prC,hlt,hd,hwk,hfd,idxI_some,Lm,vcs,seval,tys]<;>exact rfl) (hfh _) ?_|((first|(refine call_val (g:=?_) ?_ ?_)|(refine call_valg (g:=?_) ?_ ?_));rotate_left 1;(focus (simp only[results133,ntmps133,wks,hat,prC,hlt,hd,hwk,hfd,idxI_some,Lm,vcs,seval,tys]<;>exact rfl)))|((first|apply Ca|apply Cb)<;>intro hb)|refine Ai (by omega) ?_|(apply Ai<;>intro hb)|refine Fin.pure ?_ ?_ ?_|simp only[injs])
   | false =>
    have hn':=notany_succ (p:=p) hno hh hp
    rw[hp]at hfh
    repeat' first|simp only[fins,mems,results133,ntmps133,wks,hat,prC,hlt,hd,hwk,Lm,vcs,seval,tys]|exact rfl|refine call_off (v:=.any) ?_|refine call_pure (g:=f) (caps:=caps) (by simp only[results133,ntmps133,wks,hat,prC,hlt,hd,hwk,Lm,vcs,seval,tys]<;>exact rfl) (by simp only[results133,ntmps133,wks,hat,prC,hlt,hd,hwk,Lm,vcs,seval,tys]<;>exact rfl) (hfh _) ?_|((first|(refine call_val (g:=?_) ?_ ?_)|(refine call_valg (g:=?_) ?_ ?_));rotate_left 1;(focus (simp only[results133,ntmps133,wks,hat,prC,hlt,hd,hwk,Lm,vcs,seval,tys]<;>exact rfl)))|((first|apply Ca|apply Cb)<;>intro hb)|refine Ai (by omega) ?_|(apply Ai<;>intro hb)
    all_goals ((refine again_can2 cxG (k+1) [] ?_ ?_ ?_ ?_;rotate_left 2;(focus (show b0≤_;omega));(focus (refine⟨?_,?_⟩<;>(try simp only[cans,plain_pr,finL_caps hpl,finLOk_caps hpl,hwk,vcs,seval,tys,injs])<;>(try omega)))))
    all_goals (first|(show l.length-(k+1)<l.length-k;omega)|exact⟨hlt,hn'⟩|skip)
  ·have hke:k=l.length:=by omega
   subst hke
   rw[List.take_length]at hno
   have hfd:=find_none2 hno
   have hd:decide (l.length<l.length)=false:=decide_eq_false (by omega)
   (repeat' first|simp only[fins,mems,results133,ntmps133,wks,hd,hfd,idxI_none,Lm,vcs,seval,tys]|exact rfl|refine call_off (v:=.any) ?_|((first|(refine call_val (g:=?_) ?_ ?_)|(refine call_valg (g:=?_) ?_ ?_));rotate_left 1;(focus (simp only[results133,ntmps133,wks,hd,hfd,idxI_none,Lm,vcs,seval,tys]<;>exact rfl)))|((first|apply Ca|apply Cb)<;>intro hb)|refine Ai (by omega) ?_|(apply Ai<;>intro hb)|refine Fin.pure ?_ ?_ ?_|simp only[injs])
theorem containspr_ev (l:List Pr)(f:Nat)(caps:List V)(p:Pr→Bool)(hf:∀ h∈l,∀ nm,Ev cx f nm (.agg (prC h)::caps) Mem.nil (.bool (p h)) [])(hn:l.length≤lim)(hpl:plainL caps=true)(nm:Nat):Ev cx 106 nm [.sl false 2 (l.map prC),.fn f caps] Mem.nil (.bool (l.any p)) []:=by
 have hi:=indexpr_ev l f caps p hf hn hpl
 cases h:l.findIdx? p with
 | none =>
  have ha:l.any p=false:=any_none h
  rw[h]at hi
  refine ev_go rfl (fun cargs w=>call106 cargs w) func106 rfl mixed (by kernel_rfl) rfl ?_;intro b0 hb0
  (repeat' first|simp only[fins,mems,results106,ntmps106,wks,ha,idxI_none,vcs,seval,tys]|exact rfl|refine call_off (v:=.any) ?_|(first|(refine call_fn ?_ (hi _) ?_)|(refine call_fn_g ?_ (fun _=>hi _) ?_))|((first|apply Ca|apply Cb)<;>intro hb)|refine Ai (by omega) ?_|(apply Ai<;>intro hb)|refine Fin.pure ?_ ?_ ?_|simp only[injs])
 | some n =>
  have ha:l.any p=true:=any_some h
  rw[h]at hi
  have hz:decide ((0:Int)≤(n:Int))=true:=decide_eq_true (by omega)
  refine ev_go rfl (fun cargs w=>call106 cargs w) func106 rfl mixed (by kernel_rfl) rfl ?_;intro b0 hb0
  (repeat' first|simp only[fins,mems,results106,ntmps106,wks,ha,idxI_some,hz,vcs,seval,tys]|exact rfl|refine call_off (v:=.any) ?_|(first|(refine call_fn ?_ (hi _) ?_)|(refine call_fn_g ?_ (fun _=>hi _) ?_))|((first|apply Ca|apply Cb)<;>intro hb)|refine Ai (by omega) ?_|(apply Ai<;>intro hb)|refine Fin.pure ?_ ?_ ?_|simp only[injs])
theorem tag1_ev (a b:Pr)(nm:Nat):Ev cx 166 nm [.agg (prC b),.rp (prC a)] Mem.nil (.bool (a.name==b.name)) []:=by
 refine ev_go rfl (fun cargs w=>call166 cargs w) func166 rfl mixed (by kernel_rfl) rfl ?_;intro b0 hb0
 (repeat' first|simp only[fins,mems,results166,ntmps166,wks,prC,vcs,seval,tys]|exact rfl|refine call_off (v:=.any) ?_|((first|apply Ca|apply Cb)<;>intro hb)|refine Ai (by omega) ?_|(apply Ai<;>intro hb)|refine Fin.pure ?_ ?_ ?_|simp only[injs])
theorem twice_ev (l:List Pr)(a:Pr)(hn:l.length≤lim)(nm:Nat):Ev cx 106 nm [.sl false 2 (l.map prC),.fn 166 [.rp (prC a)]] Mem.nil (.bool (l.any fun b=>a.name==b.name)) [] :=
 containspr_ev l 166 [.rp (prC a)] (fun b=>a.name==b.name) (fun b _ nm=>tag1_ev a b nm) hn rfl nm
end Go.Proofs.YtjdjclecdfhciaaGreatDoor
namespace Go.Proofs.YtjdjclecdfhciaaGreatDoor
set_option maxRecDepth 100000
set_option maxHeartbeats 32000000
set_option linter.unusedSimpArgs false
set_option linter.unusedVariables false
open Go Go.RowKit Go.Lib
theorem end_one {s:List UInt8}(h:preB s [62]=true):∃ t,s=62::t∧endO s=some (1,t):=by
 cases s with
 | nil=>cases h
 | cons c t =>
  rw[pre_one]at h
  obtain rfl:=eq_of_beq h
  exact⟨t,rfl,rfl⟩
theorem end_three {s:List UInt8}(h:preB s [47,62]=true):∃ t,s=47::62::t∧endO s=some (3,t):=by
 match s,h with
 | [],h=>cases h
 | [c],h=>simp[preB]at h
 | c::d::t,h =>
  simp[preB]at h
  obtain⟨rfl,rfl⟩:=h
  exact⟨t,rfl,rfl⟩
theorem end_none {s:List UInt8}(h1:preB s [62]=false)(h2:preB s [47,62]=false):endO s=none:=by
 unfold endO
 split
 ·rw[pre_one]at h1;simp at h1
 ·simp[preB]at h2
 ·rfl
end Go.Proofs.YtjdjclecdfhciaaGreatDoor
namespace Go.Proofs.YtjdjclecdfhciaaGreatDoor
set_option maxRecDepth 100000
set_option maxHeartbeats 32000000
set_option linter.unusedSimpArgs false
set_option linter.unusedVariables false
open Go Go.RowKit Vm Go.Lib Tryz
open Vm renaming cond_bool→Ca,cond_bit→Cb
open And renaming intro→Ai
open List renaming length_map→Lm,not_mem_nil→Ln,map_nil→Lo,map_cons→Lc,mem_cons→Lk
open Bool renaming not_false→Bf,not_true→Bt
structure TSt where
 l:List Pr
 rest:List UInt8
theorem rTag_ev (s n r0 r:List UInt8)(k:Nat)(l:List Pr)(hs:s.length≤16384)(hd:(dec s).isSome=true)(h1:afterO 47 s=none)(h2:nameO s=some (n,r0))(h3:tagL n [] r0=some (⟨k,n,l,[]⟩,r))(q:Nat)(M:Mem)(nm:Nat)(hq:M q=some (srcK s))(ho:∀ z,(M z).isSome=true→z∈[q])(hqn:q<nm) :
    Ev cx 143 nm [.ptr q 0 0] M (.agg [.int .u8 k,.str n,.own nm 0 l.length,.str []]) [(q,some (srcK r)),(nm,some ⟨2,l.map prC⟩)]:=by
  have p1:=eatI_ev s [47] false (by omega) (by decide) (by rw[after_pre,h1];rfl)
  simp only[Bool.false_eq_true,if_false]at p1
  have hn:=sName_ev s n r0 (by omega) h2
  obtain⟨_,_,_,l2⟩:=name_lt h2
  have hd0:=name_dec hd h2
  unfold srcK at hq hn ⊢
  refine ev_go rfl (fun cargs w=>call143 cargs w) func143 rfl mixed (by kernel_rfl) rfl ?_;intro b0 hb0
  have lq:q<b0:=below_of hb0 (by rw[hq];rfl)
  have z0:=lt_ne lq;have z1:=lt_ne_add lq;have z2:=lt_ne' lq;have z3:=lt_ne_add' lq
  repeat' first|simp only[results143,ntmps143,wks,hq,z0,z1,z2,z3,vcs,seval,tys]|exact rfl|((first|(refine call_fn_full ?_ [q] (p1 q _ _ ?_ only_mem (by omega)) ?_ ?_)|(refine call_fn_full ?_ [q] (hn q _ _ ?_ only_mem (by omega)) ?_ ?_));iterate 3 (focus (simp only[mems,results143,ntmps143,wks,hq,z0,z1,z2,z3,vcs,seval,tys]<;>exact rfl)))|((first|apply Ca|apply Cb)<;>intro hb)|refine Ai (by omega) ?_|(apply Ai<;>intro hb)
  (refine loop_can2 cxG (fun x:TSt=>x.rest.length) (fun x=>tagL n x.l x.rest=some (⟨k,n,l,[]⟩,r)∧(dec x.rest).isSome=true∧x.rest.length+x.l.length≤16384) (b0+16) (fun x=>[(0,.ptr q 0 0),(2,.ptr b0 0 0)]) (fun x=>[(q,⟨1,[[.str x.rest]]⟩),(b0,⟨4,[[.int .u8 0,.str n,.own (b0+1) 0 x.l.length,.str []]]⟩),(b0+1,⟨2,x.l.map prC⟩)]) (⟨[],r0⟩) [some q,some b0,none] ?_ ?_ ?_ ?_;rotate_left 1;(focus (show b0≤_;omega));(focus (refine⟨?_,?_⟩<;>(try simp only[cans,hq,z0,z1,z2,z3,isRow_inst,Lo,List.length_nil,vcs,seval,tys,injs])<;>(try omega)));rotate_left 1)
  · exact⟨h3,hd0,by show r0.length+0≤16384;omega⟩
  · rintro ⟨xl,xr⟩ ⟨g1,g2,g3⟩
    dsimp only at g1 g2 g3 ⊢
    have gl:=skip_le xr
    have hsk:=skip_ev xr (by unfold lim;omega)
    unfold srcK at hsk
    have hnl:(xl.map prC).length=xl.length:=Lm _
    by_cases e62:preB (skipL xr) [62]=true
    · obtain⟨t,ht,hen⟩:=end_one e62
      rw[tag_end hen]at g1
      simp only[Option.some.injEq,Prod.mk.injEq,Tk.mk.injEq,true_and,and_true]at g1
      obtain⟨⟨rfl,rfl⟩,rfl⟩:=g1
      have p62:=eatI_ev (skipL xr) [62] true (by omega) (by decide) e62
      simp only[if_true,ht,List.drop_succ_cons,List.drop_zero,List.length_cons,List.length_nil]at p62 hsk
      repeat' first|simp only[results143,ntmps143,wks,hq,z0,z1,z2,z3,vcs,seval,tys]|exact rfl|((first|(refine call_fn_full ?_ [q] (hsk q _ _ ?_ only_mem (by omega)) ?_ ?_)|(refine call_fn_full ?_ [q] (p62 q _ _ ?_ only_mem (by omega)) ?_ ?_));iterate 3 (focus (simp only[mems,results143,ntmps143,wks,hq,z0,z1,z2,z3,vcs,seval,tys]<;>exact rfl)))|((first|apply Ca|apply Cb)<;>intro hb)|refine Ai (by omega) ?_|(apply Ai<;>intro hb)
      all_goals ((refine Fin.give [(q,none),(b0+1,some 0)] [] ?_ ?_ ?_ ?_ ?_ (fun q hq=>by have hqq:=ho q hq;first|(simp only[gives,tgt,Lc,Lo,Lk,Ln,or_false]at hqq ⊢;omega)|(simp only[gives,tgt,Lc,Lo,Lk,Ln,or_false]at hqq))<;>(try simp only[results143,ntmps143,wks,hq,plain_pr,z0,z1,z2,z3,giv,vcs,seval,tys])<;>(try simp only[injs])<;>(try omega)))
    · have e62':preB (skipL xr) [62]=false:=by simpa using e62
      have p62:=eatI_ev (skipL xr) [62] false (by omega) (by decide) e62'
      simp only[Bool.false_eq_true,if_false]at p62
      by_cases e47:preB (skipL xr) [47,62]=true
      · obtain⟨t,ht,hen⟩:=end_three e47
        rw[tag_end hen]at g1
        simp only[Option.some.injEq,Prod.mk.injEq,Tk.mk.injEq,true_and,and_true]at g1
        obtain⟨⟨rfl,rfl⟩,rfl⟩:=g1
        have p63:=eatI_ev (skipL xr) [47,62] true (by omega) (by decide) e47
        simp only[if_true,ht,List.drop_succ_cons,List.drop_zero,List.length_cons,List.length_nil]at p62 p63 hsk
        repeat' first|simp only[results143,ntmps143,wks,hq,z0,z1,z2,z3,vcs,seval,tys]|exact rfl|((first|(refine call_fn_full ?_ [q] (hsk q _ _ ?_ only_mem (by omega)) ?_ ?_)|(refine call_fn_full ?_ [q] (p62 q _ _ ?_ only_mem (by omega)) ?_ ?_));iterate 3 (focus (simp only[mems,results143,ntmps143,wks,hq,z0,z1,z2,z3,vcs,seval,tys]<;>exact rfl)))|((refine call_fn_full ?_ [q] (p63 q _ _ ?_ only_mem (by omega)) ?_ ?_);iterate 3 (focus (simp only[mems,results143,ntmps143,wks,hq,z0,z1,z2,z3,vcs,seval,tys]<;>exact rfl)))|((first|apply Ca|apply Cb)<;>intro hb)|refine Ai (by omega) ?_|(apply Ai<;>intro hb)
        all_goals ((refine Fin.give [(q,none),(b0+1,some 0)] [] ?_ ?_ ?_ ?_ ?_ (fun q hq=>by have hqq:=ho q hq;first|(simp only[gives,tgt,Lc,Lo,Lk,Ln,or_false]at hqq ⊢;omega)|(simp only[gives,tgt,Lc,Lo,Lk,Ln,or_false]at hqq))<;>(try simp only[results143,ntmps143,wks,hq,plain_pr,z0,z1,z2,z3,giv,vcs,seval,tys])<;>(try simp only[injs])<;>(try omega)))
      · have e47':preB (skipL xr) [47,62]=false:=by simpa using e47
        have hen:=end_none e62' e47'
        have p63:=eatI_ev (skipL xr) [47,62] false (by omega) (by decide) e47'
        simp only[Bool.false_eq_true,if_false]at p63
        by_cases hgap:(skipL xr).length<xr.length
        · cases hat:attrO (skipL xr) with
          | none=>rw[tag_bad hen hat]at g1;cases g1
          | some p =>
            obtain⟨a,r'⟩:=p
            cases hany:(xl.any fun b=>a.name==b.name) with
            | true=>rw[tag_twice hen hat hany]at g1;cases g1
            | false =>
              rw[tag_attr hen hgap hat hany]at g1
              have hlt:=attr_lt hat
              have g2':=attr_dec (skip_dec g2) hat
              obtain⟨r1,t,k1,k2,k3⟩:=attr_some hat
              have d1:=skip_dec (name_dec (skip_dec g2) k1)
              rw[k2]at d1
              have d2:=skip_dec (cut_text (d:=61) (by decide) (a:=[]) d1 rfl).2
              obtain⟨_,_,_,m1⟩:=name_lt k1
              have m2:=skip_le r1
              have m3:=skip_le t
              rw[k2]at m2
              simp only[List.length_cons]at m2
              have hgd:decide ((skipL xr).length<xr.length)=true:=decide_eq_true hgap
              rw[hgd]at hsk
              have hn1:=sName_ev (skipL xr) a.name r1 (by omega) k1
              have hsk1:=skip_ev r1 (by unfold lim;omega)
              have hsk2:=skip_ev t (by unfold lim;omega)
              rw[k2]at hsk1
              have p61:=eatI_ev (61::t) [61] true (by simp;omega) (by decide) (by rw[pre_one];rfl)
              simp only[if_true,List.drop_succ_cons,List.drop_zero,List.length_cons,List.length_nil]at p61
              have htw:=twice_ev xl ⟨a.name,[]⟩ (by unfold lim;omega)
              simp only[hany,prC]at htw
              have hva:=rValue_ev (skipL t) a.value r' (by omega) d2 k3
              unfold srcK at hn1 hsk1 hsk2 hva
              repeat' first|simp only[results143,ntmps143,wks,plain_pr,hq,prC,z0,z1,z2,z3,Bt,Bf,Lm,vcs,seval,tys]|exact rfl|((refine call_fn_gvx (xs:=?_) [b0+1,b0+384] ?_ (fun _=>?_) (fun _=>?_) rfl ((fun _=>htw _)) ?_);rotate_left 1;iterate 3 (focus (simp only[fins,mems,results143,ntmps143,wks,plain_pr,hq,prC,z0,z1,z2,z3,Bt,Bf,Lm,vcs,seval,tys]<;>(first|exact rfl|omega))))|((first|(refine call_fn_full ?_ [q] (hsk q _ _ ?_ only_mem (by omega)) ?_ ?_)|(refine call_fn_full ?_ [q] (p62 q _ _ ?_ only_mem (by omega)) ?_ ?_)|(refine call_fn_full ?_ [q] (hn1 q _ _ ?_ only_mem (by omega)) ?_ ?_)|(refine call_fn_full ?_ [q] (hva q _ _ ?_ only_mem (by omega)) ?_ ?_));iterate 3 (focus (simp only[mems,results143,ntmps143,wks,plain_pr,hq,prC,z0,z1,z2,z3,Bt,Bf,Lm,vcs,seval,tys]<;>exact rfl)))|((first|(refine call_fn_full ?_ [q] (p63 q _ _ ?_ only_mem (by omega)) ?_ ?_)|(refine call_fn_full ?_ [q] (hsk1 q _ _ ?_ only_mem (by omega)) ?_ ?_));iterate 3 (focus (simp only[mems,results143,ntmps143,wks,plain_pr,hq,prC,z0,z1,z2,z3,Bt,Bf,Lm,vcs,seval,tys]<;>exact rfl)))|((first|(refine call_fn_full ?_ [q] (hsk2 q _ _ ?_ only_mem (by omega)) ?_ ?_)|(refine call_fn_full ?_ [q] (p61 q _ _ ?_ only_mem (by omega)) ?_ ?_));iterate 3 (focus (simp only[mems,results143,ntmps143,wks,plain_pr,hq,prC,z0,z1,z2,z3,Bt,Bf,Lm,vcs,seval,tys]<;>exact rfl)))|((first|apply Ca|apply Cb)<;>intro hb)|refine Ai (by omega) ?_|(apply Ai<;>intro hb)
              have hnx:xl.map prC++[[.str a.name,.str a.value]]=(xl++[a]).map prC:=by simp[prC]
              have hnn:(xl++[a]).length=xl.length+1:=by simp
              rw[hnx]
              all_goals ((refine again_can2 cxG (⟨xl++[a],r'⟩) [some q,some b0,some (b0+848)] ?_ ?_ ?_ ?_;rotate_left 2;(focus (show b0≤_;omega));(focus (refine⟨?_,?_⟩<;>(try simp only[cans,plain_pr,hq,z0,z1,z2,z3,hnn,Lm,vcs,seval,tys,injs])<;>(try omega)))))
              all_goals (first|exact⟨g1,g2',by show r'.length+(xl++[a]).length≤16384;omega⟩|(show r'.length<xr.length;omega)|skip)
        · rw[tag_gap hen hgap]at g1;cases g1
theorem rHead_evp (s:List UInt8)(hs:s.length≤16384)(h1:afterO 47 s=none)(h2:nameO s=none)(q:Nat)(M:Mem)(nm:Nat)(hq:M q=some (srcK s))(ho:∀ z,(M z).isSome=true→z∈[q])(hqn:q<nm) :
  EvP cx 143 nm [.ptr q 0 0] M noV:=by
 have p1:=eatI_ev s [47] false (by omega) (by decide) (by rw[after_pre,h1];rfl)
 simp only[Bool.false_eq_true,if_false]at p1
 have hn:=sName_evp s (by omega) h2
 unfold srcK at hq hn
 refine evp_go rfl cxG rfl (fun cargs w=>call143 cargs w) func143 rfl mixed (by kernel_rfl) rfl ?_;intro b0 hb0
 have lq:q<b0:=below_of hb0 (by rw[hq];rfl)
 have z0:=lt_ne lq;have z1:=lt_ne_add lq;have z2:=lt_ne' lq;have z3:=lt_ne_add' lq
 repeat' first|simp only[results143,ntmps143,wks,hq,z0,z1,z2,z3,goOps_panic,goPan_iface,goEx_code_pan,goEx_blk_pan,goEx_again_pan,panP_at,vcs,seval,tys]|exact rfl|((refine call_fn_full ?_ [q] (p1 q _ _ ?_ only_mem (by omega)) ?_ ?_);iterate 3 (focus (simp only[mems,results143,ntmps143,wks,hq,z0,z1,z2,z3,goOps_panic,goPan_iface,goEx_code_pan,goEx_blk_pan,goEx_again_pan,panP_at,vcs,seval,tys]<;>exact rfl)))|((first|apply Ca|apply Cb)<;>intro hb)|refine Ai (by omega) ?_|(apply Ai<;>intro hb)
 refine call_pan rfl [q] (hn q _ _ ?_ only_mem (by omega)) ?_
 ·simp only[mems,wks,hq,z0,z1,z2,z3,vcs,seval,tys]<;>exact rfl
 ·simp only[goEx_code_pan,goEx_blk_pan,goEx_again_pan,panP_at,noV]
end Go.Proofs.YtjdjclecdfhciaaGreatDoor
