/-
 Texts joined: XNg,XNh,XNi,XNj,XNk,XNl,XNm,XNn,XNo.
-/
import Derived.Test.YtidmkaalhmeflaaGreatDoorQk
import Derived.Test.YtidmkaalhmeflaaGreatDoorQj
namespace Go.Proofs.YtidmkaalhmeflaaGreatDoor
set_option maxRecDepth 100000
set_option maxHeartbeats 32000000
set_option linter.unusedSimpArgs false
set_option linter.unusedVariables false
open Go Go.RowKit Vm Go.Lib Tryz
open Vm renaming aZ→Ca,bj→Cb
open And renaming intro→Ai
open List renaming length_map→Lm,not_mem_nil→Ln,map_nil→Lo,map_cons→Lc,mem_cons→Lk
open Bool renaming not_false→Bf,not_true→Bt
def bQ (s:List UInt8):Blk:=⟨1,[[.str s]]⟩
theorem Aj (s p:List UInt8)(hs:s.length≤bh)(hp:p.length≤bh)(q:Nat)(M:aq)(nm:Nat)(hq:M q=some (bQ s))(ho:∀ z,(M z).isSome=true→z∈[q])(hqn:q<nm) :
  Ev cx 186 nm [.ptr q 0 0,.str p] M (.bool (preB s p)) [(q,some (bQ (if preB s p=true then s.drop p.length else s)))]:=by
 have h:=mD s p hs hp
 cases hb:preB s p with
 | true =>
  rw[me hb]at h
  simp only[if_true]
  unfold bQ at hq ⊢
  refine ay rfl (fun cargs w=>call186 cargs w) func186 rfl mixed (by kernel_rfl) rfl ?_;intro b0 hb0
  have lq:q<b0:=ax hb0 (by rw[hq];rfl)
  have z0:=aT lq;have z1:=aw lq;have z2:=aK lq;have z3:=ao lq
  repeat' first|simp only[al,aj,results186,ntmps186,am,hq,z0,z1,z2,z3,ai,seval,ah]|exact rfl|refine aa (v:=.any) ?_|(first|(refine ac ?_ (h _) ?_)|(refine ab ?_ (fun _=>h _) ?_))|((first|apply Ca|apply Cb)<;>intro hb)|refine Ai (by omega) ?_|(apply Ai<;>intro hb)
  all_goals ((refine Fin.give [(q,none)] [] ?_ ?_ ?_ ?_ ?_ (fun q hq=>by have hqq:=ho q hq;first|(simp only[aF,tgt,Lc,Lo,Lk,Ln,or_false]at hqq ⊢;omega)|(simp only[aF,tgt,Lc,Lo,Lk,Ln,or_false]at hqq))<;>(try simp only[results186,ntmps186,am,hq,z0,z1,z2,z3,eH,ai,seval,ah])<;>(try simp only[au])<;>(try omega)))
 | false =>
  rw[pd hb]at h
  simp only[Bool.false_eq_true,if_false]
  unfold bQ at hq ⊢
  refine ay rfl (fun cargs w=>call186 cargs w) func186 rfl mixed (by kernel_rfl) rfl ?_;intro b0 hb0
  have lq:q<b0:=ax hb0 (by rw[hq];rfl)
  have z0:=aT lq;have z1:=aw lq;have z2:=aK lq;have z3:=ao lq
  repeat' first|simp only[al,aj,results186,ntmps186,am,hq,z0,z1,z2,z3,ai,seval,ah]|exact rfl|refine aa (v:=.any) ?_|(first|(refine ac ?_ (h _) ?_)|(refine ab ?_ (fun _=>h _) ?_))|((first|apply Ca|apply Cb)<;>intro hb)|refine Ai (by omega) ?_|(apply Ai<;>intro hb)
  all_goals ((refine Fin.give [(q,none)] [] ?_ ?_ ?_ ?_ ?_ (fun q hq=>by have hqq:=ho q hq;first|(simp only[aF,tgt,Lc,Lo,Lk,Ln,or_false]at hqq ⊢;omega)|(simp only[aF,tgt,Lc,Lo,Lk,Ln,or_false]at hqq))<;>(try simp only[results186,ntmps186,am,hq,z0,z1,z2,z3,eH,ai,seval,ah])<;>(try simp only[au])<;>(try omega)))
theorem jp (s:List UInt8)(hs:s.length≤bh)(q:Nat)(M:aq)(nm:Nat)(hq:M q=some (bQ s))(ho:∀ z,(M z).isSome=true→z∈[q])(hqn:q<nm) :
  Ev cx 214 nm [.ptr q 0 0] M (.bool (decide ((bd s).length<s.length))) [(q,some (bQ (bd s)))]:=by
 have h:=xB fK s (by decide) (by decide) (by decide) hs
 rw[u6]at h
 change ∀ nm,Ev cx _ nm _ aq.nil (.str (bd s)) []at h
 unfold fK at h
 have hd:decide (((bd s).length:Int)<(s.length:Int))=decide ((bd s).length<s.length):=decide_eq_decide.2 (by omega)
 unfold bQ at hq ⊢
 refine ay rfl (fun cargs w=>call214 cargs w) func214 rfl mixed (by kernel_rfl) rfl ?_;intro b0 hb0
 have lq:q<b0:=ax hb0 (by rw[hq];rfl)
 have z0:=aT lq;have z1:=aw lq;have z2:=aK lq;have z3:=ao lq
 repeat' first|simp only[al,aj,results214,ntmps214,am,hq,z0,z1,z2,z3,hd,ai,seval,ah]|exact rfl|refine aa (v:=.any) ?_|(first|(refine ac ?_ (h _) ?_)|(refine ab ?_ (fun _=>h _) ?_))|((first|apply Ca|apply Cb)<;>intro hb)|refine Ai (by omega) ?_|(apply Ai<;>intro hb)
 all_goals ((refine Fin.give [(q,none)] [] ?_ ?_ ?_ ?_ ?_ (fun q hq=>by have hqq:=ho q hq;first|(simp only[aF,tgt,Lc,Lo,Lk,Ln,or_false]at hqq ⊢;omega)|(simp only[aF,tgt,Lc,Lo,Lk,Ln,or_false]at hqq))<;>(try simp only[results214,ntmps214,am,hq,z0,z1,z2,z3,hd,eH,ai,seval,ah])<;>(try simp only[au])<;>(try omega)))
section
variable {cx:Cx} {Q:Post} {st:List Frm} {nm:Nat} {e:Env} {M:aq} {d:Bool} {fs:List (List Nat)} {ops r:List Oper} {dst:Option Tmp} {t:TypeId} {pos:String} {af:Array Edge} {gd:Option (Nat×Bool)} {i:Nat}
def Ef (P:Program)(t:TypeId):Bool:=match P.underlying t with
 | some (.interface _)|none=>false
 | some _=>true
theorem KJ {P:Program}{w:World}{t:TypeId}(x:Value)(h:Ef P t=true):(Instr.makeInterface t x).run P w = .ok (.iface t x) w:=by
 unfold Ef at h
 cases hu:P.underlying t with
 | none=>rw[hu]at h;cases h
 | some u =>
  rw[hu]at h
  simp only[Instr.makeInterface,Sem.run_bind,run_underlying hu w,Result.andThen_ok]
  cases u<;>first|rfl|cases h
theorem vq {ty:TypeId}{x:Operand}{u:V}(hx:aA cx.G true e x=u)(ht:Ef cx.P ty=true)
  (h:aE cx Q st nm (e.putD dst (.iface ty u)) M d (fs++[[]]) ops r (i+1)):bM cx Q st nm e M d fs ops ⟨dst,.makeInterface ty x,t,pos,af,gd⟩ r i:=by
 refine⟨_,[],_,⟨fun x hx=>by simp[ak]at hx,fun x hx=>by simp[ak]at hx,fun h=>absurd rfl h,fun h=>absurd rfl h,?_⟩,h⟩
 intro N X w0 I ρ e' M' a w hr he hin hev hMM hf
 have hxi:=he.eval hr (c:=true) rfl (hin x (by simp[Op.operands]))
 rw[hev x (by simp[Op.operands]),hx]at hxi
 exact⟨_,w,(dx.still (nm:=nm+16*i) hr (.iface (t:=ty) hxi)).n,gC (s:=Instr.makeInterface ty (a.eval x)) rfl (KJ _ ht)⟩
end
def z5:V:=.iface 25 (.int .i64 80)
theorem gK (q:Nat)(M:aq)(nm:Nat):xI cx 190 nm [.ptr q 0 0] M z5:=by
 unfold z5
 refine iY rfl co rfl (fun cargs w=>call190 cargs w) func190 rfl mixed (by kernel_rfl) rfl ?_;intro b0 hb0
 repeat' first|simp only[al,aj,results190,ntmps190,am,aG,aH,aB,aD,bg,ai,seval,ah]|exact rfl|refine aa (v:=.any) ?_|(refine vq rfl (by kernel_rfl) ?_)|((first|apply Ca|apply Cb)<;>intro hb)|refine Ai (by omega) ?_|(apply Ai<;>intro hb)
theorem rv {s:List UInt8}{x:Nat}(h:∀ c∈s.take x,eZ c=true)(h2:∀ c,s[x]? = some c→eZ c=false):iX s=s.take x∧tO s=s.drop x:=by
 have e:s=s.take x++s.drop x:=(List.take_append_drop x s).symm
 have hd:(s.drop x).takeWhile eZ=[]∧(s.drop x).dropWhile eZ=s.drop x:=by
  cases hc:s.drop x with
  | nil=>exact⟨rfl,rfl⟩
  | cons c t =>
   have:s[x]? = some c:=by
    have:=congrArg List.head? hc
    simpa [List.head?_drop] using this
   rw[List.takeWhile_cons,List.dropWhile_cons,h2 c this]
   exact⟨rfl,rfl⟩
 unfold iX tO
 constructor
 ·conv=>lhs;rw[e]
  rw[List.takeWhile_append_of_pos h,hd.1,List.append_nil]
 ·conv=>lhs;rw[e]
  rw[List.dropWhile_append_of_pos h,hd.2]
theorem vS {s:List UInt8}{x:Nat}{c:UInt8}(h:∀ c∈s.take x,eZ c=true)(hc:s[x]? = some c)(hw:eZ c=true):∀ c∈s.take (x+1),eZ c=true:=by
 intro d hd
 rw[List.take_add_one,hc]at hd
 rcases List.mem_append.1 hd with hd|hd
 ·exact h d hd
 ·simp at hd;rw[hd];exact hw
theorem vu {s n r:List UInt8}(h:eQ s=some (n,r)):iX s=n∧tO s=r∧b8 n=true:=by
 unfold eQ at h
 split at h
 ·rename_i hf;cases h;exact⟨rfl,rfl,hf⟩
 ·cases h
theorem EE {s:List UInt8}(h:eQ s=none):b8 (iX s)=false:=by
 unfold eQ at h
 split at h
 ·cases h
 ·rename_i hf;simpa using hf
theorem j5 (s n r:List UInt8)(hs:s.length≤1000000)(hn:eQ s=some (n,r))(q:Nat)(M:aq)(nm:Nat)(hq:M q=some (bQ s))(ho:∀ z,(M z).isSome=true→z∈[q])(hqn:q<nm) :
  Ev cx 213 nm [.ptr q 0 0] M (.str n) [(q,some (bQ r))]:=by
 obtain⟨hw1,hw2,hfl⟩:=vu hn
 unfold bQ at hq ⊢
 refine ay rfl (fun cargs w=>call213 cargs w) func213 rfl mixed (by kernel_rfl) rfl ?_;intro b0 hb0
 have lq:q<b0:=ax hb0 (by rw[hq];rfl)
 have z0:=aT lq;have z1:=aw lq;have z2:=aK lq;have z3:=ao lq
 repeat' first|simp only[al,aj,results213,ntmps213,am,ai,seval,ah]|exact rfl|refine aa (v:=.any) ?_|((first|apply Ca|apply Cb)<;>intro hb)|refine Ai (by omega) ?_|(apply Ai<;>intro hb)
 (refine aU co (fun x:Nat=>s.length-x) (fun x=>x≤s.length∧(∀ c∈s.take x,eZ c=true)) (b0+16) (fun x=>[(0,.ptr q 0 0),(3,.int .i64 x)]) (fun x=>[(q,⟨1,[[.str s]]⟩)]) (0) [some q] ?_ ?_ ?_ ?_;rotate_left 1;(focus (show b0≤_;omega));(focus (refine⟨?_,?_⟩<;>(try simp only[bk,hq,z0,z1,z2,z3,ai,seval,ah,au])<;>(try omega)));rotate_left 1)
 ·exact⟨Nat.zero_le _,by simp⟩
 ·rintro x ⟨h1,h2⟩
  have hend:∀(hx:∀ c,s[x]? = some c→eZ c=false),s.take x=iX s∧s.drop x=tO s:=fun hx=>⟨(rv h2 hx).1.symm,(rv h2 hx).2.symm⟩
  have h1':(x:Int)≤(s.length:Int):=by omega
  by_cases hx:x<s.length
  ·obtain⟨c,hc⟩:∃ c,s[x]? = some c:=⟨_,List.getElem?_eq_getElem hx⟩
   have hx':decide ((x:Int)<(s.length:Int))=true:=decide_eq_true (by omega)
   have hpe:=ww c false
   have q58:((c.toNat:Int)==58)=decide (c=58):=gp c 58
   have hwx:IntKind.i64.wrap ((x:Int)+1)=((x+1:Nat):Int):=aN (by omega) (by omega)
   have hwc:eZ c=(jb false c||decide (c=58)):=by unfold eZ;congr 1
   have hgo:∀(hp:eZ c=true),x+1≤s.length ∧ ∀ c∈s.take (x+1),eZ c=true:=fun hp=>⟨by omega,vS h2 hc hp⟩
   cases hp:jb false c<;>cases h58:decide (c=58)<;>rw[hp,h58]at hwc<;>rw[hp]at hpe<;>rw[h58]at q58
   ·have he:=hend (fun d hd=>by rw[hc]at hd;cases hd;exact hwc)
    have hfe:=iG (iX s) (by unfold bh;rw[← he.1,List.length_take];omega)
    rw[hw1,hfl]at hfe
    have e1:s.take x=n:=by rw[he.1,hw1]
    have e2:s.drop x=r:=by rw[he.2,hw2]
    repeat' first|simp only[al,aj,results213,ntmps213,am,hc,hx',h1,h1',hx,q58,e1,e2,ai,seval,ah]|exact rfl|refine aa (v:=.any) ?_|(first|(refine ac ?_ (hfe _) ?_)|(refine ab ?_ (fun _=>hfe _) ?_)|(refine ac ?_ (hpe _) ?_)|(refine ab ?_ (fun _=>hpe _) ?_))|(refine aa (v:=.any) ?_)|refine Ai (by omega) ?_
    all_goals ((refine Fin.give [(q,none)] [] ?_ ?_ ?_ ?_ ?_ (fun q hq=>by have hqq:=ho q hq;first|(simp only[aF,tgt,Lc,Lo,Lk,Ln,or_false]at hqq ⊢;omega)|(simp only[aF,tgt,Lc,Lo,Lk,Ln,or_false]at hqq))<;>(try simp only[results213,ntmps213,am,hq,z0,z1,z2,z3,eH,ai,seval,ah])<;>(try simp only[au])<;>(try omega)))
   ·repeat' first|simp only[al,aj,results213,ntmps213,am,hc,hx',h1,h1',hx,q58,hwx,ai,seval,ah]|exact rfl|refine aa (v:=.any) ?_|(first|(refine ac ?_ (hpe _) ?_)|(refine ab ?_ (fun _=>hpe _) ?_))|(refine aa (v:=.any) ?_)|refine Ai (by omega) ?_
    all_goals ((refine aJ co (x+1) [some q] ?_ ?_ ?_ ?_;rotate_left 2;(focus (show b0≤_;omega));(focus (refine⟨?_,?_⟩<;>(try simp only[bk,hq,z0,z1,z2,z3,ai,seval,ah,au])<;>(try omega)))))
    all_goals (first|(show s.length-(x+1)<s.length-x;omega)|exact hgo hwc|skip)
   ·repeat' first|simp only[al,aj,results213,ntmps213,am,hc,hx',h1,h1',hx,q58,hwx,ai,seval,ah]|exact rfl|refine aa (v:=.any) ?_|(first|(refine ac ?_ (hpe _) ?_)|(refine ab ?_ (fun _=>hpe _) ?_))|(refine aa (v:=.any) ?_)|refine Ai (by omega) ?_
    all_goals ((refine aJ co (x+1) [some q] ?_ ?_ ?_ ?_;rotate_left 2;(focus (show b0≤_;omega));(focus (refine⟨?_,?_⟩<;>(try simp only[bk,hq,z0,z1,z2,z3,ai,seval,ah,au])<;>(try omega)))))
    all_goals (first|(show s.length-(x+1)<s.length-x;omega)|exact hgo hwc|skip)
   ·repeat' first|simp only[al,aj,results213,ntmps213,am,hc,hx',h1,h1',hx,q58,hwx,ai,seval,ah]|exact rfl|refine aa (v:=.any) ?_|(first|(refine ac ?_ (hpe _) ?_)|(refine ab ?_ (fun _=>hpe _) ?_))|(refine aa (v:=.any) ?_)|refine Ai (by omega) ?_
    all_goals ((refine aJ co (x+1) [some q] ?_ ?_ ?_ ?_;rotate_left 2;(focus (show b0≤_;omega));(focus (refine⟨?_,?_⟩<;>(try simp only[bk,hq,z0,z1,z2,z3,ai,seval,ah,au])<;>(try omega)))))
    all_goals (first|(show s.length-(x+1)<s.length-x;omega)|exact hgo hwc|skip)
  ·have hx':decide ((x:Int)<(s.length:Int))=false:=decide_eq_false (by omega)
   have hxe:s[x]? = none:=List.getElem?_eq_none (by omega)
   have he:=hend (fun d hd=>by rw[hxe]at hd;cases hd)
   have hfe:=iG (iX s) (by unfold bh;rw[← he.1,List.length_take];omega)
   rw[hw1,hfl]at hfe
   have e1:s.take x=n:=by rw[he.1,hw1]
   have e2:s.drop x=r:=by rw[he.2,hw2]
   repeat' first|simp only[al,aj,results213,ntmps213,am,hxe,hx',h1,h1',hx,e1,e2,ai,seval,ah]|exact rfl|refine aa (v:=.bool false) ?_|(first|(refine ac ?_ (hfe _) ?_)|(refine ab ?_ (fun _=>hfe _) ?_))|refine Ai (by omega) ?_
   all_goals ((refine Fin.give [(q,none)] [] ?_ ?_ ?_ ?_ ?_ (fun q hq=>by have hqq:=ho q hq;first|(simp only[aF,tgt,Lc,Lo,Lk,Ln,or_false]at hqq ⊢;omega)|(simp only[aF,tgt,Lc,Lo,Lk,Ln,or_false]at hqq))<;>(try simp only[results213,ntmps213,am,hq,z0,z1,z2,z3,eH,ai,seval,ah])<;>(try simp only[au])<;>(try omega)))
theorem pm (s:List UInt8)(hs:s.length≤1000000)(hn:eQ s=none)(q:Nat)(M:aq)(nm:Nat)(hq:M q=some (bQ s))(ho:∀ z,(M z).isSome=true→z∈[q])(hqn:q<nm) :
  xI cx 213 nm [.ptr q 0 0] M z5:=by
 have hfl:=EE hn
 unfold bQ at hq
 refine iY rfl co rfl (fun cargs w=>call213 cargs w) func213 rfl mixed (by kernel_rfl) rfl ?_;intro b0 hb0
 have lq:q<b0:=ax hb0 (by rw[hq];rfl)
 have z0:=aT lq;have z1:=aw lq;have z2:=aK lq;have z3:=ao lq
 repeat' first|simp only[al,aj,results213,ntmps213,am,ai,seval,ah]|exact rfl|refine aa (v:=.any) ?_|((first|apply Ca|apply Cb)<;>intro hb)|refine Ai (by omega) ?_|(apply Ai<;>intro hb)
 (refine aU co (fun x:Nat=>s.length-x) (fun x=>x≤s.length∧(∀ c∈s.take x,eZ c=true)) (b0+16) (fun x=>[(0,.ptr q 0 0),(3,.int .i64 x)]) (fun x=>[(q,⟨1,[[.str s]]⟩)]) (0) [some q] ?_ ?_ ?_ ?_;rotate_left 1;(focus (show b0≤_;omega));(focus (refine⟨?_,?_⟩<;>(try simp only[bk,hq,z0,z1,z2,z3,ai,seval,ah,au])<;>(try omega)));rotate_left 1)
 ·exact⟨Nat.zero_le _,by simp⟩
 ·rintro x ⟨h1,h2⟩
  have hend:∀(hx:∀ c,s[x]? = some c→eZ c=false),s.take x=iX s∧s.drop x=tO s:=fun hx=>⟨(rv h2 hx).1.symm,(rv h2 hx).2.symm⟩
  have h1':(x:Int)≤(s.length:Int):=by omega
  by_cases hx:x<s.length
  ·obtain⟨c,hc⟩:∃ c,s[x]? = some c:=⟨_,List.getElem?_eq_getElem hx⟩
   have hx':decide ((x:Int)<(s.length:Int))=true:=decide_eq_true (by omega)
   have hpe:=ww c false
   have q58:((c.toNat:Int)==58)=decide (c=58):=gp c 58
   have hwx:IntKind.i64.wrap ((x:Int)+1)=((x+1:Nat):Int):=aN (by omega) (by omega)
   have hwc:eZ c=(jb false c||decide (c=58)):=by unfold eZ;congr 1
   have hgo:∀(hp:eZ c=true),x+1≤s.length ∧ ∀ c∈s.take (x+1),eZ c=true:=fun hp=>⟨by omega,vS h2 hc hp⟩
   cases hp:jb false c<;>cases h58:decide (c=58)<;>rw[hp,h58]at hwc<;>rw[hp]at hpe<;>rw[h58]at q58
   ·have he:=hend (fun d hd=>by rw[hc]at hd;cases hd;exact hwc)
    have hfe:=iG (iX s) (by unfold bh;rw[← he.1,List.length_take];omega)
    rw[hfl]at hfe
    have e1:s.take x=iX s:=he.1
    repeat' first|simp only[al,aj,results213,ntmps213,am,hc,hx',h1,h1',hx,q58,e1,aG,aH,aB,aD,az,bg,ai,seval,ah]|exact rfl|refine aa (v:=.any) ?_|(first|(refine ac ?_ (hfe _) ?_)|(refine ab ?_ (fun _=>hfe _) ?_)|(refine ac ?_ (hpe _) ?_)|(refine ab ?_ (fun _=>hpe _) ?_))|(refine aa (v:=.any) ?_)|(refine cH rfl [q] (gK q _ _) ?_)|refine Ai (by omega) ?_
   ·repeat' first|simp only[al,aj,results213,ntmps213,am,hc,hx',h1,h1',hx,q58,hwx,ai,seval,ah]|exact rfl|refine aa (v:=.any) ?_|(first|(refine ac ?_ (hpe _) ?_)|(refine ab ?_ (fun _=>hpe _) ?_))|(refine aa (v:=.any) ?_)|refine Ai (by omega) ?_
    all_goals ((refine aJ co (x+1) [some q] ?_ ?_ ?_ ?_;rotate_left 2;(focus (show b0≤_;omega));(focus (refine⟨?_,?_⟩<;>(try simp only[bk,hq,z0,z1,z2,z3,ai,seval,ah,au])<;>(try omega)))))
    all_goals (first|(show s.length-(x+1)<s.length-x;omega)|exact hgo hwc|skip)
   ·repeat' first|simp only[al,aj,results213,ntmps213,am,hc,hx',h1,h1',hx,q58,hwx,ai,seval,ah]|exact rfl|refine aa (v:=.any) ?_|(first|(refine ac ?_ (hpe _) ?_)|(refine ab ?_ (fun _=>hpe _) ?_))|(refine aa (v:=.any) ?_)|refine Ai (by omega) ?_
    all_goals ((refine aJ co (x+1) [some q] ?_ ?_ ?_ ?_;rotate_left 2;(focus (show b0≤_;omega));(focus (refine⟨?_,?_⟩<;>(try simp only[bk,hq,z0,z1,z2,z3,ai,seval,ah,au])<;>(try omega)))))
    all_goals (first|(show s.length-(x+1)<s.length-x;omega)|exact hgo hwc|skip)
   ·repeat' first|simp only[al,aj,results213,ntmps213,am,hc,hx',h1,h1',hx,q58,hwx,ai,seval,ah]|exact rfl|refine aa (v:=.any) ?_|(first|(refine ac ?_ (hpe _) ?_)|(refine ab ?_ (fun _=>hpe _) ?_))|(refine aa (v:=.any) ?_)|refine Ai (by omega) ?_
    all_goals ((refine aJ co (x+1) [some q] ?_ ?_ ?_ ?_;rotate_left 2;(focus (show b0≤_;omega));(focus (refine⟨?_,?_⟩<;>(try simp only[bk,hq,z0,z1,z2,z3,ai,seval,ah,au])<;>(try omega)))))
    all_goals (first|(show s.length-(x+1)<s.length-x;omega)|exact hgo hwc|skip)
  ·have hx':decide ((x:Int)<(s.length:Int))=false:=decide_eq_false (by omega)
   have hxe:s[x]? = none:=List.getElem?_eq_none (by omega)
   have he:=hend (fun d hd=>by rw[hxe]at hd;cases hd)
   have hfe:=iG (iX s) (by unfold bh;rw[← he.1,List.length_take];omega)
   rw[hfl]at hfe
   have e1:s.take x=iX s:=he.1
   repeat' first|simp only[al,aj,results213,ntmps213,am,hxe,hx',h1,h1',hx,e1,aG,aH,aB,aD,az,bg,ai,seval,ah]|exact rfl|refine aa (v:=.bool false) ?_|(first|(refine ac ?_ (hfe _) ?_)|(refine ab ?_ (fun _=>hfe _) ?_))|(refine cH rfl [q] (gK q _ _) ?_)|refine Ai (by omega) ?_
theorem wU {d:UInt8}(hd:d.toNat<128):∀(zs:List Int) (a b:List UInt8),zs.all gR=true→enc zs=a++d::b→(dZ a).isSome=true∧(dZ b).isSome=true
 | [],a,b,_,h=>by
  have:=congrArg List.length h
  simp[enc]at this
 | z::zs,a,b,hm,h=>by
  simp only[List.all_cons,Bool.and_eq_true]at hm
  have e:enc (z::zs)=encodeRune z++enc zs:=by simp[enc]
  have e1:enc [z]=encodeRune z:=by simp[enc]
  have d1:dZ (encodeRune z)=some [z]:=by rw[← e1];exact gX [z] (by simp[hm.1])
  rw[e]at h
  rcases List.append_eq_append_iff.1 h with ⟨a',h1,h2⟩|⟨c',h1,h2⟩
  ·obtain⟨k1,k2⟩:=wU hd zs a' b hm.2 h2
   obtain⟨y,hy⟩:=Option.isSome_iff_exists.1 k1
   refine⟨?_,k2⟩
   rw[h1,si d1 hy];rfl
  ·cases c' with
   | nil =>
    simp only[List.append_nil,List.nil_append]at h1 h2
    obtain⟨_,k2⟩:=wU hd zs [] b hm.2 (by rw[← h2];rfl)
    refine⟨?_,k2⟩
    rw[← h1,d1];rfl
   | cons c t =>
    simp only[List.cons_append,List.cons.injEq]at h2
    obtain⟨h2,h3⟩:=h2
    by_cases hz:z<128
    ·have hr:=fq hm.1
     rw[CX (by omega) hz]at h1
     cases a with
     | nil =>
      simp only[List.nil_append,List.cons.injEq]at h1
      rw[← h1.2,List.nil_append]at h3
      exact⟨rfl,by rw[h3,gX zs hm.2];rfl⟩
     | cons a0 a1 =>
      have:=congrArg List.length h1
      simp at this
    ·have:=oo (z:=z) (by omega) d (by rw[h1,h2];simp)
     omega
theorem bS {d:UInt8}(hd:d.toNat<128){s a b:List UInt8}(h:(dZ s).isSome=true)(he:s=a++d::b):(dZ a).isSome=true∧(dZ b).isSome=true:=by
 obtain⟨zs,hz⟩:=Option.isSome_iff_exists.1 h
 obtain⟨hm,h2⟩:=(oG s zs).1 hz
 exact wU hd zs a b hm (by rw[h2,he])
theorem dE (c d:UInt8)(t:List UInt8):preB (c::t) [d]=(c==d):=by
 unfold preB;simp
theorem vx (s v r:List UInt8)(hs:s.length≤16384)(hd:(dZ s).isSome=true)(hv:iu s=some (v,r))(q:Nat)(M:aq)(nm:Nat)(hq:M q=some (bQ s))(ho:∀ z,(M z).isSome=true→z∈[q])(hqn:q<nm) :
  Ev cx 216 nm [.ptr q 0 0] M (.str v) [(q,some (bQ r))]:=by
 obtain⟨a,h1,h2⟩:=kM hv
 obtain⟨k,hk,rfl,hka⟩:=kQ h1
 have e1:∀(k:UInt8) (t:List UInt8) (y:Bool),t.length≤20000→preB t [k]=y → ∀(M':aq) (n':Nat),M' q=some ⟨1,[[.str t]]⟩→(∀ z,(M' z).isSome=true→z∈[q])→q<n'→Ev cx 186 n' [.ptr q 0 0,.str [k]] M' (.bool y) [(q,some ⟨1,[[.str (if y then t.drop 1 else t)]]⟩)]:=by
  intro k t y ht hy M' n' h1 h2 h3
  have:=Aj t [k] (by unfold bh;omega) (by simp[bh]) q M' n' h1 h2 h3
  rw[hy]at this
  cases y<;>exact this
 have hla:a.length+r.length+2≤16384:=by simpa [Nat.add_assoc,Nat.add_comm,Nat.add_left_comm] using hs
 have hk128:k.toNat<128:=by rcases hk with rfl|rfl<;>decide
 obtain⟨_,hd2⟩:=bS hk128 (a:=[]) hd rfl
 obtain⟨hda,hdr⟩:=bS hk128 hd2 rfl
 have hcv:=nP (a++k::r) k (by simp[bh];omega)
 have ecv:gO k (a++k::r) = .tup [.str a,.str r,.bool true]:=by unfold gO;rw[mE hka]
 rw[ecv]at hcv
 have hmp:=F8 a (by omega) hda
 unfold B6 at hmp
 have hg:=rr (a.map ct) (by rw[Lm];unfold bh;omega)
 rw[pT (eR.2 ⟨by rw[Lm];omega,xZ hda⟩) h2]at hg
 unfold bQ at hq ⊢
 rcases hk with rfl|rfl
 ·have p1:=e1 39 (39::(a++39::r)) true (by simp;omega) (dE _ _ _)
  simp only[if_true,List.drop_succ_cons,List.drop_zero]at p1
  refine ay rfl (fun cargs w=>call216 cargs w) func216 rfl mixed (by kernel_rfl) rfl ?_;intro b0 hb0
  have lq:q<b0:=ax hb0 (by rw[hq];rfl)
  have z0:=aT lq;have z1:=aw lq;have z2:=aK lq;have z3:=ao lq
  repeat' first|simp only[al,aj,results216,ntmps216,am,hq,z0,z1,z2,z3,ai,seval,ah]|exact rfl|refine aa (v:=.any) ?_|(first|(refine ac ?_ (hcv _) ?_)|(refine ab ?_ (fun _=>hcv _) ?_)|(refine ac ?_ (hmp _) ?_)|(refine ab ?_ (fun _=>hmp _) ?_)|(refine ac ?_ (hg _) ?_)|(refine ab ?_ (fun _=>hg _) ?_))|(refine ag ?_ [q] (p1 _ _ ?_ ap (by omega)) ?_ ?_)|((first|apply Ca|apply Cb)<;>intro hb)|refine Ai (by omega) ?_|(apply Ai<;>intro hb)
  all_goals ((refine Fin.give [(q,none)] [] ?_ ?_ ?_ ?_ ?_ (fun q hq=>by have hqq:=ho q hq;first|(simp only[aF,tgt,Lc,Lo,Lk,Ln,or_false]at hqq ⊢;omega)|(simp only[aF,tgt,Lc,Lo,Lk,Ln,or_false]at hqq))<;>(try simp only[results216,ntmps216,am,hq,z0,z1,z2,z3,eH,ai,seval,ah])<;>(try simp only[au])<;>(try omega)))
 ·have p1:=e1 39 (34::(a++34::r)) false (by simp;omega) (dE _ _ _)
  have p2:=e1 34 (34::(a++34::r)) true (by simp;omega) (dE _ _ _)
  simp only[if_true,Bool.false_eq_true,if_false,List.drop_succ_cons,List.drop_zero]at p1 p2
  refine ay rfl (fun cargs w=>call216 cargs w) func216 rfl mixed (by kernel_rfl) rfl ?_;intro b0 hb0
  have lq:q<b0:=ax hb0 (by rw[hq];rfl)
  have z0:=aT lq;have z1:=aw lq;have z2:=aK lq;have z3:=ao lq
  repeat' first|simp only[results216,ntmps216,am,hq,z0,z1,z2,z3,ai,seval,ah]|exact rfl|((first|(refine ac ?_ (hcv _) ?_)|(refine ab ?_ (fun _=>hcv _) ?_)|(refine ac ?_ (hmp _) ?_)|(refine ab ?_ (fun _=>hmp _) ?_)|(refine ac ?_ (hg _) ?_)|(refine ab ?_ (fun _=>hg _) ?_));(focus (simp only[results216,ntmps216,am,hq,z0,z1,z2,z3,ai,seval,ah]<;>exact rfl)))|((refine ag ?_ [q] (p1 _ _ ?_ ap (by omega)) ?_ ?_);iterate 3 (focus (simp only[aj,results216,ntmps216,am,hq,z0,z1,z2,z3,ai,seval,ah]<;>exact rfl)))|((refine ag ?_ [q] (p2 _ _ ?_ ap (by omega)) ?_ ?_);iterate 3 (focus (simp only[aj,results216,ntmps216,am,hq,z0,z1,z2,z3,ai,seval,ah]<;>exact rfl)))|((first|apply Ca|apply Cb)<;>intro hb)|refine Ai (by omega) ?_|(apply Ai<;>intro hb)
  all_goals ((refine Fin.give [(q,none)] [] ?_ ?_ ?_ ?_ ?_ (fun q hq=>by have hqq:=ho q hq;first|(simp only[aF,tgt,Lc,Lo,Lk,Ln,or_false]at hqq ⊢;omega)|(simp only[aF,tgt,Lc,Lo,Lk,Ln,or_false]at hqq))<;>(try simp only[results216,ntmps216,am,hq,z0,z1,z2,z3,eH,ai,seval,ah])<;>(try simp only[au])<;>(try omega)))
theorem Ah (s:List UInt8)(hs:s.length≤16384)(hd:(dZ s).isSome=true)(hv:iu s=none)(q:Nat)(M:aq)(nm:Nat)(hq:M q=some (bQ s))(ho:∀ z,(M z).isSome=true→z∈[q])(hqn:q<nm) :
  xI cx 216 nm [.ptr q 0 0] M z5:=by
 have e1:∀(k:UInt8) (t:List UInt8) (y:Bool),t.length≤20000→preB t [k]=y → ∀(M':aq) (n':Nat),M' q=some ⟨1,[[.str t]]⟩→(∀ z,(M' z).isSome=true→z∈[q])→q<n'→Ev cx 186 n' [.ptr q 0 0,.str [k]] M' (.bool y) [(q,some ⟨1,[[.str (if y then t.drop 1 else t)]]⟩)]:=by
  intro k t y ht hy M' n' h1 h2 h3
  have:=Aj t [k] (by unfold bh;omega) (by simp[bh]) q M' n' h1 h2 h3
  rw[hy]at this
  cases y<;>exact this
 unfold bQ at hq
 by_cases hk:∃ k t,s=k::t∧(k=39∨k=34)
 ·obtain⟨k,t,rfl,hk⟩:=hk
  have hk128:k.toNat<128:=by rcases hk with rfl|rfl<;>decide
  obtain⟨_,hd2⟩:=bS hk128 (a:=[]) hd rfl
  have hlt:t.length+1≤16384:=by simpa using hs
  have hcv:=nP t k (by unfold bh;omega)
  cases hc:dP k t with
  | none =>
   have ecv:gO k t = .tup [.str t,.str [],.bool false]:=by unfold gO;rw[hc]
   rw[ecv]at hcv
   rcases hk with rfl|rfl
   ·have p1:=e1 39 (39::t) true (by simp;omega) (dE _ _ _)
    simp only[if_true,List.drop_succ_cons,List.drop_zero]at p1
    refine iY rfl co rfl (fun cargs w=>call216 cargs w) func216 rfl mixed (by kernel_rfl) rfl ?_;intro b0 hb0
    have lq:q<b0:=ax hb0 (by rw[hq];rfl)
    have z0:=aT lq;have z1:=aw lq;have z2:=aK lq;have z3:=ao lq
    repeat' first|simp only[al,aj,results216,ntmps216,am,hq,z0,z1,z2,z3,aG,aH,aB,aD,az,bg,ai,seval,ah]|exact rfl|refine aa (v:=.any) ?_|(first|(refine ac ?_ (hcv _) ?_)|(refine ab ?_ (fun _=>hcv _) ?_))|(refine ag ?_ [q] (p1 _ _ ?_ ap (by omega)) ?_ ?_)|(refine cH rfl [q] (gK q _ _) ?_)|((first|apply Ca|apply Cb)<;>intro hb)|refine Ai (by omega) ?_|(apply Ai<;>intro hb)
   ·have p1:=e1 39 (34::t) false (by simp;omega) (dE _ _ _)
    have p2:=e1 34 (34::t) true (by simp;omega) (dE _ _ _)
    simp only[if_true,Bool.false_eq_true,if_false,List.drop_succ_cons,List.drop_zero]at p1 p2
    refine iY rfl co rfl (fun cargs w=>call216 cargs w) func216 rfl mixed (by kernel_rfl) rfl ?_;intro b0 hb0
    have lq:q<b0:=ax hb0 (by rw[hq];rfl)
    have z0:=aT lq;have z1:=aw lq;have z2:=aK lq;have z3:=ao lq
    repeat' first|simp only[results216,ntmps216,am,hq,z0,z1,z2,z3,aG,aH,aB,aD,az,bg,ai,seval,ah]|exact rfl|((first|(refine ac ?_ (hcv _) ?_)|(refine ab ?_ (fun _=>hcv _) ?_));(focus (simp only[results216,ntmps216,am,hq,z0,z1,z2,z3,aG,aH,aB,aD,az,bg,ai,seval,ah]<;>exact rfl)))|((refine ag ?_ [q] (p1 _ _ ?_ ap (by omega)) ?_ ?_);iterate 3 (focus (simp only[aj,results216,ntmps216,am,hq,z0,z1,z2,z3,aG,aH,aB,aD,az,bg,ai,seval,ah]<;>exact rfl)))|((refine ag ?_ [q] (p2 _ _ ?_ ap (by omega)) ?_ ?_);iterate 3 (focus (simp only[aj,results216,ntmps216,am,hq,z0,z1,z2,z3,aG,aH,aB,aD,az,bg,ai,seval,ah]<;>exact rfl)))|(refine cH rfl [q] (gK q _ _) ?_)|((first|apply Ca|apply Cb)<;>intro hb)|refine Ai (by omega) ?_|(apply Ai<;>intro hb)
  | some p =>
   obtain⟨a,r⟩:=p
   have ecv:gO k t = .tup [.str a,.str r,.bool true]:=by unfold gO;rw[hc]
   rw[ecv]at hcv
   obtain⟨he,hka⟩:=eG hc
   obtain⟨hda,hdr⟩:=bS hk128 hd2 he
   have hla:a.length≤16384:=by
    have:=congrArg List.length he
    simp at this;omega
   have hto:bV (a.map ct)=none:=by
    unfold iu at hv
    rw[sn,if_pos hk,hc]at hv
    simpa [yu] using hv
   have hmp:=F8 a (by omega) hda
   unfold B6 at hmp
   have hg:=rr (a.map ct) (by rw[Lm];unfold bh;omega)
   rw[kg (eR.2 ⟨by rw[Lm];omega,xZ hda⟩) hto]at hg
   rcases hk with rfl|rfl
   ·have p1:=e1 39 (39::t) true (by simp;omega) (dE _ _ _)
    simp only[if_true,List.drop_succ_cons,List.drop_zero]at p1
    refine iY rfl co rfl (fun cargs w=>call216 cargs w) func216 rfl mixed (by kernel_rfl) rfl ?_;intro b0 hb0
    have lq:q<b0:=ax hb0 (by rw[hq];rfl)
    have z0:=aT lq;have z1:=aw lq;have z2:=aK lq;have z3:=ao lq
    repeat' first|simp only[al,aj,results216,ntmps216,am,hq,z0,z1,z2,z3,aG,aH,aB,aD,az,bg,ai,seval,ah]|exact rfl|refine aa (v:=.any) ?_|(first|(refine ac ?_ (hcv _) ?_)|(refine ab ?_ (fun _=>hcv _) ?_)|(refine ac ?_ (hmp _) ?_)|(refine ab ?_ (fun _=>hmp _) ?_)|(refine ac ?_ (hg _) ?_)|(refine ab ?_ (fun _=>hg _) ?_))|(refine ag ?_ [q] (p1 _ _ ?_ ap (by omega)) ?_ ?_)|(refine cH rfl [q] (gK q _ _) ?_)|((first|apply Ca|apply Cb)<;>intro hb)|refine Ai (by omega) ?_|(apply Ai<;>intro hb)
   ·have p1:=e1 39 (34::t) false (by simp;omega) (dE _ _ _)
    have p2:=e1 34 (34::t) true (by simp;omega) (dE _ _ _)
    simp only[if_true,Bool.false_eq_true,if_false,List.drop_succ_cons,List.drop_zero]at p1 p2
    refine iY rfl co rfl (fun cargs w=>call216 cargs w) func216 rfl mixed (by kernel_rfl) rfl ?_;intro b0 hb0
    have lq:q<b0:=ax hb0 (by rw[hq];rfl)
    have z0:=aT lq;have z1:=aw lq;have z2:=aK lq;have z3:=ao lq
    repeat' first|simp only[results216,ntmps216,am,hq,z0,z1,z2,z3,aG,aH,aB,aD,az,bg,ai,seval,ah]|exact rfl|((first|(refine ac ?_ (hcv _) ?_)|(refine ab ?_ (fun _=>hcv _) ?_)|(refine ac ?_ (hmp _) ?_)|(refine ab ?_ (fun _=>hmp _) ?_)|(refine ac ?_ (hg _) ?_)|(refine ab ?_ (fun _=>hg _) ?_));(focus (simp only[results216,ntmps216,am,hq,z0,z1,z2,z3,aG,aH,aB,aD,az,bg,ai,seval,ah]<;>exact rfl)))|((refine ag ?_ [q] (p1 _ _ ?_ ap (by omega)) ?_ ?_);iterate 3 (focus (simp only[aj,results216,ntmps216,am,hq,z0,z1,z2,z3,aG,aH,aB,aD,az,bg,ai,seval,ah]<;>exact rfl)))|((refine ag ?_ [q] (p2 _ _ ?_ ap (by omega)) ?_ ?_);iterate 3 (focus (simp only[aj,results216,ntmps216,am,hq,z0,z1,z2,z3,aG,aH,aB,aD,az,bg,ai,seval,ah]<;>exact rfl)))|(refine cH rfl [q] (gK q _ _) ?_)|((first|apply Ca|apply Cb)<;>intro hb)|refine Ai (by omega) ?_|(apply Ai<;>intro hb)
 ·have hn:∀ k:UInt8,k=39∨k=34→preB s [k]=false:=by
   intro k hk2
   cases s with
   | nil=>rfl
   | cons c t =>
    rw[dE]
    refine beq_false_of_ne (fun e=>hk ⟨c,t,rfl,?_⟩)
    rw[e];exact hk2
  have p1:=e1 39 s false (by omega) (hn 39 (.inl rfl))
  have p2:=e1 34 s false (by omega) (hn 34 (.inr rfl))
  simp only[Bool.false_eq_true,if_false]at p1 p2
  refine iY rfl co rfl (fun cargs w=>call216 cargs w) func216 rfl mixed (by kernel_rfl) rfl ?_;intro b0 hb0
  have lq:q<b0:=ax hb0 (by rw[hq];rfl)
  have z0:=aT lq;have z1:=aw lq;have z2:=aK lq;have z3:=ao lq
  repeat' first|simp only[results216,ntmps216,am,hq,z0,z1,z2,z3,aG,aH,aB,aD,az,bg,ai,seval,ah]|exact rfl|((refine ag ?_ [q] (p1 _ _ ?_ ap (by omega)) ?_ ?_);iterate 3 (focus (simp only[aj,results216,ntmps216,am,hq,z0,z1,z2,z3,aG,aH,aB,aD,az,bg,ai,seval,ah]<;>exact rfl)))|((refine ag ?_ [q] (p2 _ _ ?_ ap (by omega)) ?_ ?_);iterate 3 (focus (simp only[aj,results216,ntmps216,am,hq,z0,z1,z2,z3,aG,aH,aB,aD,az,bg,ai,seval,ah]<;>exact rfl)))|(refine cH rfl [q] (gK q _ _) ?_)|((first|apply Ca|apply Cb)<;>intro hb)|refine Ai (by omega) ?_|(apply Ai<;>intro hb)
end Go.Proofs.YtidmkaalhmeflaaGreatDoor
namespace Go.Proofs.YtidmkaalhmeflaaGreatDoor
set_option maxRecDepth 100000
set_option maxHeartbeats 32000000
set_option linter.unusedSimpArgs false
set_option linter.unusedVariables false
open Go Go.RowKit Go.Lib
theorem sy {p:UInt8→Bool}(hp:∀ c,p c=true→c.toNat<128):∀ s:List UInt8,(dZ s).isSome=true→(dZ (s.dropWhile p)).isSome=true
 | [],h=>h
 | c::s,h=>by
  rw[List.dropWhile_cons]
  by_cases hc:p c=true
  ·rw[if_pos hc]
   exact sy hp s (bS (hp c hc) (a:=[]) h rfl).2
  ·rw[if_neg hc];exact h
theorem EL:∀ c:UInt8,iw c=true→c.toNat<128:=by
 have key:∀ n:Fin 256,iw (UInt8.ofNat n.val)=true→n.val<128:=by decide +kernel
 intro c hc
 have:=key ⟨c.toNat,c.toNat_lt⟩ (by simpa using hc)
 exact this
theorem FS:∀ c:UInt8,eZ c=true→c.toNat<128:=by
 have key:∀ n:Fin 256,eZ (UInt8.ofNat n.val)=true→n.val<128:=by decide +kernel
 intro c hc
 have:=key ⟨c.toNat,c.toNat_lt⟩ (by simpa using hc)
 exact this
theorem dy {s:List UInt8}(h:(dZ s).isSome=true):(dZ (bd s)).isSome=true:=sy EL s h
theorem im {s n r:List UInt8}(h:(dZ s).isSome=true)(hn:eQ s=some (n,r)):(dZ r).isSome=true:=by
 rw[←(vu hn).2.1]
 exact sy FS s h
theorem EN {s v r:List UInt8}(h:(dZ s).isSome=true)(hv:iu s=some (v,r)):(dZ r).isSome=true:=by
 obtain⟨a,h1,_⟩:=kM hv
 obtain⟨k,hk,rfl,_⟩:=kQ h1
 have hk128:k.toNat<128:=by rcases hk with rfl|rfl<;>decide
 exact(bS hk128 (a:=k::a) h rfl).2
theorem su {s r:List UInt8}{a:Pr}(h:(dZ s).isSome=true)(ha:gB s=some (a,r)):(dZ r).isSome=true:=by
 obtain⟨r1,t,h1,h2,h3⟩:=mG ha
 have d1:=dy (im h h1)
 rw[h2]at d1
 have d2:=(bS (d:=61) (by decide) (a:=[]) d1 rfl).2
 exact EN (dy d2) h3
theorem sk {s:List UInt8}(h:(dZ s).isSome=true):(dZ (cD s)).isSome=true∧(dZ (fZ s)).isSome=true:=by
 have e:s=cD s++fZ s:=(List.takeWhile_append_dropWhile).symm
 cases hr:fZ s with
 | nil =>
  rw[hr,List.append_nil]at e
  rw[← e];exact⟨h,rfl⟩
 | cons c t =>
  have hc:jr c=false:=by
   have:=List.head?_dropWhile_not jr s
   unfold fZ at hr
   rw[hr]at this
   simpa using this
  have hc60:c=60:=by simpa [jr] using hc
  rw[hr]at e
  subst hc60
  obtain⟨h1,h2⟩:=bS (d:=60) (by decide) h e
  refine⟨h1,?_⟩
  have d60:dZ [60]=some [60]:=by decide +kernel
  obtain⟨y,hy⟩:=Option.isSome_iff_exists.1 h2
  rw[show(60:UInt8)::t=[60]++t from rfl,si d60 hy];rfl
end Go.Proofs.YtidmkaalhmeflaaGreatDoor
namespace Go.Proofs.YtidmkaalhmeflaaGreatDoor
set_option maxRecDepth 100000
set_option maxHeartbeats 32000000
set_option linter.unusedSimpArgs false
set_option linter.unusedVariables false
open Go Go.RowKit Vm Go.Lib Tryz
open Vm renaming aZ→Ca,bj→Cb
open And renaming intro→Ai
open List renaming length_map→Lm,not_mem_nil→Ln,map_nil→Lo,map_cons→Lc,mem_cons→Lk
open Bool renaming not_false→Bf,not_true→Bt
theorem cN (s p:List UInt8)(y:Bool)(hs:s.length≤20000)(hp:p.length≤100)(hy:preB s p=y)(q:Nat)(M:aq)(nm:Nat)(hq:M q=some ⟨1,[[.str s]]⟩)(ho:∀ z,(M z).isSome=true→z∈[q])(hqn:q<nm) :
  Ev cx 186 nm [.ptr q 0 0,.str p] M (.bool y) [(q,some ⟨1,[[.str (if y then s.drop p.length else s)]]⟩)]:=by
 have:=Aj s p (by unfold bh;omega) (by unfold bh;omega) q M nm hq ho hqn
 rw[hy]at this
 cases y<;>exact this
theorem eD {c:UInt8}{s:List UInt8} : preB s [c]=(bY c s).isSome:=by
 cases s with
 | nil=>rfl
 | cons d t =>
  rw[dE,iS]
  by_cases h:d=c
  ·rw[if_pos h,h];simp
  ·rw[if_neg h];simpa using h
theorem Lq (s t n r r2:List UInt8)(hs:s.length≤16384)(h1:bY 47 s=some t)(h2:eQ t=some (n,r))(h3:bY 62 (bd r)=some r2)(q:Nat)(M:aq)(nm:Nat)(hq:M q=some (bQ s))(ho:∀ z,(M z).isSome=true→z∈[q])(hqn:q<nm) :
  Ev cx 187 nm [.ptr q 0 0] M (.agg [.int .u8 2,.str n,.nils,.str []]) [(q,some (bQ r2))]:=by
 obtain rfl:=bX h1
 have hk:=bX h3
 have l1:t.length+1≤16384:=by simpa using hs
 obtain⟨_,_,_,l2⟩:=fH h2
 have l3:=c5 r
 have p1:∀(M':aq) (n':Nat),M' q=some ⟨1,[[.str (47::t)]]⟩→(∀ z,(M' z).isSome=true→z∈[q])→q<n'→Ev cx 186 n' [.ptr q 0 0,.str [47]] M' (.bool true) [(q,some ⟨1,[[.str t]]⟩)]:=fun M' n' a b c=>by
  have:=cN (47::t) [47] true (by omega) (by decide) (by rw[dE];rfl) q M' n' a b c
  exact this
 have p2:∀(M':aq) (n':Nat),M' q=some ⟨1,[[.str (bd r)]]⟩→(∀ z,(M' z).isSome=true→z∈[q])→q<n'→Ev cx 186 n' [.ptr q 0 0,.str [62]] M' (.bool true) [(q,some ⟨1,[[.str r2]]⟩)]:=fun M' n' a b c=>by
  rw[hk]at a l3
  have:=cN (62::r2) [62] true (by omega) (by decide) (by rw[dE];rfl) q M' n' a b c
  exact this
 have hn:=j5 t n r (by omega) h2
 have hsk:=jp r (by unfold bh;omega)
 unfold bQ at hq hn hsk ⊢
 refine ay rfl (fun cargs w=>call187 cargs w) func187 rfl mixed (by kernel_rfl) rfl ?_;intro b0 hb0
 have lq:q<b0:=ax hb0 (by rw[hq];rfl)
 have z0:=aT lq;have z1:=aw lq;have z2:=aK lq;have z3:=ao lq
 repeat' first|simp only[results187,ntmps187,am,hq,z0,z1,z2,z3,ai,seval,ah]|exact rfl|((first|(refine ag ?_ [q] (p1 _ _ ?_ ap (by omega)) ?_ ?_)|(refine ag ?_ [q] (hn q _ _ ?_ ap (by omega)) ?_ ?_)|(refine ag ?_ [q] (hsk q _ _ ?_ ap (by omega)) ?_ ?_));iterate 3 (focus (simp only[aj,results187,ntmps187,am,hq,z0,z1,z2,z3,ai,seval,ah]<;>exact rfl)))|((refine ag ?_ [q] (p2 _ _ ?_ ap (by omega)) ?_ ?_);iterate 3 (focus (simp only[aj,results187,ntmps187,am,hq,z0,z1,z2,z3,ai,seval,ah]<;>exact rfl)))|((first|apply Ca|apply Cb)<;>intro hb)|refine Ai (by omega) ?_|(apply Ai<;>intro hb)
 all_goals ((refine Fin.give [(q,none)] [] ?_ ?_ ?_ ?_ ?_ (fun q hq=>by have hqq:=ho q hq;first|(simp only[aF,tgt,Lc,Lo,Lk,Ln,or_false]at hqq ⊢;omega)|(simp only[aF,tgt,Lc,Lo,Lk,Ln,or_false]at hqq))<;>(try simp only[results187,ntmps187,am,hq,z0,z1,z2,z3,eH,ai,seval,ah])<;>(try simp only[au])<;>(try omega)))
theorem Gs (s t:List UInt8)(hs:s.length≤16384)(h1:bY 47 s=some t)(hno:sM s=none)(q:Nat)(M:aq)(nm:Nat)(hq:M q=some (bQ s))(ho:∀ z,(M z).isSome=true→z∈[q])(hqn:q<nm) :
  xI cx 187 nm [.ptr q 0 0] M z5:=by
 obtain rfl:=bX h1
 have l1:t.length+1≤16384:=by simpa using hs
 have p1:∀(M':aq) (n':Nat),M' q=some ⟨1,[[.str (47::t)]]⟩→(∀ z,(M' z).isSome=true→z∈[q])→q<n'→Ev cx 186 n' [.ptr q 0 0,.str [47]] M' (.bool true) [(q,some ⟨1,[[.str t]]⟩)]:=fun M' n' a b c=>by
  have:=cN (47::t) [47] true (by omega) (by decide) (by rw[dE];rfl) q M' n' a b c
  exact this
 unfold bQ at hq
 cases h2:eQ t with
 | none =>
  have hn:=pm t (by omega) h2
  unfold bQ at hn
  refine iY rfl co rfl (fun cargs w=>call187 cargs w) func187 rfl mixed (by kernel_rfl) rfl ?_;intro b0 hb0
  have lq:q<b0:=ax hb0 (by rw[hq];rfl)
  have z0:=aT lq;have z1:=aw lq;have z2:=aK lq;have z3:=ao lq
  repeat' first|simp only[results187,ntmps187,am,hq,z0,z1,z2,z3,aG,aH,aB,aD,az,bg,ai,seval,ah]|exact rfl|((refine ag ?_ [q] (p1 _ _ ?_ ap (by omega)) ?_ ?_);iterate 3 (focus (simp only[aj,results187,ntmps187,am,hq,z0,z1,z2,z3,aG,aH,aB,aD,az,bg,ai,seval,ah]<;>exact rfl)))|((first|apply Ca|apply Cb)<;>intro hb)|refine Ai (by omega) ?_|(apply Ai<;>intro hb)
  refine cH rfl [q] (hn q _ _ ?_ ap (by omega)) ?_
  ·simp only[aj,am,hq,z0,z1,z2,z3,ai,seval,ah]<;>exact rfl
  ·simp only[aB,aD,az,bg,z5]
 | some p =>
  obtain⟨n,r⟩:=p
  obtain⟨_,_,_,l2⟩:=fH h2
  have l3:=c5 r
  have h3:bY 62 (bd r)=none:=by
   unfold sM at hno
   rw[h1]at hno
   simp only[h2,Option.bind_some,Option.map_eq_none_iff]at hno
   exact hno
  have hn:=j5 t n r (by omega) h2
  have hsk:=jp r (by unfold bh;omega)
  have p2:=cN (bd r) [62] false (by omega) (by decide) (by rw[eD,h3];rfl)
  simp only[Bool.false_eq_true,if_false]at p2
  unfold bQ at hn hsk
  refine iY rfl co rfl (fun cargs w=>call187 cargs w) func187 rfl mixed (by kernel_rfl) rfl ?_;intro b0 hb0
  have lq:q<b0:=ax hb0 (by rw[hq];rfl)
  have z0:=aT lq;have z1:=aw lq;have z2:=aK lq;have z3:=ao lq
  repeat' first|simp only[results187,ntmps187,am,hq,z0,z1,z2,z3,aG,aH,aB,aD,az,bg,ai,seval,ah]|exact rfl|((first|(refine ag ?_ [q] (p1 _ _ ?_ ap (by omega)) ?_ ?_)|(refine ag ?_ [q] (hn q _ _ ?_ ap (by omega)) ?_ ?_)|(refine ag ?_ [q] (hsk q _ _ ?_ ap (by omega)) ?_ ?_));iterate 3 (focus (simp only[aj,results187,ntmps187,am,hq,z0,z1,z2,z3,aG,aH,aB,aD,az,bg,ai,seval,ah]<;>exact rfl)))|((refine ag ?_ [q] (p2 q _ _ ?_ ap (by omega)) ?_ ?_);iterate 3 (focus (simp only[aj,results187,ntmps187,am,hq,z0,z1,z2,z3,aG,aH,aB,aD,az,bg,ai,seval,ah]<;>exact rfl)))|(refine cH rfl [q] (gK q _ _) ?_)|((first|apply Ca|apply Cb)<;>intro hb)|refine Ai (by omega) ?_|(apply Ai<;>intro hb)
def ES (o:Option Nat):Int:=match o with|some n=>n|none=>-1
theorem b9 (n:Nat):ES (some n)=n:=rfl
theorem ec:ES none = -1:=rfl
theorem lG {α:Type}{p:α→Bool} : ∀ {l:List α} {k:Nat} {x:α},(l.take k).any p=false→l[k]? = some x→p x=true→l.findIdx? p=some k
 | [],k,x,_,h,_=>by simp at h
 | y::l,0,x,_,h,hp=>by simp at h;subst h;simp[List.findIdx?_cons,hp]
 | y::l,k+1,x,hn,h,hp=>by
  simp only[List.take_succ_cons,List.any_cons,Bool.or_eq_false_iff]at hn
  rw[List.findIdx?_cons,hn.1]
  simp[lG (l:=l) (k:=k) (x:=x) hn.2 (by simpa using h) hp]
theorem jd {α:Type}{p:α→Bool}{l:List α}(h:l.any p=false):l.findIdx? p=none:=by
 simpa [List.findIdx?_eq_none_iff] using h
theorem sH {α:Type}{p:α→Bool}{l:List α}(h:l.findIdx? p=none):l.any p=false:=by
 simpa [List.findIdx?_eq_none_iff] using h
theorem t0 {α:Type}{p:α→Bool}{l:List α}{n:Nat}(h:l.findIdx? p=some n):l.any p=true:=by
 cases ha:l.any p with
 | true=>rfl
 | false=>rw[jd ha]at h;cases h
theorem eC {caps:List V}(h:plainL caps=true)(σ:List (Nat×Nat))(M:aq):finL σ M caps=caps:=(finL_plain σ M caps h).1
theorem df {caps:List V}(h:plainL caps=true)(σ:List (Nat×Nat))(M:aq):finLOk σ M caps=True:=eq_true (finL_plain σ M caps h).2
theorem AX (l:List Pr)(f:Nat)(caps:List V)(p:Pr→Bool)(hf:∀ h∈l,∀ nm,Ev cx f nm (.agg (dj h)::caps) aq.nil (.bool (p h)) [])(hn:l.length≤bh)(hpl:plainL caps=true)(nm:Nat):Ev cx 210 nm [.sl false 2 (l.map dj),.fn f caps] aq.nil (.int .i64 (ES (l.findIdx? p))) []:=by
 unfold bh at hn
 refine ay rfl (fun cargs w=>call210 cargs w) func210 rfl mixed (by kernel_rfl) rfl ?_;intro b0 hb0
 repeat' first|simp only[al,aj,results210,ntmps210,am,ai,seval,ah]|exact rfl|refine aa (v:=.any) ?_|((first|(refine aM (g:=?_) ?_ ?_)|(refine aI (g:=?_) ?_ ?_));rotate_left 1;(focus (simp only[results210,ntmps210,am,ai,seval,ah]<;>exact rfl)))|((first|apply Ca|apply Cb)<;>intro hb)|refine Ai (by omega) ?_|(apply Ai<;>intro hb)
 (refine aU co (fun x:Nat=>l.length-x) (fun x=>x≤l.length∧(l.take x).any p=false) (b0+16) (fun x=>[(0,.sl false 2 (l.map dj)),(1,.fn f caps),(7,.int .i64 l.length),(8,.int .i64 x)]) (fun x=>[]) (0) [] ?_ ?_ ?_ ?_;rotate_left 1;(focus (show b0≤_;omega));(focus (refine⟨?_,?_⟩<;>(try simp only[bk,Lm,aL,eC hpl,df hpl,ai,seval,ah,au])<;>(try omega)));rotate_left 1)
 ·exact⟨Nat.zero_le _,by simp⟩
 ·rintro k ⟨hk,hno⟩
  by_cases hlt:k<l.length
  ·obtain⟨h,hh⟩:∃ h,l[k]? = some h:=⟨_,List.getElem?_eq_getElem hlt⟩
   have hat:(l.map dj)[k]? = some (dj h):=by rw[List.getElem?_map,hh];rfl
   have hd:decide (k<l.length)=true:=decide_eq_true hlt
   have hwk:IntKind.i64.wrap ((k:Int)+1)=((k+1:Nat):Int):=aN (by omega) (by omega)
   have hfh:=hf h (List.mem_of_getElem? hh)
   cases hp:p h with
   | true =>
    have hfd:=lG hno hh hp
    rw[hp]at hfh
    (repeat' first|simp only[al,aj,results210,ntmps210,am,hat,dj,hlt,hd,hwk,hfd,b9,Lm,ai,seval,ah]|exact rfl|refine aa (v:=.any) ?_|refine cL (g:=f) (caps:=caps) (by simp only[results210,ntmps210,am,hat,dj,hlt,hd,hwk,hfd,b9,Lm,ai,seval,ah]<;>exact rfl) (by simp only[results210,ntmps210,am,hat,dj,hlt,hd,hwk,hfd,b9,Lm,ai,seval,ah]<;>exact rfl) (hfh _) ?_|((first|(refine aM (g:=?_) ?_ ?_)|(refine aI (g:=?_) ?_ ?_));rotate_left 1;(focus (simp only[results210,ntmps210,am,hat,dj,hlt,hd,hwk,hfd,b9,Lm,ai,seval,ah]<;>exact rfl)))|((first|apply Ca|apply Cb)<;>intro hb)|refine Ai (by omega) ?_|(apply Ai<;>intro hb)|refine Fin.pure ?_ ?_ ?_|simp only[au])
   | false =>
    have hn':=fR (p:=p) hno hh hp
    rw[hp]at hfh
    repeat' first|simp only[al,aj,results210,ntmps210,am,hat,dj,hlt,hd,hwk,Lm,ai,seval,ah]|exact rfl|refine aa (v:=.any) ?_|refine cL (g:=f) (caps:=caps) (by simp only[results210,ntmps210,am,hat,dj,hlt,hd,hwk,Lm,ai,seval,ah]<;>exact rfl) (by simp only[results210,ntmps210,am,hat,dj,hlt,hd,hwk,Lm,ai,seval,ah]<;>exact rfl) (hfh _) ?_|((first|(refine aM (g:=?_) ?_ ?_)|(refine aI (g:=?_) ?_ ?_));rotate_left 1;(focus (simp only[results210,ntmps210,am,hat,dj,hlt,hd,hwk,Lm,ai,seval,ah]<;>exact rfl)))|((first|apply Ca|apply Cb)<;>intro hb)|refine Ai (by omega) ?_|(apply Ai<;>intro hb)
    all_goals ((refine aJ co (k+1) [] ?_ ?_ ?_ ?_;rotate_left 2;(focus (show b0≤_;omega));(focus (refine⟨?_,?_⟩<;>(try simp only[bk,aL,eC hpl,df hpl,hwk,ai,seval,ah,au])<;>(try omega)))))
    all_goals (first|(show l.length-(k+1)<l.length-k;omega)|exact⟨hlt,hn'⟩|skip)
  ·have hke:k=l.length:=by omega
   subst hke
   rw[List.take_length]at hno
   have hfd:=jd hno
   have hd:decide (l.length<l.length)=false:=decide_eq_false (by omega)
   (repeat' first|simp only[al,aj,results210,ntmps210,am,hd,hfd,ec,Lm,ai,seval,ah]|exact rfl|refine aa (v:=.any) ?_|((first|(refine aM (g:=?_) ?_ ?_)|(refine aI (g:=?_) ?_ ?_));rotate_left 1;(focus (simp only[results210,ntmps210,am,hd,hfd,ec,Lm,ai,seval,ah]<;>exact rfl)))|((first|apply Ca|apply Cb)<;>intro hb)|refine Ai (by omega) ?_|(apply Ai<;>intro hb)|refine Fin.pure ?_ ?_ ?_|simp only[au])
theorem ut (l:List Pr)(f:Nat)(caps:List V)(p:Pr→Bool)(hf:∀ h∈l,∀ nm,Ev cx f nm (.agg (dj h)::caps) aq.nil (.bool (p h)) [])(hn:l.length≤bh)(hpl:plainL caps=true)(nm:Nat):Ev cx 178 nm [.sl false 2 (l.map dj),.fn f caps] aq.nil (.bool (l.any p)) []:=by
 have hi:=AX l f caps p hf hn hpl
 cases h:l.findIdx? p with
 | none =>
  have ha:l.any p=false:=sH h
  rw[h]at hi
  refine ay rfl (fun cargs w=>call178 cargs w) func178 rfl mixed (by kernel_rfl) rfl ?_;intro b0 hb0
  (repeat' first|simp only[al,aj,results178,ntmps178,am,ha,ec,ai,seval,ah]|exact rfl|refine aa (v:=.any) ?_|(first|(refine ac ?_ (hi _) ?_)|(refine ab ?_ (fun _=>hi _) ?_))|((first|apply Ca|apply Cb)<;>intro hb)|refine Ai (by omega) ?_|(apply Ai<;>intro hb)|refine Fin.pure ?_ ?_ ?_|simp only[au])
 | some n =>
  have ha:l.any p=true:=t0 h
  rw[h]at hi
  have hz:decide ((0:Int)≤(n:Int))=true:=decide_eq_true (by omega)
  refine ay rfl (fun cargs w=>call178 cargs w) func178 rfl mixed (by kernel_rfl) rfl ?_;intro b0 hb0
  (repeat' first|simp only[al,aj,results178,ntmps178,am,ha,b9,hz,ai,seval,ah]|exact rfl|refine aa (v:=.any) ?_|(first|(refine ac ?_ (hi _) ?_)|(refine ab ?_ (fun _=>hi _) ?_))|((first|apply Ca|apply Cb)<;>intro hb)|refine Ai (by omega) ?_|(apply Ai<;>intro hb)|refine Fin.pure ?_ ?_ ?_|simp only[au])
theorem JQ (a b:Pr)(nm:Nat):Ev cx 215 nm [.agg (dj b),.rp (dj a)] aq.nil (.bool (a.name==b.name)) []:=by
 refine ay rfl (fun cargs w=>call215 cargs w) func215 rfl mixed (by kernel_rfl) rfl ?_;intro b0 hb0
 (repeat' first|simp only[al,aj,results215,ntmps215,am,dj,ai,seval,ah]|exact rfl|refine aa (v:=.any) ?_|((first|apply Ca|apply Cb)<;>intro hb)|refine Ai (by omega) ?_|(apply Ai<;>intro hb)|refine Fin.pure ?_ ?_ ?_|simp only[au])
theorem zO (l:List Pr)(a:Pr)(hn:l.length≤bh)(nm:Nat):Ev cx 178 nm [.sl false 2 (l.map dj),.fn 215 [.rp (dj a)]] aq.nil (.bool (l.any fun b=>a.name==b.name)) [] :=
 ut l 215 [.rp (dj a)] (fun b=>a.name==b.name) (fun b _ nm=>JQ a b nm) hn rfl nm
end Go.Proofs.YtidmkaalhmeflaaGreatDoor
namespace Go.Proofs.YtidmkaalhmeflaaGreatDoor
set_option maxRecDepth 100000
set_option maxHeartbeats 32000000
set_option linter.unusedSimpArgs false
set_option linter.unusedVariables false
open Go Go.RowKit Go.Lib
theorem Ck {s:List UInt8}(h:preB s [62]=true):∃ t,s=62::t∧kW s=some (1,t):=by
 cases s with
 | nil=>cases h
 | cons c t =>
  rw[dE]at h
  obtain rfl:=eq_of_beq h
  exact⟨t,rfl,rfl⟩
theorem vH {s:List UInt8}(h:preB s [47,62]=true):∃ t,s=47::62::t∧kW s=some (3,t):=by
 match s,h with
 | [],h=>cases h
 | [c],h=>simp[preB]at h
 | c::d::t,h =>
  simp[preB]at h
  obtain⟨rfl,rfl⟩:=h
  exact⟨t,rfl,rfl⟩
theorem zF {s:List UInt8}(h1:preB s [62]=false)(h2:preB s [47,62]=false):kW s=none:=by
 unfold kW
 split
 ·rw[dE]at h1;simp at h1
 ·simp[preB]at h2
 ·rfl
end Go.Proofs.YtidmkaalhmeflaaGreatDoor
namespace Go.Proofs.YtidmkaalhmeflaaGreatDoor
set_option maxRecDepth 100000
set_option maxHeartbeats 32000000
set_option linter.unusedSimpArgs false
set_option linter.unusedVariables false
open Go Go.RowKit Vm Go.Lib Tryz
open Vm renaming aZ→Ca,bj→Cb
open And renaming intro→Ai
open List renaming length_map→Lm,not_mem_nil→Ln,map_nil→Lo,map_cons→Lc,mem_cons→Lk
open Bool renaming not_false→Bf,not_true→Bt
structure TSt where
 l:List Pr
 rest:List UInt8
theorem KT (s n r0 r:List UInt8)(k:Nat)(l:List Pr)(hs:s.length≤16384)(hd:(dZ s).isSome=true)(h1:bY 47 s=none)(h2:eQ s=some (n,r0))(h3:iU n [] r0=some (⟨k,n,l,[]⟩,r))(q:Nat)(M:aq)(nm:Nat)(hq:M q=some (bQ s))(ho:∀ z,(M z).isSome=true→z∈[q])(hqn:q<nm) :
    Ev cx 187 nm [.ptr q 0 0] M (.agg [.int .u8 k,.str n,.own nm 0 l.length,.str []]) [(q,some (bQ r)),(nm,some ⟨2,l.map dj⟩)]:=by
  have p1:=cN s [47] false (by omega) (by decide) (by rw[eD,h1];rfl)
  simp only[Bool.false_eq_true,if_false]at p1
  have hn:=j5 s n r0 (by omega) h2
  obtain⟨_,_,_,l2⟩:=fH h2
  have hd0:=im hd h2
  unfold bQ at hq hn ⊢
  refine ay rfl (fun cargs w=>call187 cargs w) func187 rfl mixed (by kernel_rfl) rfl ?_;intro b0 hb0
  have lq:q<b0:=ax hb0 (by rw[hq];rfl)
  have z0:=aT lq;have z1:=aw lq;have z2:=aK lq;have z3:=ao lq
  repeat' first|simp only[results187,ntmps187,am,hq,z0,z1,z2,z3,ai,seval,ah]|exact rfl|((first|(refine ag ?_ [q] (p1 q _ _ ?_ ap (by omega)) ?_ ?_)|(refine ag ?_ [q] (hn q _ _ ?_ ap (by omega)) ?_ ?_));iterate 3 (focus (simp only[aj,results187,ntmps187,am,hq,z0,z1,z2,z3,ai,seval,ah]<;>exact rfl)))|((first|apply Ca|apply Cb)<;>intro hb)|refine Ai (by omega) ?_|(apply Ai<;>intro hb)
  (refine aU co (fun x:TSt=>x.rest.length) (fun x=>iU n x.l x.rest=some (⟨k,n,l,[]⟩,r)∧(dZ x.rest).isSome=true∧x.rest.length+x.l.length≤16384) (b0+16) (fun x=>[(0,.ptr q 0 0),(2,.ptr b0 0 0)]) (fun x=>[(q,⟨1,[[.str x.rest]]⟩),(b0,⟨4,[[.int .u8 0,.str n,.own (b0+1) 0 x.l.length,.str []]]⟩),(b0+1,⟨2,x.l.map dj⟩)]) (⟨[],r0⟩) [some q,some b0,none] ?_ ?_ ?_ ?_;rotate_left 1;(focus (show b0≤_;omega));(focus (refine⟨?_,?_⟩<;>(try simp only[bk,hq,z0,z1,z2,z3,aV,Lo,List.length_nil,ai,seval,ah,au])<;>(try omega)));rotate_left 1)
  · exact⟨h3,hd0,by show r0.length+0≤16384;omega⟩
  · rintro ⟨xl,xr⟩ ⟨g1,g2,g3⟩
    dsimp only at g1 g2 g3 ⊢
    have gl:=c5 xr
    have hsk:=jp xr (by unfold bh;omega)
    unfold bQ at hsk
    have hnl:(xl.map dj).length=xl.length:=Lm _
    by_cases e62:preB (bd xr) [62]=true
    · obtain⟨t,ht,hen⟩:=Ck e62
      rw[kT hen]at g1
      simp only[Option.some.injEq,Prod.mk.injEq,Tk.mk.injEq,true_and,and_true]at g1
      obtain⟨⟨rfl,rfl⟩,rfl⟩:=g1
      have p62:=cN (bd xr) [62] true (by omega) (by decide) e62
      simp only[if_true,ht,List.drop_succ_cons,List.drop_zero,List.length_cons,List.length_nil]at p62 hsk
      repeat' first|simp only[results187,ntmps187,am,hq,z0,z1,z2,z3,ai,seval,ah]|exact rfl|((first|(refine ag ?_ [q] (hsk q _ _ ?_ ap (by omega)) ?_ ?_)|(refine ag ?_ [q] (p62 q _ _ ?_ ap (by omega)) ?_ ?_));iterate 3 (focus (simp only[aj,results187,ntmps187,am,hq,z0,z1,z2,z3,ai,seval,ah]<;>exact rfl)))|((first|apply Ca|apply Cb)<;>intro hb)|refine Ai (by omega) ?_|(apply Ai<;>intro hb)
      all_goals ((refine Fin.give [(q,none),(b0+1,some 0)] [] ?_ ?_ ?_ ?_ ?_ (fun q hq=>by have hqq:=ho q hq;first|(simp only[aF,tgt,Lc,Lo,Lk,Ln,or_false]at hqq ⊢;omega)|(simp only[aF,tgt,Lc,Lo,Lk,Ln,or_false]at hqq))<;>(try simp only[results187,ntmps187,am,hq,aL,z0,z1,z2,z3,eH,ai,seval,ah])<;>(try simp only[au])<;>(try omega)))
    · have e62':preB (bd xr) [62]=false:=by simpa using e62
      have p62:=cN (bd xr) [62] false (by omega) (by decide) e62'
      simp only[Bool.false_eq_true,if_false]at p62
      by_cases e47:preB (bd xr) [47,62]=true
      · obtain⟨t,ht,hen⟩:=vH e47
        rw[kT hen]at g1
        simp only[Option.some.injEq,Prod.mk.injEq,Tk.mk.injEq,true_and,and_true]at g1
        obtain⟨⟨rfl,rfl⟩,rfl⟩:=g1
        have p63:=cN (bd xr) [47,62] true (by omega) (by decide) e47
        simp only[if_true,ht,List.drop_succ_cons,List.drop_zero,List.length_cons,List.length_nil]at p62 p63 hsk
        repeat' first|simp only[results187,ntmps187,am,hq,z0,z1,z2,z3,ai,seval,ah]|exact rfl|((first|(refine ag ?_ [q] (hsk q _ _ ?_ ap (by omega)) ?_ ?_)|(refine ag ?_ [q] (p62 q _ _ ?_ ap (by omega)) ?_ ?_));iterate 3 (focus (simp only[aj,results187,ntmps187,am,hq,z0,z1,z2,z3,ai,seval,ah]<;>exact rfl)))|((refine ag ?_ [q] (p63 q _ _ ?_ ap (by omega)) ?_ ?_);iterate 3 (focus (simp only[aj,results187,ntmps187,am,hq,z0,z1,z2,z3,ai,seval,ah]<;>exact rfl)))|((first|apply Ca|apply Cb)<;>intro hb)|refine Ai (by omega) ?_|(apply Ai<;>intro hb)
        all_goals ((refine Fin.give [(q,none),(b0+1,some 0)] [] ?_ ?_ ?_ ?_ ?_ (fun q hq=>by have hqq:=ho q hq;first|(simp only[aF,tgt,Lc,Lo,Lk,Ln,or_false]at hqq ⊢;omega)|(simp only[aF,tgt,Lc,Lo,Lk,Ln,or_false]at hqq))<;>(try simp only[results187,ntmps187,am,hq,aL,z0,z1,z2,z3,eH,ai,seval,ah])<;>(try simp only[au])<;>(try omega)))
      · have e47':preB (bd xr) [47,62]=false:=by simpa using e47
        have hen:=zF e62' e47'
        have p63:=cN (bd xr) [47,62] false (by omega) (by decide) e47'
        simp only[Bool.false_eq_true,if_false]at p63
        by_cases hgap:(bd xr).length<xr.length
        · cases hat:gB (bd xr) with
          | none=>rw[rE hen hat]at g1;cases g1
          | some p =>
            obtain⟨a,r'⟩:=p
            cases hany:(xl.any fun b=>a.name==b.name) with
            | true=>rw[mf hen hat hany]at g1;cases g1
            | false =>
              rw[lE hen hgap hat hany]at g1
              have hlt:=ks hat
              have g2':=su (dy g2) hat
              obtain⟨r1,t,k1,k2,k3⟩:=mG hat
              have d1:=dy (im (dy g2) k1)
              rw[k2]at d1
              have d2:=dy (bS (d:=61) (by decide) (a:=[]) d1 rfl).2
              obtain⟨_,_,_,m1⟩:=fH k1
              have m2:=c5 r1
              have m3:=c5 t
              rw[k2]at m2
              simp only[List.length_cons]at m2
              have hgd:decide ((bd xr).length<xr.length)=true:=decide_eq_true hgap
              rw[hgd]at hsk
              have hn1:=j5 (bd xr) a.name r1 (by omega) k1
              have hsk1:=jp r1 (by unfold bh;omega)
              have hsk2:=jp t (by unfold bh;omega)
              rw[k2]at hsk1
              have p61:=cN (61::t) [61] true (by simp;omega) (by decide) (by rw[dE];rfl)
              simp only[if_true,List.drop_succ_cons,List.drop_zero,List.length_cons,List.length_nil]at p61
              have htw:=zO xl ⟨a.name,[]⟩ (by unfold bh;omega)
              simp only[hany,dj]at htw
              have hva:=vx (bd t) a.value r' (by omega) d2 k3
              unfold bQ at hn1 hsk1 hsk2 hva
              repeat' first|simp only[results187,ntmps187,am,aL,hq,dj,z0,z1,z2,z3,Bt,Bf,Lm,ai,seval,ah]|exact rfl|((refine jt (xs:=?_) [b0+1,b0+384] ?_ (fun _=>?_) (fun _=>?_) rfl ((fun _=>htw _)) ?_);rotate_left 1;iterate 3 (focus (simp only[al,aj,results187,ntmps187,am,aL,hq,dj,z0,z1,z2,z3,Bt,Bf,Lm,ai,seval,ah]<;>(first|exact rfl|omega))))|((first|(refine ag ?_ [q] (hsk q _ _ ?_ ap (by omega)) ?_ ?_)|(refine ag ?_ [q] (p62 q _ _ ?_ ap (by omega)) ?_ ?_)|(refine ag ?_ [q] (hn1 q _ _ ?_ ap (by omega)) ?_ ?_)|(refine ag ?_ [q] (hva q _ _ ?_ ap (by omega)) ?_ ?_));iterate 3 (focus (simp only[aj,results187,ntmps187,am,aL,hq,dj,z0,z1,z2,z3,Bt,Bf,Lm,ai,seval,ah]<;>exact rfl)))|((first|(refine ag ?_ [q] (p63 q _ _ ?_ ap (by omega)) ?_ ?_)|(refine ag ?_ [q] (hsk1 q _ _ ?_ ap (by omega)) ?_ ?_));iterate 3 (focus (simp only[aj,results187,ntmps187,am,aL,hq,dj,z0,z1,z2,z3,Bt,Bf,Lm,ai,seval,ah]<;>exact rfl)))|((first|(refine ag ?_ [q] (hsk2 q _ _ ?_ ap (by omega)) ?_ ?_)|(refine ag ?_ [q] (p61 q _ _ ?_ ap (by omega)) ?_ ?_));iterate 3 (focus (simp only[aj,results187,ntmps187,am,aL,hq,dj,z0,z1,z2,z3,Bt,Bf,Lm,ai,seval,ah]<;>exact rfl)))|((first|apply Ca|apply Cb)<;>intro hb)|refine Ai (by omega) ?_|(apply Ai<;>intro hb)
              have hnx:xl.map dj++[[.str a.name,.str a.value]]=(xl++[a]).map dj:=by simp[dj]
              have hnn:(xl++[a]).length=xl.length+1:=by simp
              rw[hnx]
              all_goals ((refine aJ co (⟨xl++[a],r'⟩) [some q,some b0,some (b0+848)] ?_ ?_ ?_ ?_;rotate_left 2;(focus (show b0≤_;omega));(focus (refine⟨?_,?_⟩<;>(try simp only[bk,aL,hq,z0,z1,z2,z3,hnn,Lm,ai,seval,ah,au])<;>(try omega)))))
              all_goals (first|exact⟨g1,g2',by show r'.length+(xl++[a]).length≤16384;omega⟩|(show r'.length<xr.length;omega)|skip)
        · rw[kN hen hgap]at g1;cases g1
theorem E3 (s:List UInt8)(hs:s.length≤16384)(h1:bY 47 s=none)(h2:eQ s=none)(q:Nat)(M:aq)(nm:Nat)(hq:M q=some (bQ s))(ho:∀ z,(M z).isSome=true→z∈[q])(hqn:q<nm) :
  xI cx 187 nm [.ptr q 0 0] M z5:=by
 have p1:=cN s [47] false (by omega) (by decide) (by rw[eD,h1];rfl)
 simp only[Bool.false_eq_true,if_false]at p1
 have hn:=pm s (by omega) h2
 unfold bQ at hq hn
 refine iY rfl co rfl (fun cargs w=>call187 cargs w) func187 rfl mixed (by kernel_rfl) rfl ?_;intro b0 hb0
 have lq:q<b0:=ax hb0 (by rw[hq];rfl)
 have z0:=aT lq;have z1:=aw lq;have z2:=aK lq;have z3:=ao lq
 repeat' first|simp only[results187,ntmps187,am,hq,z0,z1,z2,z3,aG,aH,aB,aD,az,bg,ai,seval,ah]|exact rfl|((refine ag ?_ [q] (p1 q _ _ ?_ ap (by omega)) ?_ ?_);iterate 3 (focus (simp only[aj,results187,ntmps187,am,hq,z0,z1,z2,z3,aG,aH,aB,aD,az,bg,ai,seval,ah]<;>exact rfl)))|((first|apply Ca|apply Cb)<;>intro hb)|refine Ai (by omega) ?_|(apply Ai<;>intro hb)
 refine cH rfl [q] (hn q _ _ ?_ ap (by omega)) ?_
 ·simp only[aj,am,hq,z0,z1,z2,z3,ai,seval,ah]<;>exact rfl
 ·simp only[aB,aD,az,bg,z5]
end Go.Proofs.YtidmkaalhmeflaaGreatDoor
