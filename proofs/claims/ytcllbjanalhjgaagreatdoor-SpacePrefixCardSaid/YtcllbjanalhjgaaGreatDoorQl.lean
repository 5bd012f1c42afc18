/-
 Texts joined: XNg,XNh,XNi,XNj,XNk,XNl,XNm,XNn,XNo.
-/
import Derived.Test.YtcllbjanalhjgaaGreatDoorQk
import Derived.Test.YtcllbjanalhjgaaGreatDoorQj
namespace Go.Proofs.YtcllbjanalhjgaaGreatDoor
set_option maxRecDepth 100000
set_option maxHeartbeats 32000000
set_option linter.unusedSimpArgs false
set_option linter.unusedVariables false
open Go Go.RowKit Vm Go.Lib Tryz
open Vm renaming be→Ca,bo→Cb
open And renaming intro→Ai
open List renaming length_map→Lm,not_mem_nil→Ln,map_nil→Lo,map_cons→Lc,mem_cons→Lk
open Bool renaming not_false→Bf,not_true→Bt
def bO (s:List UInt8):Blk:=⟨1,[[.str s]]⟩
theorem zA (s p:List UInt8)(hs:s.length≤bk)(hp:p.length≤bk)(q:Nat)(M:ao)(nm:Nat)(hq:M q=some (bO s))(ho:∀ z,(M z).isSome=true→z∈[q])(hqn:q<nm) :
  Ev cx 121 nm [.ptr q 0 0,.str p] M (.bool (preB s p)) [(q,some (bO (if preB s p=true then s.drop p.length else s)))]:=by
 have h:=lT s p hs hp
 cases hb:preB s p with
 | true =>
  rw[lE hb]at h
  simp only[if_true]
  unfold bO at hq ⊢
  refine ay rfl (fun cargs w=>call121 cargs w) func121 rfl mixed (by kernel_rfl) rfl ?_;intro b0 hb0
  have lq:q<b0:=av hb0 (by rw[hq];rfl)
  have z0:=aS lq;have z1:=aq lq;have z2:=aI lq;have z3:=aj lq
  repeat' first|simp only[am,ah,results121,ntmps121,ap,hq,z0,z1,z2,z3,ag,seval,ae]|exact rfl|refine aa (v:=.any) ?_|(first|(refine ac ?_ (h _) ?_)|(refine ab ?_ (fun _=>h _) ?_))|((first|apply Ca|apply Cb)<;>intro hb)|refine Ai (by omega) ?_|(apply Ai<;>intro hb)
  all_goals ((refine Fin.give [(q,none)] [] ?_ ?_ ?_ ?_ ?_ (fun q hq=>by have hqq:=ho q hq;first|(simp only[aD,tgt,Lc,Lo,Lk,Ln,or_false]at hqq ⊢;omega)|(simp only[aD,tgt,Lc,Lo,Lk,Ln,or_false]at hqq))<;>(try simp only[results121,ntmps121,ap,hq,z0,z1,z2,z3,ec,ag,seval,ae])<;>(try simp only[au])<;>(try omega)))
 | false =>
  rw[og hb]at h
  simp only[Bool.false_eq_true,if_false]
  unfold bO at hq ⊢
  refine ay rfl (fun cargs w=>call121 cargs w) func121 rfl mixed (by kernel_rfl) rfl ?_;intro b0 hb0
  have lq:q<b0:=av hb0 (by rw[hq];rfl)
  have z0:=aS lq;have z1:=aq lq;have z2:=aI lq;have z3:=aj lq
  repeat' first|simp only[am,ah,results121,ntmps121,ap,hq,z0,z1,z2,z3,ag,seval,ae]|exact rfl|refine aa (v:=.any) ?_|(first|(refine ac ?_ (h _) ?_)|(refine ab ?_ (fun _=>h _) ?_))|((first|apply Ca|apply Cb)<;>intro hb)|refine Ai (by omega) ?_|(apply Ai<;>intro hb)
  all_goals ((refine Fin.give [(q,none)] [] ?_ ?_ ?_ ?_ ?_ (fun q hq=>by have hqq:=ho q hq;first|(simp only[aD,tgt,Lc,Lo,Lk,Ln,or_false]at hqq ⊢;omega)|(simp only[aD,tgt,Lc,Lo,Lk,Ln,or_false]at hqq))<;>(try simp only[results121,ntmps121,ap,hq,z0,z1,z2,z3,ec,ag,seval,ae])<;>(try simp only[au])<;>(try omega)))
theorem jn (s:List UInt8)(hs:s.length≤bk)(q:Nat)(M:ao)(nm:Nat)(hq:M q=some (bO s))(ho:∀ z,(M z).isSome=true→z∈[q])(hqn:q<nm) :
  Ev cx 140 nm [.ptr q 0 0] M (.bool (decide ((aZ s).length<s.length))) [(q,some (bO (aZ s)))]:=by
 have h:=wv fm s (by decide) (by decide) (by decide) hs
 rw[u0]at h
 change ∀ nm,Ev cx _ nm _ ao.nil (.str (aZ s)) []at h
 unfold fm at h
 have hd:decide (((aZ s).length:Int)<(s.length:Int))=decide ((aZ s).length<s.length):=decide_eq_decide.2 (by omega)
 unfold bO at hq ⊢
 refine ay rfl (fun cargs w=>call140 cargs w) func140 rfl mixed (by kernel_rfl) rfl ?_;intro b0 hb0
 have lq:q<b0:=av hb0 (by rw[hq];rfl)
 have z0:=aS lq;have z1:=aq lq;have z2:=aI lq;have z3:=aj lq
 repeat' first|simp only[am,ah,results140,ntmps140,ap,hq,z0,z1,z2,z3,hd,ag,seval,ae]|exact rfl|refine aa (v:=.any) ?_|(first|(refine ac ?_ (h _) ?_)|(refine ab ?_ (fun _=>h _) ?_))|((first|apply Ca|apply Cb)<;>intro hb)|refine Ai (by omega) ?_|(apply Ai<;>intro hb)
 all_goals ((refine Fin.give [(q,none)] [] ?_ ?_ ?_ ?_ ?_ (fun q hq=>by have hqq:=ho q hq;first|(simp only[aD,tgt,Lc,Lo,Lk,Ln,or_false]at hqq ⊢;omega)|(simp only[aD,tgt,Lc,Lo,Lk,Ln,or_false]at hqq))<;>(try simp only[results140,ntmps140,ap,hq,z0,z1,z2,z3,hd,ec,ag,seval,ae])<;>(try simp only[au])<;>(try omega)))
section
variable {cx:Cx} {Q:Post} {st:List Frm} {nm:Nat} {e:Env} {M:ao} {d:Bool} {fs:List (List Nat)} {ops r:List Oper} {dst:Option Tmp} {t:TypeId} {pos:String} {af:Array Edge} {gd:Option (Nat×Bool)} {i:Nat}
def Cu (P:Program)(t:TypeId):Bool:=match P.underlying t with
 | some (.interface _)|none=>false
 | some _=>true
theorem Jn {P:Program}{w:World}{t:TypeId}(x:Value)(h:Cu P t=true):(Instr.makeInterface t x).run P w = .ok (.iface t x) w:=by
 unfold Cu at h
 cases hu:P.underlying t with
 | none=>rw[hu]at h;cases h
 | some u =>
  rw[hu]at h
  simp only[Instr.makeInterface,Sem.run_bind,run_underlying hu w,Result.andThen_ok]
  cases u<;>first|rfl|cases h
theorem ug {ty:TypeId}{x:Operand}{u:V}(hx:aA cx.G true e x=u)(ht:Cu cx.P ty=true)
  (h:aC cx Q st nm (e.putD dst (.iface ty u)) M d (fs++[[]]) ops r (i+1)):bJ cx Q st nm e M d fs ops ⟨dst,.makeInterface ty x,t,pos,af,gd⟩ r i:=by
 refine⟨_,[],_,⟨fun x hx=>by simp[al]at hx,fun x hx=>by simp[al]at hx,fun h=>absurd rfl h,fun h=>absurd rfl h,?_⟩,h⟩
 intro N X w0 I ρ e' M' a w hr he hin hev hMM hf
 have hxi:=he.eval hr (c:=true) rfl (hin x (by simp[Op.operands]))
 rw[hev x (by simp[Op.operands]),hx]at hxi
 exact⟨_,w,(db.still (nm:=nm+16*i) hr (.iface (t:=ty) hxi)).n,gp (s:=Instr.makeInterface ty (a.eval x)) rfl (Jn _ ht)⟩
end
def Au:V:=.iface 25 (.int .i64 80)
theorem gh (q:Nat)(M:ao)(nm:Nat):wB cx 125 nm [.ptr q 0 0] M Au:=by
 unfold Au
 refine iz rfl cm rfl (fun cargs w=>call125 cargs w) func125 rfl mixed (by kernel_rfl) rfl ?_;intro b0 hb0
 repeat' first|simp only[am,ah,results125,ntmps125,ap,aE,aF,az,aB,bd,ag,seval,ae]|exact rfl|refine aa (v:=.any) ?_|(refine ug rfl (by kernel_rfl) ?_)|((first|apply Ca|apply Cb)<;>intro hb)|refine Ai (by omega) ?_|(apply Ai<;>intro hb)
theorem qL {s:List UInt8}{x:Nat}(h:∀ c∈s.take x,eS c=true)(h2:∀ c,s[x]? = some c→eS c=false):iV s=s.take x∧sU s=s.drop x:=by
 have e:s=s.take x++s.drop x:=(List.take_append_drop x s).symm
 have hd:(s.drop x).takeWhile eS=[]∧(s.drop x).dropWhile eS=s.drop x:=by
  cases hc:s.drop x with
  | nil=>exact⟨rfl,rfl⟩
  | cons c t =>
   have:s[x]? = some c:=by
    have:=congrArg List.head? hc
    simpa [List.head?_drop] using this
   rw[List.takeWhile_cons,List.dropWhile_cons,h2 c this]
   exact⟨rfl,rfl⟩
 unfold iV sU
 constructor
 ·conv=>lhs;rw[e]
  rw[List.takeWhile_append_of_pos h,hd.1,List.append_nil]
 ·conv=>lhs;rw[e]
  rw[List.dropWhile_append_of_pos h,hd.2]
theorem u3 {s:List UInt8}{x:Nat}{c:UInt8}(h:∀ c∈s.take x,eS c=true)(hc:s[x]? = some c)(hw:eS c=true):∀ c∈s.take (x+1),eS c=true:=by
 intro d hd
 rw[List.take_add_one,hc]at hd
 rcases List.mem_append.1 hd with hd|hd
 ·exact h d hd
 ·simp at hd;rw[hd];exact hw
theorem uE {s n r:List UInt8}(h:eL s=some (n,r)):iV s=n∧sU s=r∧b8 n=true:=by
 unfold eL at h
 split at h
 ·rename_i hf;cases h;exact⟨rfl,rfl,hf⟩
 ·cases h
theorem DH {s:List UInt8}(h:eL s=none):b8 (iV s)=false:=by
 unfold eL at h
 split at h
 ·cases h
 ·rename_i hf;simpa using hf
theorem jR (s n r:List UInt8)(hs:s.length≤1000000)(hn:eL s=some (n,r))(q:Nat)(M:ao)(nm:Nat)(hq:M q=some (bO s))(ho:∀ z,(M z).isSome=true→z∈[q])(hqn:q<nm) :
  Ev cx 139 nm [.ptr q 0 0] M (.str n) [(q,some (bO r))]:=by
 obtain⟨hw1,hw2,hfl⟩:=uE hn
 unfold bO at hq ⊢
 refine ay rfl (fun cargs w=>call139 cargs w) func139 rfl mixed (by kernel_rfl) rfl ?_;intro b0 hb0
 have lq:q<b0:=av hb0 (by rw[hq];rfl)
 have z0:=aS lq;have z1:=aq lq;have z2:=aI lq;have z3:=aj lq
 repeat' first|simp only[am,ah,results139,ntmps139,ap,ag,seval,ae]|exact rfl|refine aa (v:=.any) ?_|((first|apply Ca|apply Cb)<;>intro hb)|refine Ai (by omega) ?_|(apply Ai<;>intro hb)
 (refine aV cm (fun x:Nat=>s.length-x) (fun x=>x≤s.length∧(∀ c∈s.take x,eS c=true)) (b0+16) (fun x=>[(0,.ptr q 0 0),(3,.int .i64 x)]) (fun x=>[(q,⟨1,[[.str s]]⟩)]) (0) [some q] ?_ ?_ ?_ ?_;rotate_left 1;(focus (show b0≤_;omega));(focus (refine⟨?_,?_⟩<;>(try simp only[bj,hq,z0,z1,z2,z3,ag,seval,ae,au])<;>(try omega)));rotate_left 1)
 ·exact⟨Nat.zero_le _,by simp⟩
 ·rintro x ⟨h1,h2⟩
  have hend:∀(hx:∀ c,s[x]? = some c→eS c=false),s.take x=iV s∧s.drop x=sU s:=fun hx=>⟨(qL h2 hx).1.symm,(qL h2 hx).2.symm⟩
  have h1':(x:Int)≤(s.length:Int):=by omega
  by_cases hx:x<s.length
  ·obtain⟨c,hc⟩:∃ c,s[x]? = some c:=⟨_,List.getElem?_eq_getElem hx⟩
   have hx':decide ((x:Int)<(s.length:Int))=true:=decide_eq_true (by omega)
   have hpe:=wa c false
   have q58:((c.toNat:Int)==58)=decide (c=58):=fI c 58
   have hwx:IntKind.i64.wrap ((x:Int)+1)=((x+1:Nat):Int):=aR (by omega) (by omega)
   have hwc:eS c=(iM false c||decide (c=58)):=by unfold eS;congr 1
   have hgo:∀(hp:eS c=true),x+1≤s.length ∧ ∀ c∈s.take (x+1),eS c=true:=fun hp=>⟨by omega,u3 h2 hc hp⟩
   cases hp:iM false c<;>cases h58:decide (c=58)<;>rw[hp,h58]at hwc<;>rw[hp]at hpe<;>rw[h58]at q58
   ·have he:=hend (fun d hd=>by rw[hc]at hd;cases hd;exact hwc)
    have hfe:=ia (iV s) (by unfold bk;rw[← he.1,List.length_take];omega)
    rw[hw1,hfl]at hfe
    have e1:s.take x=n:=by rw[he.1,hw1]
    have e2:s.drop x=r:=by rw[he.2,hw2]
    repeat' first|simp only[am,ah,results139,ntmps139,ap,hc,hx',h1,h1',hx,q58,e1,e2,ag,seval,ae]|exact rfl|refine aa (v:=.any) ?_|(first|(refine ac ?_ (hfe _) ?_)|(refine ab ?_ (fun _=>hfe _) ?_)|(refine ac ?_ (hpe _) ?_)|(refine ab ?_ (fun _=>hpe _) ?_))|(refine aa (v:=.any) ?_)|refine Ai (by omega) ?_
    all_goals ((refine Fin.give [(q,none)] [] ?_ ?_ ?_ ?_ ?_ (fun q hq=>by have hqq:=ho q hq;first|(simp only[aD,tgt,Lc,Lo,Lk,Ln,or_false]at hqq ⊢;omega)|(simp only[aD,tgt,Lc,Lo,Lk,Ln,or_false]at hqq))<;>(try simp only[results139,ntmps139,ap,hq,z0,z1,z2,z3,ec,ag,seval,ae])<;>(try simp only[au])<;>(try omega)))
   ·repeat' first|simp only[am,ah,results139,ntmps139,ap,hc,hx',h1,h1',hx,q58,hwx,ag,seval,ae]|exact rfl|refine aa (v:=.any) ?_|(first|(refine ac ?_ (hpe _) ?_)|(refine ab ?_ (fun _=>hpe _) ?_))|(refine aa (v:=.any) ?_)|refine Ai (by omega) ?_
    all_goals ((refine aJ cm (x+1) [some q] ?_ ?_ ?_ ?_;rotate_left 2;(focus (show b0≤_;omega));(focus (refine⟨?_,?_⟩<;>(try simp only[bj,hq,z0,z1,z2,z3,ag,seval,ae,au])<;>(try omega)))))
    all_goals (first|(show s.length-(x+1)<s.length-x;omega)|exact hgo hwc|skip)
   ·repeat' first|simp only[am,ah,results139,ntmps139,ap,hc,hx',h1,h1',hx,q58,hwx,ag,seval,ae]|exact rfl|refine aa (v:=.any) ?_|(first|(refine ac ?_ (hpe _) ?_)|(refine ab ?_ (fun _=>hpe _) ?_))|(refine aa (v:=.any) ?_)|refine Ai (by omega) ?_
    all_goals ((refine aJ cm (x+1) [some q] ?_ ?_ ?_ ?_;rotate_left 2;(focus (show b0≤_;omega));(focus (refine⟨?_,?_⟩<;>(try simp only[bj,hq,z0,z1,z2,z3,ag,seval,ae,au])<;>(try omega)))))
    all_goals (first|(show s.length-(x+1)<s.length-x;omega)|exact hgo hwc|skip)
   ·repeat' first|simp only[am,ah,results139,ntmps139,ap,hc,hx',h1,h1',hx,q58,hwx,ag,seval,ae]|exact rfl|refine aa (v:=.any) ?_|(first|(refine ac ?_ (hpe _) ?_)|(refine ab ?_ (fun _=>hpe _) ?_))|(refine aa (v:=.any) ?_)|refine Ai (by omega) ?_
    all_goals ((refine aJ cm (x+1) [some q] ?_ ?_ ?_ ?_;rotate_left 2;(focus (show b0≤_;omega));(focus (refine⟨?_,?_⟩<;>(try simp only[bj,hq,z0,z1,z2,z3,ag,seval,ae,au])<;>(try omega)))))
    all_goals (first|(show s.length-(x+1)<s.length-x;omega)|exact hgo hwc|skip)
  ·have hx':decide ((x:Int)<(s.length:Int))=false:=decide_eq_false (by omega)
   have hxe:s[x]? = none:=List.getElem?_eq_none (by omega)
   have he:=hend (fun d hd=>by rw[hxe]at hd;cases hd)
   have hfe:=ia (iV s) (by unfold bk;rw[← he.1,List.length_take];omega)
   rw[hw1,hfl]at hfe
   have e1:s.take x=n:=by rw[he.1,hw1]
   have e2:s.drop x=r:=by rw[he.2,hw2]
   repeat' first|simp only[am,ah,results139,ntmps139,ap,hxe,hx',h1,h1',hx,e1,e2,ag,seval,ae]|exact rfl|refine aa (v:=.bool false) ?_|(first|(refine ac ?_ (hfe _) ?_)|(refine ab ?_ (fun _=>hfe _) ?_))|refine Ai (by omega) ?_
   all_goals ((refine Fin.give [(q,none)] [] ?_ ?_ ?_ ?_ ?_ (fun q hq=>by have hqq:=ho q hq;first|(simp only[aD,tgt,Lc,Lo,Lk,Ln,or_false]at hqq ⊢;omega)|(simp only[aD,tgt,Lc,Lo,Lk,Ln,or_false]at hqq))<;>(try simp only[results139,ntmps139,ap,hq,z0,z1,z2,z3,ec,ag,seval,ae])<;>(try simp only[au])<;>(try omega)))
theorem pu (s:List UInt8)(hs:s.length≤1000000)(hn:eL s=none)(q:Nat)(M:ao)(nm:Nat)(hq:M q=some (bO s))(ho:∀ z,(M z).isSome=true→z∈[q])(hqn:q<nm) :
  wB cx 139 nm [.ptr q 0 0] M Au:=by
 have hfl:=DH hn
 unfold bO at hq
 refine iz rfl cm rfl (fun cargs w=>call139 cargs w) func139 rfl mixed (by kernel_rfl) rfl ?_;intro b0 hb0
 have lq:q<b0:=av hb0 (by rw[hq];rfl)
 have z0:=aS lq;have z1:=aq lq;have z2:=aI lq;have z3:=aj lq
 repeat' first|simp only[am,ah,results139,ntmps139,ap,ag,seval,ae]|exact rfl|refine aa (v:=.any) ?_|((first|apply Ca|apply Cb)<;>intro hb)|refine Ai (by omega) ?_|(apply Ai<;>intro hb)
 (refine aV cm (fun x:Nat=>s.length-x) (fun x=>x≤s.length∧(∀ c∈s.take x,eS c=true)) (b0+16) (fun x=>[(0,.ptr q 0 0),(3,.int .i64 x)]) (fun x=>[(q,⟨1,[[.str s]]⟩)]) (0) [some q] ?_ ?_ ?_ ?_;rotate_left 1;(focus (show b0≤_;omega));(focus (refine⟨?_,?_⟩<;>(try simp only[bj,hq,z0,z1,z2,z3,ag,seval,ae,au])<;>(try omega)));rotate_left 1)
 ·exact⟨Nat.zero_le _,by simp⟩
 ·rintro x ⟨h1,h2⟩
  have hend:∀(hx:∀ c,s[x]? = some c→eS c=false),s.take x=iV s∧s.drop x=sU s:=fun hx=>⟨(qL h2 hx).1.symm,(qL h2 hx).2.symm⟩
  have h1':(x:Int)≤(s.length:Int):=by omega
  by_cases hx:x<s.length
  ·obtain⟨c,hc⟩:∃ c,s[x]? = some c:=⟨_,List.getElem?_eq_getElem hx⟩
   have hx':decide ((x:Int)<(s.length:Int))=true:=decide_eq_true (by omega)
   have hpe:=wa c false
   have q58:((c.toNat:Int)==58)=decide (c=58):=fI c 58
   have hwx:IntKind.i64.wrap ((x:Int)+1)=((x+1:Nat):Int):=aR (by omega) (by omega)
   have hwc:eS c=(iM false c||decide (c=58)):=by unfold eS;congr 1
   have hgo:∀(hp:eS c=true),x+1≤s.length ∧ ∀ c∈s.take (x+1),eS c=true:=fun hp=>⟨by omega,u3 h2 hc hp⟩
   cases hp:iM false c<;>cases h58:decide (c=58)<;>rw[hp,h58]at hwc<;>rw[hp]at hpe<;>rw[h58]at q58
   ·have he:=hend (fun d hd=>by rw[hc]at hd;cases hd;exact hwc)
    have hfe:=ia (iV s) (by unfold bk;rw[← he.1,List.length_take];omega)
    rw[hfl]at hfe
    have e1:s.take x=iV s:=he.1
    repeat' first|simp only[am,ah,results139,ntmps139,ap,hc,hx',h1,h1',hx,q58,e1,aE,aF,az,aB,ax,bd,ag,seval,ae]|exact rfl|refine aa (v:=.any) ?_|(first|(refine ac ?_ (hfe _) ?_)|(refine ab ?_ (fun _=>hfe _) ?_)|(refine ac ?_ (hpe _) ?_)|(refine ab ?_ (fun _=>hpe _) ?_))|(refine aa (v:=.any) ?_)|(refine cB rfl [q] (gh q _ _) ?_)|refine Ai (by omega) ?_
   ·repeat' first|simp only[am,ah,results139,ntmps139,ap,hc,hx',h1,h1',hx,q58,hwx,ag,seval,ae]|exact rfl|refine aa (v:=.any) ?_|(first|(refine ac ?_ (hpe _) ?_)|(refine ab ?_ (fun _=>hpe _) ?_))|(refine aa (v:=.any) ?_)|refine Ai (by omega) ?_
    all_goals ((refine aJ cm (x+1) [some q] ?_ ?_ ?_ ?_;rotate_left 2;(focus (show b0≤_;omega));(focus (refine⟨?_,?_⟩<;>(try simp only[bj,hq,z0,z1,z2,z3,ag,seval,ae,au])<;>(try omega)))))
    all_goals (first|(show s.length-(x+1)<s.length-x;omega)|exact hgo hwc|skip)
   ·repeat' first|simp only[am,ah,results139,ntmps139,ap,hc,hx',h1,h1',hx,q58,hwx,ag,seval,ae]|exact rfl|refine aa (v:=.any) ?_|(first|(refine ac ?_ (hpe _) ?_)|(refine ab ?_ (fun _=>hpe _) ?_))|(refine aa (v:=.any) ?_)|refine Ai (by omega) ?_
    all_goals ((refine aJ cm (x+1) [some q] ?_ ?_ ?_ ?_;rotate_left 2;(focus (show b0≤_;omega));(focus (refine⟨?_,?_⟩<;>(try simp only[bj,hq,z0,z1,z2,z3,ag,seval,ae,au])<;>(try omega)))))
    all_goals (first|(show s.length-(x+1)<s.length-x;omega)|exact hgo hwc|skip)
   ·repeat' first|simp only[am,ah,results139,ntmps139,ap,hc,hx',h1,h1',hx,q58,hwx,ag,seval,ae]|exact rfl|refine aa (v:=.any) ?_|(first|(refine ac ?_ (hpe _) ?_)|(refine ab ?_ (fun _=>hpe _) ?_))|(refine aa (v:=.any) ?_)|refine Ai (by omega) ?_
    all_goals ((refine aJ cm (x+1) [some q] ?_ ?_ ?_ ?_;rotate_left 2;(focus (show b0≤_;omega));(focus (refine⟨?_,?_⟩<;>(try simp only[bj,hq,z0,z1,z2,z3,ag,seval,ae,au])<;>(try omega)))))
    all_goals (first|(show s.length-(x+1)<s.length-x;omega)|exact hgo hwc|skip)
  ·have hx':decide ((x:Int)<(s.length:Int))=false:=decide_eq_false (by omega)
   have hxe:s[x]? = none:=List.getElem?_eq_none (by omega)
   have he:=hend (fun d hd=>by rw[hxe]at hd;cases hd)
   have hfe:=ia (iV s) (by unfold bk;rw[← he.1,List.length_take];omega)
   rw[hfl]at hfe
   have e1:s.take x=iV s:=he.1
   repeat' first|simp only[am,ah,results139,ntmps139,ap,hxe,hx',h1,h1',hx,e1,aE,aF,az,aB,ax,bd,ag,seval,ae]|exact rfl|refine aa (v:=.bool false) ?_|(first|(refine ac ?_ (hfe _) ?_)|(refine ab ?_ (fun _=>hfe _) ?_))|(refine cB rfl [q] (gh q _ _) ?_)|refine Ai (by omega) ?_
theorem vi {d:UInt8}(hd:d.toNat<128):∀(zs:List Int) (a b:List UInt8),zs.all gD=true→enc zs=a++d::b→(dN a).isSome=true∧(dN b).isSome=true
 | [],a,b,_,h=>by
  have:=congrArg List.length h
  simp[enc]at this
 | z::zs,a,b,hm,h=>by
  simp only[List.all_cons,Bool.and_eq_true]at hm
  have e:enc (z::zs)=encodeRune z++enc zs:=by simp[enc]
  have e1:enc [z]=encodeRune z:=by simp[enc]
  have d1:dN (encodeRune z)=some [z]:=by rw[← e1];exact gw [z] (by simp[hm.1])
  rw[e]at h
  rcases List.append_eq_append_iff.1 h with ⟨a',h1,h2⟩|⟨c',h1,h2⟩
  ·obtain⟨k1,k2⟩:=vi hd zs a' b hm.2 h2
   obtain⟨y,hy⟩:=Option.isSome_iff_exists.1 k1
   refine⟨?_,k2⟩
   rw[h1,ro d1 hy];rfl
  ·cases c' with
   | nil =>
    simp only[List.append_nil,List.nil_append]at h1 h2
    obtain⟨_,k2⟩:=vi hd zs [] b hm.2 (by rw[← h2];rfl)
    refine⟨?_,k2⟩
    rw[← h1,d1];rfl
   | cons c t =>
    simp only[List.cons_append,List.cons.injEq]at h2
    obtain⟨h2,h3⟩:=h2
    by_cases hz:z<128
    ·have hr:=eX hm.1
     rw[BI (by omega) hz]at h1
     cases a with
     | nil =>
      simp only[List.nil_append,List.cons.injEq]at h1
      rw[← h1.2,List.nil_append]at h3
      exact⟨rfl,by rw[h3,gw zs hm.2];rfl⟩
     | cons a0 a1 =>
      have:=congrArg List.length h1
      simp at this
    ·have:=nH (z:=z) (by omega) d (by rw[h1,h2];simp)
     omega
theorem bQ {d:UInt8}(hd:d.toNat<128){s a b:List UInt8}(h:(dN s).isSome=true)(he:s=a++d::b):(dN a).isSome=true∧(dN b).isSome=true:=by
 obtain⟨zs,hz⟩:=Option.isSome_iff_exists.1 h
 obtain⟨hm,h2⟩:=(nE s zs).1 hz
 exact vi hd zs a b hm (by rw[h2,he])
theorem dp (c d:UInt8)(t:List UInt8):preB (c::t) [d]=(c==d):=by
 unfold preB;simp
theorem uM (s v r:List UInt8)(hs:s.length≤16384)(hd:(dN s).isSome=true)(hv:gZ s=some (v,r))(q:Nat)(M:ao)(nm:Nat)(hq:M q=some (bO s))(ho:∀ z,(M z).isSome=true→z∈[q])(hqn:q<nm) :
  Ev cx 142 nm [.ptr q 0 0] M (.str v) [(q,some (bO r))]:=by
 obtain⟨a,h1,h2⟩:=kD hv
 obtain⟨k,hk,rfl,hka⟩:=kr h1
 have e1:∀(k:UInt8) (t:List UInt8) (y:Bool),t.length≤20000→preB t [k]=y → ∀(M':ao) (n':Nat),M' q=some ⟨1,[[.str t]]⟩→(∀ z,(M' z).isSome=true→z∈[q])→q<n'→Ev cx 121 n' [.ptr q 0 0,.str [k]] M' (.bool y) [(q,some ⟨1,[[.str (if y then t.drop 1 else t)]]⟩)]:=by
  intro k t y ht hy M' n' h1 h2 h3
  have:=zA t [k] (by unfold bk;omega) (by simp[bk]) q M' n' h1 h2 h3
  rw[hy]at this
  cases y<;>exact this
 have hla:a.length+r.length+2≤16384:=by simpa [Nat.add_assoc,Nat.add_comm,Nat.add_left_comm] using hs
 have hk128:k.toNat<128:=by rcases hk with rfl|rfl<;>decide
 obtain⟨_,hd2⟩:=bQ hk128 (a:=[]) hd rfl
 obtain⟨hda,hdr⟩:=bQ hk128 hd2 rfl
 have hcv:=mN (a++k::r) k (by simp[bk];omega)
 have ecv:fY k (a++k::r) = .tup [.str a,.str r,.bool true]:=by unfold fY;rw[jc hka]
 rw[ecv]at hcv
 have hmp:=Ga a (by omega) hda
 unfold Bs at hmp
 have hg:=qt (a.map b7) (by rw[Lm];unfold bk;omega)
 rw[oN (eP.2 ⟨by rw[Lm];omega,wV hda⟩) h2]at hg
 unfold bO at hq ⊢
 rcases hk with rfl|rfl
 ·have p1:=e1 39 (39::(a++39::r)) true (by simp;omega) (dp _ _ _)
  simp only[if_true,List.drop_succ_cons,List.drop_zero]at p1
  refine ay rfl (fun cargs w=>call142 cargs w) func142 rfl mixed (by kernel_rfl) rfl ?_;intro b0 hb0
  have lq:q<b0:=av hb0 (by rw[hq];rfl)
  have z0:=aS lq;have z1:=aq lq;have z2:=aI lq;have z3:=aj lq
  repeat' first|simp only[am,ah,results142,ntmps142,ap,hq,z0,z1,z2,z3,ag,seval,ae]|exact rfl|refine aa (v:=.any) ?_|(first|(refine ac ?_ (hcv _) ?_)|(refine ab ?_ (fun _=>hcv _) ?_)|(refine ac ?_ (hmp _) ?_)|(refine ab ?_ (fun _=>hmp _) ?_)|(refine ac ?_ (hg _) ?_)|(refine ab ?_ (fun _=>hg _) ?_))|(refine ad ?_ [q] (p1 _ _ ?_ ak (by omega)) ?_ ?_)|((first|apply Ca|apply Cb)<;>intro hb)|refine Ai (by omega) ?_|(apply Ai<;>intro hb)
  all_goals ((refine Fin.give [(q,none)] [] ?_ ?_ ?_ ?_ ?_ (fun q hq=>by have hqq:=ho q hq;first|(simp only[aD,tgt,Lc,Lo,Lk,Ln,or_false]at hqq ⊢;omega)|(simp only[aD,tgt,Lc,Lo,Lk,Ln,or_false]at hqq))<;>(try simp only[results142,ntmps142,ap,hq,z0,z1,z2,z3,ec,ag,seval,ae])<;>(try simp only[au])<;>(try omega)))
 ·have p1:=e1 39 (34::(a++34::r)) false (by simp;omega) (dp _ _ _)
  have p2:=e1 34 (34::(a++34::r)) true (by simp;omega) (dp _ _ _)
  simp only[if_true,Bool.false_eq_true,if_false,List.drop_succ_cons,List.drop_zero]at p1 p2
  refine ay rfl (fun cargs w=>call142 cargs w) func142 rfl mixed (by kernel_rfl) rfl ?_;intro b0 hb0
  have lq:q<b0:=av hb0 (by rw[hq];rfl)
  have z0:=aS lq;have z1:=aq lq;have z2:=aI lq;have z3:=aj lq
  repeat' first|simp only[results142,ntmps142,ap,hq,z0,z1,z2,z3,ag,seval,ae]|exact rfl|((first|(refine ac ?_ (hcv _) ?_)|(refine ab ?_ (fun _=>hcv _) ?_)|(refine ac ?_ (hmp _) ?_)|(refine ab ?_ (fun _=>hmp _) ?_)|(refine ac ?_ (hg _) ?_)|(refine ab ?_ (fun _=>hg _) ?_));(focus (simp only[results142,ntmps142,ap,hq,z0,z1,z2,z3,ag,seval,ae]<;>exact rfl)))|((refine ad ?_ [q] (p1 _ _ ?_ ak (by omega)) ?_ ?_);iterate 3 (focus (simp only[ah,results142,ntmps142,ap,hq,z0,z1,z2,z3,ag,seval,ae]<;>exact rfl)))|((refine ad ?_ [q] (p2 _ _ ?_ ak (by omega)) ?_ ?_);iterate 3 (focus (simp only[ah,results142,ntmps142,ap,hq,z0,z1,z2,z3,ag,seval,ae]<;>exact rfl)))|((first|apply Ca|apply Cb)<;>intro hb)|refine Ai (by omega) ?_|(apply Ai<;>intro hb)
  all_goals ((refine Fin.give [(q,none)] [] ?_ ?_ ?_ ?_ ?_ (fun q hq=>by have hqq:=ho q hq;first|(simp only[aD,tgt,Lc,Lo,Lk,Ln,or_false]at hqq ⊢;omega)|(simp only[aD,tgt,Lc,Lo,Lk,Ln,or_false]at hqq))<;>(try simp only[results142,ntmps142,ap,hq,z0,z1,z2,z3,ec,ag,seval,ae])<;>(try simp only[au])<;>(try omega)))
theorem AF (s:List UInt8)(hs:s.length≤16384)(hd:(dN s).isSome=true)(hv:gZ s=none)(q:Nat)(M:ao)(nm:Nat)(hq:M q=some (bO s))(ho:∀ z,(M z).isSome=true→z∈[q])(hqn:q<nm) :
  wB cx 142 nm [.ptr q 0 0] M Au:=by
 have e1:∀(k:UInt8) (t:List UInt8) (y:Bool),t.length≤20000→preB t [k]=y → ∀(M':ao) (n':Nat),M' q=some ⟨1,[[.str t]]⟩→(∀ z,(M' z).isSome=true→z∈[q])→q<n'→Ev cx 121 n' [.ptr q 0 0,.str [k]] M' (.bool y) [(q,some ⟨1,[[.str (if y then t.drop 1 else t)]]⟩)]:=by
  intro k t y ht hy M' n' h1 h2 h3
  have:=zA t [k] (by unfold bk;omega) (by simp[bk]) q M' n' h1 h2 h3
  rw[hy]at this
  cases y<;>exact this
 unfold bO at hq
 by_cases hk:∃ k t,s=k::t∧(k=39∨k=34)
 ·obtain⟨k,t,rfl,hk⟩:=hk
  have hk128:k.toNat<128:=by rcases hk with rfl|rfl<;>decide
  obtain⟨_,hd2⟩:=bQ hk128 (a:=[]) hd rfl
  have hlt:t.length+1≤16384:=by simpa using hs
  have hcv:=mN t k (by unfold bk;omega)
  cases hc:dH k t with
  | none =>
   have ecv:fY k t = .tup [.str t,.str [],.bool false]:=by unfold fY;rw[hc]
   rw[ecv]at hcv
   rcases hk with rfl|rfl
   ·have p1:=e1 39 (39::t) true (by simp;omega) (dp _ _ _)
    simp only[if_true,List.drop_succ_cons,List.drop_zero]at p1
    refine iz rfl cm rfl (fun cargs w=>call142 cargs w) func142 rfl mixed (by kernel_rfl) rfl ?_;intro b0 hb0
    have lq:q<b0:=av hb0 (by rw[hq];rfl)
    have z0:=aS lq;have z1:=aq lq;have z2:=aI lq;have z3:=aj lq
    repeat' first|simp only[am,ah,results142,ntmps142,ap,hq,z0,z1,z2,z3,aE,aF,az,aB,ax,bd,ag,seval,ae]|exact rfl|refine aa (v:=.any) ?_|(first|(refine ac ?_ (hcv _) ?_)|(refine ab ?_ (fun _=>hcv _) ?_))|(refine ad ?_ [q] (p1 _ _ ?_ ak (by omega)) ?_ ?_)|(refine cB rfl [q] (gh q _ _) ?_)|((first|apply Ca|apply Cb)<;>intro hb)|refine Ai (by omega) ?_|(apply Ai<;>intro hb)
   ·have p1:=e1 39 (34::t) false (by simp;omega) (dp _ _ _)
    have p2:=e1 34 (34::t) true (by simp;omega) (dp _ _ _)
    simp only[if_true,Bool.false_eq_true,if_false,List.drop_succ_cons,List.drop_zero]at p1 p2
    refine iz rfl cm rfl (fun cargs w=>call142 cargs w) func142 rfl mixed (by kernel_rfl) rfl ?_;intro b0 hb0
    have lq:q<b0:=av hb0 (by rw[hq];rfl)
    have z0:=aS lq;have z1:=aq lq;have z2:=aI lq;have z3:=aj lq
    repeat' first|simp only[results142,ntmps142,ap,hq,z0,z1,z2,z3,aE,aF,az,aB,ax,bd,ag,seval,ae]|exact rfl|((first|(refine ac ?_ (hcv _) ?_)|(refine ab ?_ (fun _=>hcv _) ?_));(focus (simp only[results142,ntmps142,ap,hq,z0,z1,z2,z3,aE,aF,az,aB,ax,bd,ag,seval,ae]<;>exact rfl)))|((refine ad ?_ [q] (p1 _ _ ?_ ak (by omega)) ?_ ?_);iterate 3 (focus (simp only[ah,results142,ntmps142,ap,hq,z0,z1,z2,z3,aE,aF,az,aB,ax,bd,ag,seval,ae]<;>exact rfl)))|((refine ad ?_ [q] (p2 _ _ ?_ ak (by omega)) ?_ ?_);iterate 3 (focus (simp only[ah,results142,ntmps142,ap,hq,z0,z1,z2,z3,aE,aF,az,aB,ax,bd,ag,seval,ae]<;>exact rfl)))|(refine cB rfl [q] (gh q _ _) ?_)|((first|apply Ca|apply Cb)<;>intro hb)|refine Ai (by omega) ?_|(apply Ai<;>intro hb)
  | some p =>
   obtain⟨a,r⟩:=p
   have ecv:fY k t = .tup [.str a,.str r,.bool true]:=by unfold fY;rw[hc]
   rw[ecv]at hcv
   obtain⟨he,hka⟩:=ek hc
   obtain⟨hda,hdr⟩:=bQ hk128 hd2 he
   have hla:a.length≤16384:=by
    have:=congrArg List.length he
    simp at this;omega
   have hto:bR (a.map b7)=none:=by
    unfold gZ at hv
    rw[su,if_pos hk,hc]at hv
    simpa [yO] using hv
   have hmp:=Ga a (by omega) hda
   unfold Bs at hmp
   have hg:=qt (a.map b7) (by rw[Lm];unfold bk;omega)
   rw[jD (eP.2 ⟨by rw[Lm];omega,wV hda⟩) hto]at hg
   rcases hk with rfl|rfl
   ·have p1:=e1 39 (39::t) true (by simp;omega) (dp _ _ _)
    simp only[if_true,List.drop_succ_cons,List.drop_zero]at p1
    refine iz rfl cm rfl (fun cargs w=>call142 cargs w) func142 rfl mixed (by kernel_rfl) rfl ?_;intro b0 hb0
    have lq:q<b0:=av hb0 (by rw[hq];rfl)
    have z0:=aS lq;have z1:=aq lq;have z2:=aI lq;have z3:=aj lq
    repeat' first|simp only[am,ah,results142,ntmps142,ap,hq,z0,z1,z2,z3,aE,aF,az,aB,ax,bd,ag,seval,ae]|exact rfl|refine aa (v:=.any) ?_|(first|(refine ac ?_ (hcv _) ?_)|(refine ab ?_ (fun _=>hcv _) ?_)|(refine ac ?_ (hmp _) ?_)|(refine ab ?_ (fun _=>hmp _) ?_)|(refine ac ?_ (hg _) ?_)|(refine ab ?_ (fun _=>hg _) ?_))|(refine ad ?_ [q] (p1 _ _ ?_ ak (by omega)) ?_ ?_)|(refine cB rfl [q] (gh q _ _) ?_)|((first|apply Ca|apply Cb)<;>intro hb)|refine Ai (by omega) ?_|(apply Ai<;>intro hb)
   ·have p1:=e1 39 (34::t) false (by simp;omega) (dp _ _ _)
    have p2:=e1 34 (34::t) true (by simp;omega) (dp _ _ _)
    simp only[if_true,Bool.false_eq_true,if_false,List.drop_succ_cons,List.drop_zero]at p1 p2
    refine iz rfl cm rfl (fun cargs w=>call142 cargs w) func142 rfl mixed (by kernel_rfl) rfl ?_;intro b0 hb0
    have lq:q<b0:=av hb0 (by rw[hq];rfl)
    have z0:=aS lq;have z1:=aq lq;have z2:=aI lq;have z3:=aj lq
    repeat' first|simp only[results142,ntmps142,ap,hq,z0,z1,z2,z3,aE,aF,az,aB,ax,bd,ag,seval,ae]|exact rfl|((first|(refine ac ?_ (hcv _) ?_)|(refine ab ?_ (fun _=>hcv _) ?_)|(refine ac ?_ (hmp _) ?_)|(refine ab ?_ (fun _=>hmp _) ?_)|(refine ac ?_ (hg _) ?_)|(refine ab ?_ (fun _=>hg _) ?_));(focus (simp only[results142,ntmps142,ap,hq,z0,z1,z2,z3,aE,aF,az,aB,ax,bd,ag,seval,ae]<;>exact rfl)))|((refine ad ?_ [q] (p1 _ _ ?_ ak (by omega)) ?_ ?_);iterate 3 (focus (simp only[ah,results142,ntmps142,ap,hq,z0,z1,z2,z3,aE,aF,az,aB,ax,bd,ag,seval,ae]<;>exact rfl)))|((refine ad ?_ [q] (p2 _ _ ?_ ak (by omega)) ?_ ?_);iterate 3 (focus (simp only[ah,results142,ntmps142,ap,hq,z0,z1,z2,z3,aE,aF,az,aB,ax,bd,ag,seval,ae]<;>exact rfl)))|(refine cB rfl [q] (gh q _ _) ?_)|((first|apply Ca|apply Cb)<;>intro hb)|refine Ai (by omega) ?_|(apply Ai<;>intro hb)
 ·have hn:∀ k:UInt8,k=39∨k=34→preB s [k]=false:=by
   intro k hk2
   cases s with
   | nil=>rfl
   | cons c t =>
    rw[dp]
    refine beq_false_of_ne (fun e=>hk ⟨c,t,rfl,?_⟩)
    rw[e];exact hk2
  have p1:=e1 39 s false (by omega) (hn 39 (.inl rfl))
  have p2:=e1 34 s false (by omega) (hn 34 (.inr rfl))
  simp only[Bool.false_eq_true,if_false]at p1 p2
  refine iz rfl cm rfl (fun cargs w=>call142 cargs w) func142 rfl mixed (by kernel_rfl) rfl ?_;intro b0 hb0
  have lq:q<b0:=av hb0 (by rw[hq];rfl)
  have z0:=aS lq;have z1:=aq lq;have z2:=aI lq;have z3:=aj lq
  repeat' first|simp only[results142,ntmps142,ap,hq,z0,z1,z2,z3,aE,aF,az,aB,ax,bd,ag,seval,ae]|exact rfl|((refine ad ?_ [q] (p1 _ _ ?_ ak (by omega)) ?_ ?_);iterate 3 (focus (simp only[ah,results142,ntmps142,ap,hq,z0,z1,z2,z3,aE,aF,az,aB,ax,bd,ag,seval,ae]<;>exact rfl)))|((refine ad ?_ [q] (p2 _ _ ?_ ak (by omega)) ?_ ?_);iterate 3 (focus (simp only[ah,results142,ntmps142,ap,hq,z0,z1,z2,z3,aE,aF,az,aB,ax,bd,ag,seval,ae]<;>exact rfl)))|(refine cB rfl [q] (gh q _ _) ?_)|((first|apply Ca|apply Cb)<;>intro hb)|refine Ai (by omega) ?_|(apply Ai<;>intro hb)
end Go.Proofs.YtcllbjanalhjgaaGreatDoor
namespace Go.Proofs.YtcllbjanalhjgaaGreatDoor
set_option maxRecDepth 100000
set_option maxHeartbeats 32000000
set_option linter.unusedSimpArgs false
set_option linter.unusedVariables false
open Go Go.RowKit Go.Lib
theorem rz {p:UInt8→Bool}(hp:∀ c,p c=true→c.toNat<128):∀ s:List UInt8,(dN s).isSome=true→(dN (s.dropWhile p)).isSome=true
 | [],h=>h
 | c::s,h=>by
  rw[List.dropWhile_cons]
  by_cases hc:p c=true
  ·rw[if_pos hc]
   exact rz hp s (bQ (hp c hc) (a:=[]) h rfl).2
  ·rw[if_neg hc];exact h
theorem Cr:∀ c:UInt8,gX c=true→c.toNat<128:=by
 have key:∀ n:Fin 256,gX (UInt8.ofNat n.val)=true→n.val<128:=by decide +kernel
 intro c hc
 have:=key ⟨c.toNat,c.toNat_lt⟩ (by simpa using hc)
 exact this
theorem Ho:∀ c:UInt8,eS c=true→c.toNat<128:=by
 have key:∀ n:Fin 256,eS (UInt8.ofNat n.val)=true→n.val<128:=by decide +kernel
 intro c hc
 have:=key ⟨c.toNat,c.toNat_lt⟩ (by simpa using hc)
 exact this
theorem dm {s:List UInt8}(h:(dN s).isSome=true):(dN (aZ s)).isSome=true:=rz Cr s h
theorem gT {s n r:List UInt8}(h:(dN s).isSome=true)(hn:eL s=some (n,r)):(dN r).isSome=true:=by
 rw[←(uE hn).2.1]
 exact rz Ho s h
theorem EF {s v r:List UInt8}(h:(dN s).isSome=true)(hv:gZ s=some (v,r)):(dN r).isSome=true:=by
 obtain⟨a,h1,_⟩:=kD hv
 obtain⟨k,hk,rfl,_⟩:=kr h1
 have hk128:k.toNat<128:=by rcases hk with rfl|rfl<;>decide
 exact(bQ hk128 (a:=k::a) h rfl).2
theorem qW {s r:List UInt8}{a:Pr}(h:(dN s).isSome=true)(ha:fU s=some (a,r)):(dN r).isSome=true:=by
 obtain⟨r1,t,h1,h2,h3⟩:=lR ha
 have d1:=dm (gT h h1)
 rw[h2]at d1
 have d2:=(bQ (d:=61) (by decide) (a:=[]) d1 rfl).2
 exact EF (dm d2) h3
theorem sK {s:List UInt8}(h:(dN s).isSome=true):(dN (cq s)).isSome=true∧(dN (fS s)).isSome=true:=by
 have e:s=cq s++fS s:=(List.takeWhile_append_dropWhile).symm
 cases hr:fS s with
 | nil =>
  rw[hr,List.append_nil]at e
  rw[← e];exact⟨h,rfl⟩
 | cons c t =>
  have hc:jp c=false:=by
   have:=List.head?_dropWhile_not jp s
   unfold fS at hr
   rw[hr]at this
   simpa using this
  have hc60:c=60:=by simpa [jp] using hc
  rw[hr]at e
  subst hc60
  obtain⟨h1,h2⟩:=bQ (d:=60) (by decide) h e
  refine⟨h1,?_⟩
  have d60:dN [60]=some [60]:=by decide +kernel
  obtain⟨y,hy⟩:=Option.isSome_iff_exists.1 h2
  rw[show(60:UInt8)::t=[60]++t from rfl,ro d60 hy];rfl
end Go.Proofs.YtcllbjanalhjgaaGreatDoor
namespace Go.Proofs.YtcllbjanalhjgaaGreatDoor
set_option maxRecDepth 100000
set_option maxHeartbeats 32000000
set_option linter.unusedSimpArgs false
set_option linter.unusedVariables false
open Go Go.RowKit Vm Go.Lib Tryz
open Vm renaming be→Ca,bo→Cb
open And renaming intro→Ai
open List renaming length_map→Lm,not_mem_nil→Ln,map_nil→Lo,map_cons→Lc,mem_cons→Lk
open Bool renaming not_false→Bf,not_true→Bt
theorem cH (s p:List UInt8)(y:Bool)(hs:s.length≤20000)(hp:p.length≤100)(hy:preB s p=y)(q:Nat)(M:ao)(nm:Nat)(hq:M q=some ⟨1,[[.str s]]⟩)(ho:∀ z,(M z).isSome=true→z∈[q])(hqn:q<nm) :
  Ev cx 121 nm [.ptr q 0 0,.str p] M (.bool y) [(q,some ⟨1,[[.str (if y then s.drop p.length else s)]]⟩)]:=by
 have:=zA s p (by unfold bk;omega) (by unfold bk;omega) q M nm hq ho hqn
 rw[hy]at this
 cases y<;>exact this
theorem eh {c:UInt8}{s:List UInt8} : preB s [c]=(bS c s).isSome:=by
 cases s with
 | nil=>rfl
 | cons d t =>
  rw[dp,iv]
  by_cases h:d=c
  ·rw[if_pos h,h];simp
  ·rw[if_neg h];simpa using h
theorem Jj (s t n r r2:List UInt8)(hs:s.length≤16384)(h1:bS 47 s=some t)(h2:eL t=some (n,r))(h3:bS 62 (aZ r)=some r2)(q:Nat)(M:ao)(nm:Nat)(hq:M q=some (bO s))(ho:∀ z,(M z).isSome=true→z∈[q])(hqn:q<nm) :
  Ev cx 122 nm [.ptr q 0 0] M (.agg [.int .u8 2,.str n,.nils,.str []]) [(q,some (bO r2))]:=by
 obtain rfl:=bU h1
 have hk:=bU h3
 have l1:t.length+1≤16384:=by simpa using hs
 obtain⟨_,_,_,l2⟩:=fp h2
 have l3:=cX r
 have p1:∀(M':ao) (n':Nat),M' q=some ⟨1,[[.str (47::t)]]⟩→(∀ z,(M' z).isSome=true→z∈[q])→q<n'→Ev cx 121 n' [.ptr q 0 0,.str [47]] M' (.bool true) [(q,some ⟨1,[[.str t]]⟩)]:=fun M' n' a b c=>by
  have:=cH (47::t) [47] true (by omega) (by decide) (by rw[dp];rfl) q M' n' a b c
  exact this
 have p2:∀(M':ao) (n':Nat),M' q=some ⟨1,[[.str (aZ r)]]⟩→(∀ z,(M' z).isSome=true→z∈[q])→q<n'→Ev cx 121 n' [.ptr q 0 0,.str [62]] M' (.bool true) [(q,some ⟨1,[[.str r2]]⟩)]:=fun M' n' a b c=>by
  rw[hk]at a l3
  have:=cH (62::r2) [62] true (by omega) (by decide) (by rw[dp];rfl) q M' n' a b c
  exact this
 have hn:=jR t n r (by omega) h2
 have hsk:=jn r (by unfold bk;omega)
 unfold bO at hq hn hsk ⊢
 refine ay rfl (fun cargs w=>call122 cargs w) func122 rfl mixed (by kernel_rfl) rfl ?_;intro b0 hb0
 have lq:q<b0:=av hb0 (by rw[hq];rfl)
 have z0:=aS lq;have z1:=aq lq;have z2:=aI lq;have z3:=aj lq
 repeat' first|simp only[results122,ntmps122,ap,hq,z0,z1,z2,z3,ag,seval,ae]|exact rfl|((first|(refine ad ?_ [q] (p1 _ _ ?_ ak (by omega)) ?_ ?_)|(refine ad ?_ [q] (hn q _ _ ?_ ak (by omega)) ?_ ?_)|(refine ad ?_ [q] (hsk q _ _ ?_ ak (by omega)) ?_ ?_));iterate 3 (focus (simp only[ah,results122,ntmps122,ap,hq,z0,z1,z2,z3,ag,seval,ae]<;>exact rfl)))|((refine ad ?_ [q] (p2 _ _ ?_ ak (by omega)) ?_ ?_);iterate 3 (focus (simp only[ah,results122,ntmps122,ap,hq,z0,z1,z2,z3,ag,seval,ae]<;>exact rfl)))|((first|apply Ca|apply Cb)<;>intro hb)|refine Ai (by omega) ?_|(apply Ai<;>intro hb)
 all_goals ((refine Fin.give [(q,none)] [] ?_ ?_ ?_ ?_ ?_ (fun q hq=>by have hqq:=ho q hq;first|(simp only[aD,tgt,Lc,Lo,Lk,Ln,or_false]at hqq ⊢;omega)|(simp only[aD,tgt,Lc,Lo,Lk,Ln,or_false]at hqq))<;>(try simp only[results122,ntmps122,ap,hq,z0,z1,z2,z3,ec,ag,seval,ae])<;>(try simp only[au])<;>(try omega)))
theorem GO (s t:List UInt8)(hs:s.length≤16384)(h1:bS 47 s=some t)(hno:sI s=none)(q:Nat)(M:ao)(nm:Nat)(hq:M q=some (bO s))(ho:∀ z,(M z).isSome=true→z∈[q])(hqn:q<nm) :
  wB cx 122 nm [.ptr q 0 0] M Au:=by
 obtain rfl:=bU h1
 have l1:t.length+1≤16384:=by simpa using hs
 have p1:∀(M':ao) (n':Nat),M' q=some ⟨1,[[.str (47::t)]]⟩→(∀ z,(M' z).isSome=true→z∈[q])→q<n'→Ev cx 121 n' [.ptr q 0 0,.str [47]] M' (.bool true) [(q,some ⟨1,[[.str t]]⟩)]:=fun M' n' a b c=>by
  have:=cH (47::t) [47] true (by omega) (by decide) (by rw[dp];rfl) q M' n' a b c
  exact this
 unfold bO at hq
 cases h2:eL t with
 | none =>
  have hn:=pu t (by omega) h2
  unfold bO at hn
  refine iz rfl cm rfl (fun cargs w=>call122 cargs w) func122 rfl mixed (by kernel_rfl) rfl ?_;intro b0 hb0
  have lq:q<b0:=av hb0 (by rw[hq];rfl)
  have z0:=aS lq;have z1:=aq lq;have z2:=aI lq;have z3:=aj lq
  repeat' first|simp only[results122,ntmps122,ap,hq,z0,z1,z2,z3,aE,aF,az,aB,ax,bd,ag,seval,ae]|exact rfl|((refine ad ?_ [q] (p1 _ _ ?_ ak (by omega)) ?_ ?_);iterate 3 (focus (simp only[ah,results122,ntmps122,ap,hq,z0,z1,z2,z3,aE,aF,az,aB,ax,bd,ag,seval,ae]<;>exact rfl)))|((first|apply Ca|apply Cb)<;>intro hb)|refine Ai (by omega) ?_|(apply Ai<;>intro hb)
  refine cB rfl [q] (hn q _ _ ?_ ak (by omega)) ?_
  ·simp only[ah,ap,hq,z0,z1,z2,z3,ag,seval,ae]<;>exact rfl
  ·simp only[az,aB,ax,bd,Au]
 | some p =>
  obtain⟨n,r⟩:=p
  obtain⟨_,_,_,l2⟩:=fp h2
  have l3:=cX r
  have h3:bS 62 (aZ r)=none:=by
   unfold sI at hno
   rw[h1]at hno
   simp only[h2,Option.bind_some,Option.map_eq_none_iff]at hno
   exact hno
  have hn:=jR t n r (by omega) h2
  have hsk:=jn r (by unfold bk;omega)
  have p2:=cH (aZ r) [62] false (by omega) (by decide) (by rw[eh,h3];rfl)
  simp only[Bool.false_eq_true,if_false]at p2
  unfold bO at hn hsk
  refine iz rfl cm rfl (fun cargs w=>call122 cargs w) func122 rfl mixed (by kernel_rfl) rfl ?_;intro b0 hb0
  have lq:q<b0:=av hb0 (by rw[hq];rfl)
  have z0:=aS lq;have z1:=aq lq;have z2:=aI lq;have z3:=aj lq
  repeat' first|simp only[results122,ntmps122,ap,hq,z0,z1,z2,z3,aE,aF,az,aB,ax,bd,ag,seval,ae]|exact rfl|((first|(refine ad ?_ [q] (p1 _ _ ?_ ak (by omega)) ?_ ?_)|(refine ad ?_ [q] (hn q _ _ ?_ ak (by omega)) ?_ ?_)|(refine ad ?_ [q] (hsk q _ _ ?_ ak (by omega)) ?_ ?_));iterate 3 (focus (simp only[ah,results122,ntmps122,ap,hq,z0,z1,z2,z3,aE,aF,az,aB,ax,bd,ag,seval,ae]<;>exact rfl)))|((refine ad ?_ [q] (p2 q _ _ ?_ ak (by omega)) ?_ ?_);iterate 3 (focus (simp only[ah,results122,ntmps122,ap,hq,z0,z1,z2,z3,aE,aF,az,aB,ax,bd,ag,seval,ae]<;>exact rfl)))|(refine cB rfl [q] (gh q _ _) ?_)|((first|apply Ca|apply Cb)<;>intro hb)|refine Ai (by omega) ?_|(apply Ai<;>intro hb)
def Dn (o:Option Nat):Int:=match o with|some n=>n|none=>-1
theorem bZ (n:Nat):Dn (some n)=n:=rfl
theorem dP:Dn none = -1:=rfl
theorem ll {α:Type}{p:α→Bool} : ∀ {l:List α} {k:Nat} {x:α},(l.take k).any p=false→l[k]? = some x→p x=true→l.findIdx? p=some k
 | [],k,x,_,h,_=>by simp at h
 | y::l,0,x,_,h,hp=>by simp at h;subst h;simp[List.findIdx?_cons,hp]
 | y::l,k+1,x,hn,h,hp=>by
  simp only[List.take_succ_cons,List.any_cons,Bool.or_eq_false_iff]at hn
  rw[List.findIdx?_cons,hn.1]
  simp[ll (l:=l) (k:=k) (x:=x) hn.2 (by simpa using h) hp]
theorem iB {α:Type}{p:α→Bool}{l:List α}(h:l.any p=false):l.findIdx? p=none:=by
 simpa [List.findIdx?_eq_none_iff] using h
theorem qP {α:Type}{p:α→Bool}{l:List α}(h:l.findIdx? p=none):l.any p=false:=by
 simpa [List.findIdx?_eq_none_iff] using h
theorem qR {α:Type}{p:α→Bool}{l:List α}{n:Nat}(h:l.findIdx? p=some n):l.any p=true:=by
 cases ha:l.any p with
 | true=>rfl
 | false=>rw[iB ha]at h;cases h
theorem eo {caps:List V}(h:plainL caps=true)(σ:List (Nat×Nat))(M:ao):finL σ M caps=caps:=(finL_plain σ M caps h).1
theorem c5 {caps:List V}(h:plainL caps=true)(σ:List (Nat×Nat))(M:ao):finLOk σ M caps=True:=eq_true (finL_plain σ M caps h).2
theorem Ad (l:List Pr)(f:Nat)(caps:List V)(p:Pr→Bool)(hf:∀ h∈l,∀ nm,Ev cx f nm (.agg (da h)::caps) ao.nil (.bool (p h)) [])(hn:l.length≤bk)(hpl:plainL caps=true)(nm:Nat):Ev cx 144 nm [.sl false 2 (l.map da),.fn f caps] ao.nil (.int .i64 (Dn (l.findIdx? p))) []:=by
 unfold bk at hn
 refine ay rfl (fun cargs w=>call144 cargs w) func144 rfl mixed (by kernel_rfl) rfl ?_;intro b0 hb0
 repeat' first|simp only[am,ah,results144,ntmps144,ap,ag,seval,ae]|exact rfl|refine aa (v:=.any) ?_|((first|(refine aL (g:=?_) ?_ ?_)|(refine aH (g:=?_) ?_ ?_));rotate_left 1;(focus (simp only[results144,ntmps144,ap,ag,seval,ae]<;>exact rfl)))|((first|apply Ca|apply Cb)<;>intro hb)|refine Ai (by omega) ?_|(apply Ai<;>intro hb)
 (refine aV cm (fun x:Nat=>l.length-x) (fun x=>x≤l.length∧(l.take x).any p=false) (b0+16) (fun x=>[(0,.sl false 2 (l.map da)),(1,.fn f caps),(7,.int .i64 l.length),(8,.int .i64 x)]) (fun x=>[]) (0) [] ?_ ?_ ?_ ?_;rotate_left 1;(focus (show b0≤_;omega));(focus (refine⟨?_,?_⟩<;>(try simp only[bj,Lm,aK,eo hpl,c5 hpl,ag,seval,ae,au])<;>(try omega)));rotate_left 1)
 ·exact⟨Nat.zero_le _,by simp⟩
 ·rintro k ⟨hk,hno⟩
  by_cases hlt:k<l.length
  ·obtain⟨h,hh⟩:∃ h,l[k]? = some h:=⟨_,List.getElem?_eq_getElem hlt⟩
   have hat:(l.map da)[k]? = some (da h):=by rw[List.getElem?_map,hh];rfl
   have hd:decide (k<l.length)=true:=decide_eq_true hlt
   have hwk:IntKind.i64.wrap ((k:Int)+1)=((k+1:Nat):Int):=aR (by omega) (by omega)
   have hfh:=hf h (List.mem_of_getElem? hh)
   cases hp:p h with
   | true =>
    have hfd:=ll hno hh hp
    rw[hp]at hfh
    (repeat' first|simp only[am,ah,results144,ntmps144,ap,hat,da,hlt,hd,hwk,hfd,bZ,Lm,ag,seval,ae]|exact rfl|refine aa (v:=.any) ?_|refine cE (g:=f) (caps:=caps) (by simp only[results144,ntmps144,ap,hat,da,hlt,hd,hwk,hfd,bZ,Lm,ag,seval,ae]<;>exact rfl) (by simp only[results144,ntmps144,ap,hat,da,hlt,hd,hwk,hfd,bZ,Lm,ag,seval,ae]<;>exact rfl) (hfh _) ?_|((first|(refine aL (g:=?_) ?_ ?_)|(refine aH (g:=?_) ?_ ?_));rotate_left 1;(focus (simp only[results144,ntmps144,ap,hat,da,hlt,hd,hwk,hfd,bZ,Lm,ag,seval,ae]<;>exact rfl)))|((first|apply Ca|apply Cb)<;>intro hb)|refine Ai (by omega) ?_|(apply Ai<;>intro hb)|refine Fin.pure ?_ ?_ ?_|simp only[au])
   | false =>
    have hn':=fF (p:=p) hno hh hp
    rw[hp]at hfh
    repeat' first|simp only[am,ah,results144,ntmps144,ap,hat,da,hlt,hd,hwk,Lm,ag,seval,ae]|exact rfl|refine aa (v:=.any) ?_|refine cE (g:=f) (caps:=caps) (by simp only[results144,ntmps144,ap,hat,da,hlt,hd,hwk,Lm,ag,seval,ae]<;>exact rfl) (by simp only[results144,ntmps144,ap,hat,da,hlt,hd,hwk,Lm,ag,seval,ae]<;>exact rfl) (hfh _) ?_|((first|(refine aL (g:=?_) ?_ ?_)|(refine aH (g:=?_) ?_ ?_));rotate_left 1;(focus (simp only[results144,ntmps144,ap,hat,da,hlt,hd,hwk,Lm,ag,seval,ae]<;>exact rfl)))|((first|apply Ca|apply Cb)<;>intro hb)|refine Ai (by omega) ?_|(apply Ai<;>intro hb)
    all_goals ((refine aJ cm (k+1) [] ?_ ?_ ?_ ?_;rotate_left 2;(focus (show b0≤_;omega));(focus (refine⟨?_,?_⟩<;>(try simp only[bj,aK,eo hpl,c5 hpl,hwk,ag,seval,ae,au])<;>(try omega)))))
    all_goals (first|(show l.length-(k+1)<l.length-k;omega)|exact⟨hlt,hn'⟩|skip)
  ·have hke:k=l.length:=by omega
   subst hke
   rw[List.take_length]at hno
   have hfd:=iB hno
   have hd:decide (l.length<l.length)=false:=decide_eq_false (by omega)
   (repeat' first|simp only[am,ah,results144,ntmps144,ap,hd,hfd,dP,Lm,ag,seval,ae]|exact rfl|refine aa (v:=.any) ?_|((first|(refine aL (g:=?_) ?_ ?_)|(refine aH (g:=?_) ?_ ?_));rotate_left 1;(focus (simp only[results144,ntmps144,ap,hd,hfd,dP,Lm,ag,seval,ae]<;>exact rfl)))|((first|apply Ca|apply Cb)<;>intro hb)|refine Ai (by omega) ?_|(apply Ai<;>intro hb)|refine Fin.pure ?_ ?_ ?_|simp only[au])
theorem s9 (l:List Pr)(f:Nat)(caps:List V)(p:Pr→Bool)(hf:∀ h∈l,∀ nm,Ev cx f nm (.agg (da h)::caps) ao.nil (.bool (p h)) [])(hn:l.length≤bk)(hpl:plainL caps=true)(nm:Nat):Ev cx 127 nm [.sl false 2 (l.map da),.fn f caps] ao.nil (.bool (l.any p)) []:=by
 have hi:=Ad l f caps p hf hn hpl
 cases h:l.findIdx? p with
 | none =>
  have ha:l.any p=false:=qP h
  rw[h]at hi
  refine ay rfl (fun cargs w=>call127 cargs w) func127 rfl mixed (by kernel_rfl) rfl ?_;intro b0 hb0
  (repeat' first|simp only[am,ah,results127,ntmps127,ap,ha,dP,ag,seval,ae]|exact rfl|refine aa (v:=.any) ?_|(first|(refine ac ?_ (hi _) ?_)|(refine ab ?_ (fun _=>hi _) ?_))|((first|apply Ca|apply Cb)<;>intro hb)|refine Ai (by omega) ?_|(apply Ai<;>intro hb)|refine Fin.pure ?_ ?_ ?_|simp only[au])
 | some n =>
  have ha:l.any p=true:=qR h
  rw[h]at hi
  have hz:decide ((0:Int)≤(n:Int))=true:=decide_eq_true (by omega)
  refine ay rfl (fun cargs w=>call127 cargs w) func127 rfl mixed (by kernel_rfl) rfl ?_;intro b0 hb0
  (repeat' first|simp only[am,ah,results127,ntmps127,ap,ha,bZ,hz,ag,seval,ae]|exact rfl|refine aa (v:=.any) ?_|(first|(refine ac ?_ (hi _) ?_)|(refine ab ?_ (fun _=>hi _) ?_))|((first|apply Ca|apply Cb)<;>intro hb)|refine Ai (by omega) ?_|(apply Ai<;>intro hb)|refine Fin.pure ?_ ?_ ?_|simp only[au])
theorem Js (a b:Pr)(nm:Nat):Ev cx 141 nm [.agg (da b),.rp (da a)] ao.nil (.bool (a.name==b.name)) []:=by
 refine ay rfl (fun cargs w=>call141 cargs w) func141 rfl mixed (by kernel_rfl) rfl ?_;intro b0 hb0
 (repeat' first|simp only[am,ah,results141,ntmps141,ap,da,ag,seval,ae]|exact rfl|refine aa (v:=.any) ?_|((first|apply Ca|apply Cb)<;>intro hb)|refine Ai (by omega) ?_|(apply Ai<;>intro hb)|refine Fin.pure ?_ ?_ ?_|simp only[au])
theorem yP (l:List Pr)(a:Pr)(hn:l.length≤bk)(nm:Nat):Ev cx 127 nm [.sl false 2 (l.map da),.fn 141 [.rp (da a)]] ao.nil (.bool (l.any fun b=>a.name==b.name)) [] :=
 s9 l 141 [.rp (da a)] (fun b=>a.name==b.name) (fun b _ nm=>Js a b nm) hn rfl nm
end Go.Proofs.YtcllbjanalhjgaaGreatDoor
namespace Go.Proofs.YtcllbjanalhjgaaGreatDoor
set_option maxRecDepth 100000
set_option maxHeartbeats 32000000
set_option linter.unusedSimpArgs false
set_option linter.unusedVariables false
open Go Go.RowKit Go.Lib
theorem Bq {s:List UInt8}(h:preB s [62]=true):∃ t,s=62::t∧j5 s=some (1,t):=by
 cases s with
 | nil=>cases h
 | cons c t =>
  rw[dp]at h
  obtain rfl:=eq_of_beq h
  exact⟨t,rfl,rfl⟩
theorem uf {s:List UInt8}(h:preB s [47,62]=true):∃ t,s=47::62::t∧j5 s=some (3,t):=by
 match s,h with
 | [],h=>cases h
 | [c],h=>simp[preB]at h
 | c::d::t,h =>
  simp[preB]at h
  obtain⟨rfl,rfl⟩:=h
  exact⟨t,rfl,rfl⟩
theorem w9 {s:List UInt8}(h1:preB s [62]=false)(h2:preB s [47,62]=false):j5 s=none:=by
 unfold j5
 split
 ·rw[dp]at h1;simp at h1
 ·simp[preB]at h2
 ·rfl
end Go.Proofs.YtcllbjanalhjgaaGreatDoor
namespace Go.Proofs.YtcllbjanalhjgaaGreatDoor
set_option maxRecDepth 100000
set_option maxHeartbeats 32000000
set_option linter.unusedSimpArgs false
set_option linter.unusedVariables false
open Go Go.RowKit Vm Go.Lib Tryz
open Vm renaming be→Ca,bo→Cb
open And renaming intro→Ai
open List renaming length_map→Lm,not_mem_nil→Ln,map_nil→Lo,map_cons→Lc,mem_cons→Lk
open Bool renaming not_false→Bf,not_true→Bt
structure TSt where
 l:List Pr
 rest:List UInt8
theorem Jk (s n r0 r:List UInt8)(k:Nat)(l:List Pr)(hs:s.length≤16384)(hd:(dN s).isSome=true)(h1:bS 47 s=none)(h2:eL s=some (n,r0))(h3:iR n [] r0=some (⟨k,n,l,[]⟩,r))(q:Nat)(M:ao)(nm:Nat)(hq:M q=some (bO s))(ho:∀ z,(M z).isSome=true→z∈[q])(hqn:q<nm) :
    Ev cx 122 nm [.ptr q 0 0] M (.agg [.int .u8 k,.str n,.own nm 0 l.length,.str []]) [(q,some (bO r)),(nm,some ⟨2,l.map da⟩)]:=by
  have p1:=cH s [47] false (by omega) (by decide) (by rw[eh,h1];rfl)
  simp only[Bool.false_eq_true,if_false]at p1
  have hn:=jR s n r0 (by omega) h2
  obtain⟨_,_,_,l2⟩:=fp h2
  have hd0:=gT hd h2
  unfold bO at hq hn ⊢
  refine ay rfl (fun cargs w=>call122 cargs w) func122 rfl mixed (by kernel_rfl) rfl ?_;intro b0 hb0
  have lq:q<b0:=av hb0 (by rw[hq];rfl)
  have z0:=aS lq;have z1:=aq lq;have z2:=aI lq;have z3:=aj lq
  repeat' first|simp only[results122,ntmps122,ap,hq,z0,z1,z2,z3,ag,seval,ae]|exact rfl|((first|(refine ad ?_ [q] (p1 q _ _ ?_ ak (by omega)) ?_ ?_)|(refine ad ?_ [q] (hn q _ _ ?_ ak (by omega)) ?_ ?_));iterate 3 (focus (simp only[ah,results122,ntmps122,ap,hq,z0,z1,z2,z3,ag,seval,ae]<;>exact rfl)))|((first|apply Ca|apply Cb)<;>intro hb)|refine Ai (by omega) ?_|(apply Ai<;>intro hb)
  (refine aV cm (fun x:TSt=>x.rest.length) (fun x=>iR n x.l x.rest=some (⟨k,n,l,[]⟩,r)∧(dN x.rest).isSome=true∧x.rest.length+x.l.length≤16384) (b0+16) (fun x=>[(0,.ptr q 0 0),(2,.ptr b0 0 0)]) (fun x=>[(q,⟨1,[[.str x.rest]]⟩),(b0,⟨4,[[.int .u8 0,.str n,.own (b0+1) 0 x.l.length,.str []]]⟩),(b0+1,⟨2,x.l.map da⟩)]) (⟨[],r0⟩) [some q,some b0,none] ?_ ?_ ?_ ?_;rotate_left 1;(focus (show b0≤_;omega));(focus (refine⟨?_,?_⟩<;>(try simp only[bj,hq,z0,z1,z2,z3,aU,Lo,List.length_nil,ag,seval,ae,au])<;>(try omega)));rotate_left 1)
  · exact⟨h3,hd0,by show r0.length+0≤16384;omega⟩
  · rintro ⟨xl,xr⟩ ⟨g1,g2,g3⟩
    dsimp only at g1 g2 g3 ⊢
    have gl:=cX xr
    have hsk:=jn xr (by unfold bk;omega)
    unfold bO at hsk
    have hnl:(xl.map da).length=xl.length:=Lm _
    by_cases e62:preB (aZ xr) [62]=true
    · obtain⟨t,ht,hen⟩:=Bq e62
      rw[kA hen]at g1
      simp only[Option.some.injEq,Prod.mk.injEq,Tk.mk.injEq,true_and,and_true]at g1
      obtain⟨⟨rfl,rfl⟩,rfl⟩:=g1
      have p62:=cH (aZ xr) [62] true (by omega) (by decide) e62
      simp only[if_true,ht,List.drop_succ_cons,List.drop_zero,List.length_cons,List.length_nil]at p62 hsk
      repeat' first|simp only[results122,ntmps122,ap,hq,z0,z1,z2,z3,ag,seval,ae]|exact rfl|((first|(refine ad ?_ [q] (hsk q _ _ ?_ ak (by omega)) ?_ ?_)|(refine ad ?_ [q] (p62 q _ _ ?_ ak (by omega)) ?_ ?_));iterate 3 (focus (simp only[ah,results122,ntmps122,ap,hq,z0,z1,z2,z3,ag,seval,ae]<;>exact rfl)))|((first|apply Ca|apply Cb)<;>intro hb)|refine Ai (by omega) ?_|(apply Ai<;>intro hb)
      all_goals ((refine Fin.give [(q,none),(b0+1,some 0)] [] ?_ ?_ ?_ ?_ ?_ (fun q hq=>by have hqq:=ho q hq;first|(simp only[aD,tgt,Lc,Lo,Lk,Ln,or_false]at hqq ⊢;omega)|(simp only[aD,tgt,Lc,Lo,Lk,Ln,or_false]at hqq))<;>(try simp only[results122,ntmps122,ap,hq,aK,z0,z1,z2,z3,ec,ag,seval,ae])<;>(try simp only[au])<;>(try omega)))
    · have e62':preB (aZ xr) [62]=false:=by simpa using e62
      have p62:=cH (aZ xr) [62] false (by omega) (by decide) e62'
      simp only[Bool.false_eq_true,if_false]at p62
      by_cases e47:preB (aZ xr) [47,62]=true
      · obtain⟨t,ht,hen⟩:=uf e47
        rw[kA hen]at g1
        simp only[Option.some.injEq,Prod.mk.injEq,Tk.mk.injEq,true_and,and_true]at g1
        obtain⟨⟨rfl,rfl⟩,rfl⟩:=g1
        have p63:=cH (aZ xr) [47,62] true (by omega) (by decide) e47
        simp only[if_true,ht,List.drop_succ_cons,List.drop_zero,List.length_cons,List.length_nil]at p62 p63 hsk
        repeat' first|simp only[results122,ntmps122,ap,hq,z0,z1,z2,z3,ag,seval,ae]|exact rfl|((first|(refine ad ?_ [q] (hsk q _ _ ?_ ak (by omega)) ?_ ?_)|(refine ad ?_ [q] (p62 q _ _ ?_ ak (by omega)) ?_ ?_));iterate 3 (focus (simp only[ah,results122,ntmps122,ap,hq,z0,z1,z2,z3,ag,seval,ae]<;>exact rfl)))|((refine ad ?_ [q] (p63 q _ _ ?_ ak (by omega)) ?_ ?_);iterate 3 (focus (simp only[ah,results122,ntmps122,ap,hq,z0,z1,z2,z3,ag,seval,ae]<;>exact rfl)))|((first|apply Ca|apply Cb)<;>intro hb)|refine Ai (by omega) ?_|(apply Ai<;>intro hb)
        all_goals ((refine Fin.give [(q,none),(b0+1,some 0)] [] ?_ ?_ ?_ ?_ ?_ (fun q hq=>by have hqq:=ho q hq;first|(simp only[aD,tgt,Lc,Lo,Lk,Ln,or_false]at hqq ⊢;omega)|(simp only[aD,tgt,Lc,Lo,Lk,Ln,or_false]at hqq))<;>(try simp only[results122,ntmps122,ap,hq,aK,z0,z1,z2,z3,ec,ag,seval,ae])<;>(try simp only[au])<;>(try omega)))
      · have e47':preB (aZ xr) [47,62]=false:=by simpa using e47
        have hen:=w9 e62' e47'
        have p63:=cH (aZ xr) [47,62] false (by omega) (by decide) e47'
        simp only[Bool.false_eq_true,if_false]at p63
        by_cases hgap:(aZ xr).length<xr.length
        · cases hat:fU (aZ xr) with
          | none=>rw[qK hen hat]at g1;cases g1
          | some p =>
            obtain⟨a,r'⟩:=p
            cases hany:(xl.any fun b=>a.name==b.name) with
            | true=>rw[mf hen hat hany]at g1;cases g1
            | false =>
              rw[lJ hen hgap hat hany]at g1
              have hlt:=jX hat
              have g2':=qW (dm g2) hat
              obtain⟨r1,t,k1,k2,k3⟩:=lR hat
              have d1:=dm (gT (dm g2) k1)
              rw[k2]at d1
              have d2:=dm (bQ (d:=61) (by decide) (a:=[]) d1 rfl).2
              obtain⟨_,_,_,m1⟩:=fp k1
              have m2:=cX r1
              have m3:=cX t
              rw[k2]at m2
              simp only[List.length_cons]at m2
              have hgd:decide ((aZ xr).length<xr.length)=true:=decide_eq_true hgap
              rw[hgd]at hsk
              have hn1:=jR (aZ xr) a.name r1 (by omega) k1
              have hsk1:=jn r1 (by unfold bk;omega)
              have hsk2:=jn t (by unfold bk;omega)
              rw[k2]at hsk1
              have p61:=cH (61::t) [61] true (by simp;omega) (by decide) (by rw[dp];rfl)
              simp only[if_true,List.drop_succ_cons,List.drop_zero,List.length_cons,List.length_nil]at p61
              have htw:=yP xl ⟨a.name,[]⟩ (by unfold bk;omega)
              simp only[hany,da]at htw
              have hva:=uM (aZ t) a.value r' (by omega) d2 k3
              unfold bO at hn1 hsk1 hsk2 hva
              repeat' first|simp only[results122,ntmps122,ap,aK,hq,da,z0,z1,z2,z3,Bt,Bf,Lm,ag,seval,ae]|exact rfl|((refine ja (xs:=?_) [b0+1,b0+384] ?_ (fun _=>?_) (fun _=>?_) rfl ((fun _=>htw _)) ?_);rotate_left 1;iterate 3 (focus (simp only[am,ah,results122,ntmps122,ap,aK,hq,da,z0,z1,z2,z3,Bt,Bf,Lm,ag,seval,ae]<;>(first|exact rfl|omega))))|((first|(refine ad ?_ [q] (hsk q _ _ ?_ ak (by omega)) ?_ ?_)|(refine ad ?_ [q] (p62 q _ _ ?_ ak (by omega)) ?_ ?_)|(refine ad ?_ [q] (hn1 q _ _ ?_ ak (by omega)) ?_ ?_)|(refine ad ?_ [q] (hva q _ _ ?_ ak (by omega)) ?_ ?_));iterate 3 (focus (simp only[ah,results122,ntmps122,ap,aK,hq,da,z0,z1,z2,z3,Bt,Bf,Lm,ag,seval,ae]<;>exact rfl)))|((first|(refine ad ?_ [q] (p63 q _ _ ?_ ak (by omega)) ?_ ?_)|(refine ad ?_ [q] (hsk1 q _ _ ?_ ak (by omega)) ?_ ?_));iterate 3 (focus (simp only[ah,results122,ntmps122,ap,aK,hq,da,z0,z1,z2,z3,Bt,Bf,Lm,ag,seval,ae]<;>exact rfl)))|((first|(refine ad ?_ [q] (hsk2 q _ _ ?_ ak (by omega)) ?_ ?_)|(refine ad ?_ [q] (p61 q _ _ ?_ ak (by omega)) ?_ ?_));iterate 3 (focus (simp only[ah,results122,ntmps122,ap,aK,hq,da,z0,z1,z2,z3,Bt,Bf,Lm,ag,seval,ae]<;>exact rfl)))|((first|apply Ca|apply Cb)<;>intro hb)|refine Ai (by omega) ?_|(apply Ai<;>intro hb)
              have hnx:xl.map da++[[.str a.name,.str a.value]]=(xl++[a]).map da:=by simp[da]
              have hnn:(xl++[a]).length=xl.length+1:=by simp
              rw[hnx]
              all_goals ((refine aJ cm (⟨xl++[a],r'⟩) [some q,some b0,some (b0+848)] ?_ ?_ ?_ ?_;rotate_left 2;(focus (show b0≤_;omega));(focus (refine⟨?_,?_⟩<;>(try simp only[bj,aK,hq,z0,z1,z2,z3,hnn,Lm,ag,seval,ae,au])<;>(try omega)))))
              all_goals (first|exact⟨g1,g2',by show r'.length+(xl++[a]).length≤16384;omega⟩|(show r'.length<xr.length;omega)|skip)
        · rw[kB hen hgap]at g1;cases g1
theorem D3 (s:List UInt8)(hs:s.length≤16384)(h1:bS 47 s=none)(h2:eL s=none)(q:Nat)(M:ao)(nm:Nat)(hq:M q=some (bO s))(ho:∀ z,(M z).isSome=true→z∈[q])(hqn:q<nm) :
  wB cx 122 nm [.ptr q 0 0] M Au:=by
 have p1:=cH s [47] false (by omega) (by decide) (by rw[eh,h1];rfl)
 simp only[Bool.false_eq_true,if_false]at p1
 have hn:=pu s (by omega) h2
 unfold bO at hq hn
 refine iz rfl cm rfl (fun cargs w=>call122 cargs w) func122 rfl mixed (by kernel_rfl) rfl ?_;intro b0 hb0
 have lq:q<b0:=av hb0 (by rw[hq];rfl)
 have z0:=aS lq;have z1:=aq lq;have z2:=aI lq;have z3:=aj lq
 repeat' first|simp only[results122,ntmps122,ap,hq,z0,z1,z2,z3,aE,aF,az,aB,ax,bd,ag,seval,ae]|exact rfl|((refine ad ?_ [q] (p1 q _ _ ?_ ak (by omega)) ?_ ?_);iterate 3 (focus (simp only[ah,results122,ntmps122,ap,hq,z0,z1,z2,z3,aE,aF,az,aB,ax,bd,ag,seval,ae]<;>exact rfl)))|((first|apply Ca|apply Cb)<;>intro hb)|refine Ai (by omega) ?_|(apply Ai<;>intro hb)
 refine cB rfl [q] (hn q _ _ ?_ ak (by omega)) ?_
 ·simp only[ah,ap,hq,z0,z1,z2,z3,ag,seval,ae]<;>exact rfl
 ·simp only[az,aB,ax,bd,Au]
end Go.Proofs.YtcllbjanalhjgaaGreatDoor
