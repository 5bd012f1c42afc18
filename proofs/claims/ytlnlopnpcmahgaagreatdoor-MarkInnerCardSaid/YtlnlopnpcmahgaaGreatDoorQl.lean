/-
 Texts joined: XNg,XNh,XNi,XNj,XNk,XNl,XNm,XNn,XNo.
-/
import Derived.Test.YtlnlopnpcmahgaaGreatDoorQk
import Derived.Test.YtlnlopnpcmahgaaGreatDoorQj
set_option linter.all false
namespace Go.Proofs.YtlnlopnpcmahgaaGreatDoor
set_option maxRecDepth 100000
set_option maxHeartbeats 32000000
open Go Go.RowKit Vm Go.Lib Tryz
open Vm renaming aW->Ca,bf->Cb
open And renaming intro->Ai
open List renaming length_map->Lm,not_mem_nil->Ln,map_nil->Lo,map_cons->Lc,mem_cons->Lk
open Bool renaming not_false->Bf,not_true->Bt
def bV (s:List UInt8):Blk:=⟨1,[[.str s]]⟩
def B8 (s p:List UInt8)(hs:s.length<=bc)(hp:p.length<=bc)(q:Nat)(M:am)(nm:Nat)(hq:M q=some (bV s))(ho:∀ z,(M z).isSome=true->z∈[q])(hqn:q<nm) :
  Ev cx 145 nm [.ptr q 0 0,.str p] M (.bool (preB s p)) [(q,some (bV (if preB s p=true then s.drop p.length else s)))]:=by
 have h:=nE s p hs hp
 cases hb:preB s p with
 | true =>
  rw[ni hb]at h
  simp only[if_true]
  unfold bV at hq ⊢
  refine bh call145 func145 rfl (by kernel_rfl) rfl ?_;intro b0 hb0
  have lq:=aB hb0 hq
  have z0:=aD lq
  repeat' first|simp only[ak,ag,results145,ntmps145,al,hq,z0,ai,seval,ah]|exact rfl|refine aa (v:=.any) ?_|(first|(refine ae ?_ (h _) ?_)|(refine ab ?_ (fun _=>h _) ?_))|((first|apply Ca|apply Cb)<;>intro hb)|refine Ai (by omega) ?_|(apply Ai<;>intro hb)
  all_goals ((refine Fin.give [(q,none)] [] ?_ ?_ ?_ ?_ ?_ (aL ho (by simp[aP,tgt]))<;>(try simp only[results145,ntmps145,al,hq,z0,dx,ai,seval,ah])<;>(try simp only[ap])<;>(try omega)))
 | false =>
  rw[qf hb]at h
  simp only[Bool.false_eq_true,if_false]
  unfold bV at hq ⊢
  refine bh call145 func145 rfl (by kernel_rfl) rfl ?_;intro b0 hb0
  have lq:=aB hb0 hq
  have z0:=aD lq
  repeat' first|simp only[ak,ag,results145,ntmps145,al,hq,z0,ai,seval,ah]|exact rfl|refine aa (v:=.any) ?_|(first|(refine ae ?_ (h _) ?_)|(refine ab ?_ (fun _=>h _) ?_))|((first|apply Ca|apply Cb)<;>intro hb)|refine Ai (by omega) ?_|(apply Ai<;>intro hb)
  all_goals ((refine Fin.give [(q,none)] [] ?_ ?_ ?_ ?_ ?_ (aL ho (by simp[aP,tgt]))<;>(try simp only[results145,ntmps145,al,hq,z0,dx,ai,seval,ah])<;>(try simp only[ap])<;>(try omega)))
def kr (s:List UInt8)(hs:s.length<=bc)(q:Nat)(M:am)(nm:Nat)(hq:M q=some (bV s))(ho:∀ z,(M z).isSome=true->z∈[q])(hqn:q<nm) :
  Ev cx 182 nm [.ptr q 0 0] M (.bool (decide ((be s).length<s.length))) [(q,some (bV (be s)))]:=by
 have h:=yN fU s (by decide) (by decide) (by decide) hs
 rw[wY]at h
 change ∀ nm,Ev cx _ nm _ am.nil (.str (be s)) []at h
 unfold fU at h
 have hd:decide (((be s).length:Int)<(s.length:Int))=decide ((be s).length<s.length):=decide_eq_decide.2 (by omega)
 unfold bV at hq ⊢
 refine bh call182 func182 rfl (by kernel_rfl) rfl ?_;intro b0 hb0
 have lq:=aB hb0 hq
 have z0:=aD lq
 repeat' first|simp only[ak,ag,results182,ntmps182,al,hq,z0,hd,ai,seval,ah]|exact rfl|refine aa (v:=.any) ?_|(first|(refine ae ?_ (h _) ?_)|(refine ab ?_ (fun _=>h _) ?_))|((first|apply Ca|apply Cb)<;>intro hb)|refine Ai (by omega) ?_|(apply Ai<;>intro hb)
 all_goals ((refine Fin.give [(q,none)] [] ?_ ?_ ?_ ?_ ?_ (aL ho (by simp[aP,tgt]))<;>(try simp only[results182,ntmps182,al,hq,z0,hd,dx,ai,seval,ah])<;>(try simp only[ap])<;>(try omega)))
section
variable {cx:Cx} {Q:Post} {st:List Frm} {nm:Nat} {e:Env} {M:am} {d:Bool} {fs:List (List Nat)} {ops r:List Oper} {dst:Option Tmp} {t:TypeId} {pos:String} {af:Array Edge} {gd:Option (Nat×Bool)} {i:Nat}
def Fv (P:Program)(t:TypeId):Bool:=match P.underlying t with
 | some (.interface _)|none=>false
 | some _=>true
def Oh {P:Program}{w:World}{t:TypeId}(x:Value)(h:Fv P t=true):(Instr.makeInterface t x).run P w = .ok (.iface t x) w:=by
 unfold Fv at h
 cases hu:P.underlying t with
 | none=>rw[hu]at h;cases h
 | some u =>
  rw[hu]at h
  simp only[Instr.makeInterface,Sem.run_bind,run_underlying hu w,Result.andThen_ok]
  cases u<;>first|rfl|cases h
def kL {ty:TypeId}{x:Operand}{u:V}(hx:aw cx.G true e x=u)(ht:Fv cx.P ty=true)
  (h:aK cx Q st nm (e.putD dst (.iface ty u)) M d (fs++[[]]) ops r (i+1)):cp cx Q st nm e M d fs ops ⟨dst,.makeInterface ty x,t,pos,af,gd⟩ r i:=by
 refine⟨_,[],_,⟨fun x hx=>by simp[ao]at hx,fun x hx=>by simp[ao]at hx,fun h=>absurd rfl h,fun h=>absurd rfl h,?_⟩,h⟩
 intro N X w0 I Y e' M' a w hr he hin hev hMM hf
 have hxi:=he.eval hr (c:=true) rfl (hin x (by simp[Op.operands]))
 rw[hev x (by simp[Op.operands]),hx]at hxi
 exact⟨_,w,(dc.still (nm:=nm+16*i) hr (.iface (t:=ty) hxi)).n,ij (s:=Instr.makeInterface ty (a.eval x)) rfl (Oh _ ht)⟩
end
def C3:V:=.iface 25 (.int .i64 80)
def ia (q:Nat)(M:am)(nm:Nat):yT cx 149 nm [.ptr q 0 0] M C3:=by
 unfold C3
 refine jz rfl bM rfl call149 func149 rfl mixed (by kernel_rfl) rfl ?_;intro b0 hb0
 repeat' first|simp only[ak,ag,results149,ntmps149,al,aF,aG,ax,aA,bg,ai,seval,ah]|exact rfl|refine aa (v:=.any) ?_|(refine kL rfl (by kernel_rfl) ?_)|((first|apply Ca|apply Cb)<;>intro hb)|refine Ai (by omega) ?_|(apply Ai<;>intro hb)
def sQ {s:List UInt8}{x:Nat}(h:∀ c∈s.take x,fD c=true)(h2:∀ c,s[x]? = some c->fD c=false):jW s=s.take x/\u4 s=s.drop x:=by
 have e:s=s.take x++s.drop x:=(List.take_append_drop x s).symm
 have hd:(s.drop x).takeWhile fD=[]/\(s.drop x).dropWhile fD=s.drop x:=by
  cases hc:s.drop x with
  | nil=>exact⟨rfl,rfl⟩
  | cons c t =>
   have:s[x]? = some c:=by
    have:=congrArg List.head? hc
    simpa [List.head?_drop] using this
   rw[List.takeWhile_cons,List.dropWhile_cons,h2 c this]
   exact⟨rfl,rfl⟩
 unfold jW u4
 constructor
 ·conv=>lhs;rw[e]
  rw[List.takeWhile_append_of_pos h,hd.1,List.append_nil]
 ·conv=>lhs;rw[e]
  rw[List.dropWhile_append_of_pos h,hd.2]
def xa {s:List UInt8}{x:Nat}{c:UInt8}(h:∀ c∈s.take x,fD c=true)(hc:s[x]? = some c)(hw:fD c=true):∀ c∈s.take (x+1),fD c=true:=by
 intro d hd
 rw[List.take_add_one,hc]at hd
 rcases List.mem_append.1 hd with hd|hd
 ·exact h d hd
 ·simp at hd;rw[hd];exact hw
def wA {s n r:List UInt8}(h:fy s=some (n,r)):jW s=n/\u4 s=r/\cN n=true:=by
 unfold fy at h
 split at h
 ·rename_i hf;cases h;exact⟨rfl,rfl,hf⟩
 ·cases h
def GM {s:List UInt8}(h:fy s=none):cN (jW s)=false:=by
 unfold fy at h
 split at h
 ·cases h
 ·rename_i hf;simpa using hf
def ld (s n r:List UInt8)(hs:s.length<=1000000)(hn:fy s=some (n,r))(q:Nat)(M:am)(nm:Nat)(hq:M q=some (bV s))(ho:∀ z,(M z).isSome=true->z∈[q])(hqn:q<nm) :
  Ev cx 181 nm [.ptr q 0 0] M (.str n) [(q,some (bV r))]:=by
 obtain⟨hw1,hw2,hfl⟩:=wA hn
 unfold bV at hq ⊢
 refine bh call181 func181 rfl (by kernel_rfl) rfl ?_;intro b0 hb0;have zF:=Ai results181 ntmps181
 have lq:=aB hb0 hq
 have z0:=aD lq
 repeat' first|simp only[ak,ag,zF,al,ai,seval,ah]|exact rfl|refine aa (v:=.any) ?_|((first|apply Ca|apply Cb)<;>intro hb)|refine Ai (by omega) ?_|(apply Ai<;>intro hb)
 (refine aQ bM (fun x:Nat=>s.length-x) (fun x=>x<=s.length/\(∀ c∈s.take x,fD c=true)) (b0+16) (fun x=>[(0,.ptr q 0 0),(3,.int .i64 x)]) (fun x=>[(q,⟨1,[[.str s]]⟩)]) (0) [some q] ?_ ?_ ?_ ?_;rotate_left 1;(focus (show b0<=_;omega));(focus (refine⟨?_,?_⟩<;>(try simp only[aX,hq,z0,ai,seval,ah,ap])<;>(try omega)));rotate_left 1)
 ·exact⟨Nat.zero_le _,by simp⟩
 ·rintro x ⟨h1,h2⟩
  have hend:∀(hx:∀ c,s[x]? = some c->fD c=false),s.take x=jW s/\s.drop x=u4 s:=fun hx=>⟨(sQ h2 hx).1.symm,(sQ h2 hx).2.symm⟩
  have h1':(x:Int)<=(s.length:Int):=by omega
  by_cases hx:x<s.length
  ·obtain⟨c,hc⟩:∃ c,s[x]? = some c:=⟨_,List.getElem?_eq_getElem hx⟩
   have hx':decide ((x:Int)<(s.length:Int))=true:=bR
   have hpe:=yq c false
   have q58:((c.toNat:Int)==58)=decide (c=58):=gE c 58
   have hwx:IntKind.i64.wrap ((x:Int)+1)=((x+1:Nat):Int):=bd
   have hwc:fD c=(jQ false c||decide (c=58)):=by unfold fD;congr 1
   have hgo:∀(hp:fD c=true),x+1<=s.length /\ ∀ c∈s.take (x+1),fD c=true:=fun hp=>⟨by omega,xa h2 hc hp⟩
   cases hp:jQ false c<;>cases h58:decide (c=58)<;>rw[hp,h58]at hwc<;>rw[hp]at hpe<;>rw[h58]at q58
   ·have he:=hend (fun d hd=>by rw[hc]at hd;cases hd;exact hwc)
    have hfe:=jf (jW s) (by unfold bc;rw[<- he.1,List.length_take];omega)
    rw[hw1,hfl]at hfe
    have e1:s.take x=n:=by rw[he.1,hw1]
    have e2:s.drop x=r:=by rw[he.2,hw2]
    repeat' first|simp only[ak,ag,zF,al,hc,hx',h1,h1',hx,q58,e1,e2,ai,seval,ah]|exact rfl|refine aa (v:=.any) ?_|(first|(refine ae ?_ (hfe _) ?_)|(refine ab ?_ (fun _=>hfe _) ?_)|(refine ae ?_ (hpe _) ?_)|(refine ab ?_ (fun _=>hpe _) ?_))|(refine aa (v:=.any) ?_)|refine Ai (by omega) ?_
    all_goals ((refine Fin.give [(q,none)] [] ?_ ?_ ?_ ?_ ?_ (aL ho (by simp[aP,tgt]))<;>(try simp only[zF,al,hq,z0,dx,ai,seval,ah])<;>(try simp only[ap])<;>(try omega)))
   ·repeat' first|simp only[ak,ag,zF,al,hc,hx',h1,h1',hx,q58,hwx,ai,seval,ah]|exact rfl|refine aa (v:=.any) ?_|(first|(refine ae ?_ (hpe _) ?_)|(refine ab ?_ (fun _=>hpe _) ?_))|(refine aa (v:=.any) ?_)|refine Ai (by omega) ?_
    all_goals ((refine aC bM (x+1) [some q] ?_ ?_ ?_ ?_;rotate_left 2;(focus (show b0<=_;omega));(focus (refine⟨?_,?_⟩<;>(try simp only[aX,hq,z0,ai,seval,ah,ap])<;>(try omega)))))
    all_goals (first|(show s.length-(x+1)<s.length-x;omega)|exact hgo hwc|skip)
   ·repeat' first|simp only[ak,ag,zF,al,hc,hx',h1,h1',hx,q58,hwx,ai,seval,ah]|exact rfl|refine aa (v:=.any) ?_|(first|(refine ae ?_ (hpe _) ?_)|(refine ab ?_ (fun _=>hpe _) ?_))|(refine aa (v:=.any) ?_)|refine Ai (by omega) ?_
    all_goals ((refine aC bM (x+1) [some q] ?_ ?_ ?_ ?_;rotate_left 2;(focus (show b0<=_;omega));(focus (refine⟨?_,?_⟩<;>(try simp only[aX,hq,z0,ai,seval,ah,ap])<;>(try omega)))))
    all_goals (first|(show s.length-(x+1)<s.length-x;omega)|exact hgo hwc|skip)
   ·repeat' first|simp only[ak,ag,zF,al,hc,hx',h1,h1',hx,q58,hwx,ai,seval,ah]|exact rfl|refine aa (v:=.any) ?_|(first|(refine ae ?_ (hpe _) ?_)|(refine ab ?_ (fun _=>hpe _) ?_))|(refine aa (v:=.any) ?_)|refine Ai (by omega) ?_
    all_goals ((refine aC bM (x+1) [some q] ?_ ?_ ?_ ?_;rotate_left 2;(focus (show b0<=_;omega));(focus (refine⟨?_,?_⟩<;>(try simp only[aX,hq,z0,ai,seval,ah,ap])<;>(try omega)))))
    all_goals (first|(show s.length-(x+1)<s.length-x;omega)|exact hgo hwc|skip)
  ·have hx':decide ((x:Int)<(s.length:Int))=false:=bm
   have hxe:s[x]? = none:=List.getElem?_eq_none (by omega)
   have he:=hend (fun d hd=>by rw[hxe]at hd;cases hd)
   have hfe:=jf (jW s) (by unfold bc;rw[<- he.1,List.length_take];omega)
   rw[hw1,hfl]at hfe
   have e1:s.take x=n:=by rw[he.1,hw1]
   have e2:s.drop x=r:=by rw[he.2,hw2]
   repeat' first|simp only[ak,ag,zF,al,hxe,hx',h1,h1',hx,e1,e2,ai,seval,ah]|exact rfl|refine aa (v:=.bool false) ?_|(first|(refine ae ?_ (hfe _) ?_)|(refine ab ?_ (fun _=>hfe _) ?_))|refine Ai (by omega) ?_
   all_goals ((refine Fin.give [(q,none)] [] ?_ ?_ ?_ ?_ ?_ (aL ho (by simp[aP,tgt]))<;>(try simp only[zF,al,hq,z0,dx,ai,seval,ah])<;>(try simp only[ap])<;>(try omega)))
def ry (s:List UInt8)(hs:s.length<=1000000)(hn:fy s=none)(q:Nat)(M:am)(nm:Nat)(hq:M q=some (bV s))(ho:∀ z,(M z).isSome=true->z∈[q])(hqn:q<nm) :
  yT cx 181 nm [.ptr q 0 0] M C3:=by
 have hfl:=GM hn
 unfold bV at hq
 refine jz rfl bM rfl call181 func181 rfl mixed (by kernel_rfl) rfl ?_;intro b0 hb0;have zF:=Ai results181 ntmps181
 have lq:=aB hb0 hq
 have z0:=aD lq
 repeat' first|simp only[ak,ag,zF,al,ai,seval,ah]|exact rfl|refine aa (v:=.any) ?_|((first|apply Ca|apply Cb)<;>intro hb)|refine Ai (by omega) ?_|(apply Ai<;>intro hb)
 (refine aQ bM (fun x:Nat=>s.length-x) (fun x=>x<=s.length/\(∀ c∈s.take x,fD c=true)) (b0+16) (fun x=>[(0,.ptr q 0 0),(3,.int .i64 x)]) (fun x=>[(q,⟨1,[[.str s]]⟩)]) (0) [some q] ?_ ?_ ?_ ?_;rotate_left 1;(focus (show b0<=_;omega));(focus (refine⟨?_,?_⟩<;>(try simp only[aX,hq,z0,ai,seval,ah,ap])<;>(try omega)));rotate_left 1)
 ·exact⟨Nat.zero_le _,by simp⟩
 ·rintro x ⟨h1,h2⟩
  have hend:∀(hx:∀ c,s[x]? = some c->fD c=false),s.take x=jW s/\s.drop x=u4 s:=fun hx=>⟨(sQ h2 hx).1.symm,(sQ h2 hx).2.symm⟩
  have h1':(x:Int)<=(s.length:Int):=by omega
  by_cases hx:x<s.length
  ·obtain⟨c,hc⟩:∃ c,s[x]? = some c:=⟨_,List.getElem?_eq_getElem hx⟩
   have hx':decide ((x:Int)<(s.length:Int))=true:=bR
   have hpe:=yq c false
   have q58:((c.toNat:Int)==58)=decide (c=58):=gE c 58
   have hwx:IntKind.i64.wrap ((x:Int)+1)=((x+1:Nat):Int):=bd
   have hwc:fD c=(jQ false c||decide (c=58)):=by unfold fD;congr 1
   have hgo:∀(hp:fD c=true),x+1<=s.length /\ ∀ c∈s.take (x+1),fD c=true:=fun hp=>⟨by omega,xa h2 hc hp⟩
   cases hp:jQ false c<;>cases h58:decide (c=58)<;>rw[hp,h58]at hwc<;>rw[hp]at hpe<;>rw[h58]at q58
   ·have he:=hend (fun d hd=>by rw[hc]at hd;cases hd;exact hwc)
    have hfe:=jf (jW s) (by unfold bc;rw[<- he.1,List.length_take];omega)
    rw[hfl]at hfe
    have e1:s.take x=jW s:=he.1
    repeat' first|simp only[ak,ag,zF,al,hc,hx',h1,h1',hx,q58,e1,aF,aG,ax,aA,av,bg,ai,seval,ah]|exact rfl|refine aa (v:=.any) ?_|(first|(refine ae ?_ (hfe _) ?_)|(refine ab ?_ (fun _=>hfe _) ?_)|(refine ae ?_ (hpe _) ?_)|(refine ab ?_ (fun _=>hpe _) ?_))|(refine aa (v:=.any) ?_)|(refine cW rfl [q] (ia q _ _) ?_)|refine Ai (by omega) ?_
   ·repeat' first|simp only[ak,ag,zF,al,hc,hx',h1,h1',hx,q58,hwx,ai,seval,ah]|exact rfl|refine aa (v:=.any) ?_|(first|(refine ae ?_ (hpe _) ?_)|(refine ab ?_ (fun _=>hpe _) ?_))|(refine aa (v:=.any) ?_)|refine Ai (by omega) ?_
    all_goals ((refine aC bM (x+1) [some q] ?_ ?_ ?_ ?_;rotate_left 2;(focus (show b0<=_;omega));(focus (refine⟨?_,?_⟩<;>(try simp only[aX,hq,z0,ai,seval,ah,ap])<;>(try omega)))))
    all_goals (first|(show s.length-(x+1)<s.length-x;omega)|exact hgo hwc|skip)
   ·repeat' first|simp only[ak,ag,zF,al,hc,hx',h1,h1',hx,q58,hwx,ai,seval,ah]|exact rfl|refine aa (v:=.any) ?_|(first|(refine ae ?_ (hpe _) ?_)|(refine ab ?_ (fun _=>hpe _) ?_))|(refine aa (v:=.any) ?_)|refine Ai (by omega) ?_
    all_goals ((refine aC bM (x+1) [some q] ?_ ?_ ?_ ?_;rotate_left 2;(focus (show b0<=_;omega));(focus (refine⟨?_,?_⟩<;>(try simp only[aX,hq,z0,ai,seval,ah,ap])<;>(try omega)))))
    all_goals (first|(show s.length-(x+1)<s.length-x;omega)|exact hgo hwc|skip)
   ·repeat' first|simp only[ak,ag,zF,al,hc,hx',h1,h1',hx,q58,hwx,ai,seval,ah]|exact rfl|refine aa (v:=.any) ?_|(first|(refine ae ?_ (hpe _) ?_)|(refine ab ?_ (fun _=>hpe _) ?_))|(refine aa (v:=.any) ?_)|refine Ai (by omega) ?_
    all_goals ((refine aC bM (x+1) [some q] ?_ ?_ ?_ ?_;rotate_left 2;(focus (show b0<=_;omega));(focus (refine⟨?_,?_⟩<;>(try simp only[aX,hq,z0,ai,seval,ah,ap])<;>(try omega)))))
    all_goals (first|(show s.length-(x+1)<s.length-x;omega)|exact hgo hwc|skip)
  ·have hx':decide ((x:Int)<(s.length:Int))=false:=bm
   have hxe:s[x]? = none:=List.getElem?_eq_none (by omega)
   have he:=hend (fun d hd=>by rw[hxe]at hd;cases hd)
   have hfe:=jf (jW s) (by unfold bc;rw[<- he.1,List.length_take];omega)
   rw[hfl]at hfe
   have e1:s.take x=jW s:=he.1
   repeat' first|simp only[ak,ag,zF,al,hxe,hx',h1,h1',hx,e1,aF,aG,ax,aA,av,bg,ai,seval,ah]|exact rfl|refine aa (v:=.bool false) ?_|(first|(refine ae ?_ (hfe _) ?_)|(refine ab ?_ (fun _=>hfe _) ?_))|(refine cW rfl [q] (ia q _ _) ?_)|refine Ai (by omega) ?_
def xB {d:UInt8}(hd:d.toNat<128):∀(zs:List Int) (a b:List UInt8),zs.all gV=true->enc zs=a++d::b->(dW a).isSome=true/\(dW b).isSome=true
 | [],a,b,_,h=>by
  have:=congrArg List.length h
  simp[enc]at this
 | z::zs,a,b,hm,h=>by
  simp only[List.all_cons,Bool.and_eq_true]at hm
  have e:enc (z::zs)=encodeRune z++enc zs:=by simp[enc]
  have e1:enc [z]=encodeRune z:=by simp[enc]
  have d1:dW (encodeRune z)=some [z]:=by rw[<- e1];exact fV [z] (by simp[hm.1])
  rw[e]at h
  rcases List.append_eq_append_iff.1 h with ⟨a',h1,h2⟩|⟨c',h1,h2⟩
  ·obtain⟨k1,k2⟩:=xB hd zs a' b hm.2 h2
   obtain⟨y,hy⟩:=Option.isSome_iff_exists.1 k1
   refine⟨?_,k2⟩
   rw[h1,tC d1 hy];rfl
  ·cases c' with
   | nil =>
    simp only[List.append_nil,List.nil_append]at h1 h2
    obtain⟨_,k2⟩:=xB hd zs [] b hm.2 (by rw[<- h2];rfl)
    refine⟨?_,k2⟩
    rw[<- h1,d1];rfl
   | cons c t =>
    simp only[List.cons_append,List.cons.injEq]at h2
    obtain⟨h2,h3⟩:=h2
    by_cases hz:z<128
    ·have hr:=fF hm.1
     rw[EE (by omega) hz]at h1
     cases a with
     | nil =>
      simp only[List.nil_append,List.cons.injEq]at h1
      rw[<- h1.2,List.nil_append]at h3
      exact⟨rfl,by rw[h3,fV zs hm.2];rfl⟩
     | cons a0 a1 =>
      have:=congrArg List.length h1
      simp at this
    ·have:=pG (z:=z) (by omega) d (by rw[h1,h2];simp)
     omega
def bX {d:UInt8}(hd:d.toNat<128){s a b:List UInt8}(h:(dW s).isSome=true)(he:s=a++d::b):(dW a).isSome=true/\(dW b).isSome=true:=by
 obtain⟨zs,hz⟩:=Option.isSome_iff_exists.1 h
 obtain⟨hm,h2⟩:=(lu s zs).1 hz
 exact xB hd zs a b hm (by rw[h2,he])
def dR (c d:UInt8)(t:List UInt8):preB (c::t) [d]=(c==d):=by
 unfold preB;simp
def wL (s v r:List UInt8)(hs:s.length<=16384)(hd:(dW s).isSome=true)(hv:iU s=some (v,r))(q:Nat)(M:am)(nm:Nat)(hq:M q=some (bV s))(ho:∀ z,(M z).isSome=true->z∈[q])(hqn:q<nm) :
  Ev cx 184 nm [.ptr q 0 0] M (.str v) [(q,some (bV r))]:=by
 obtain⟨a,h1,h2⟩:=l7 hv
 obtain⟨k,hk,rfl,hka⟩:=lP h1
 have e1:∀(k:UInt8) (t:List UInt8) (y:Bool),t.length<=20000->preB t [k]=y -> ∀(M':am) (n':Nat),M' q=some ⟨1,[[.str t]]⟩->(∀ z,(M' z).isSome=true->z∈[q])->q<n'->Ev cx 145 n' [.ptr q 0 0,.str [k]] M' (.bool y) [(q,some ⟨1,[[.str (if y then t.drop 1 else t)]]⟩)]:=by
  intro k t y ht hy M' n' h1 h2 h3
  have:=B8 t [k] (by unfold bc;omega) (by simp[bc]) q M' n' h1 h2 h3
  rw[hy]at this
  cases y<;>exact this
 have hla:a.length+r.length+2<=16384:=by simpa [Nat.add_assoc,Nat.add_comm,Nat.add_left_comm] using hs
 have hk128:k.toNat<128:=by rcases hk with rfl|rfl<;>decide
 obtain⟨_,hd2⟩:=bX hk128 (a:=[]) hd rfl
 obtain⟨hda,hdr⟩:=bX hk128 hd2 rfl
 have hcv:=oL (a++k::r) k (by simp[bc];omega)
 have ecv:gZ k (a++k::r) = .tup [.str a,.str r,.bool true]:=by unfold gZ;rw[nD hka]
 rw[ecv]at hcv
 have hmp:=JP a (by omega) hda
 unfold Ej at hmp
 have hg:=sC (a.map cH) (by rw[Lm];unfold bc;omega)
 rw[qN (c6.2 ⟨by rw[Lm];omega,zt hda⟩) h2]at hg
 unfold bV at hq ⊢
 rcases hk with rfl|rfl
 ·have p1:=e1 39 (39::(a++39::r)) true (by simp;omega) (dR _ _ _)
  simp only[if_true,List.drop_succ_cons,List.drop_zero]at p1
  refine bh call184 func184 rfl (by kernel_rfl) rfl ?_;intro b0 hb0;have zF:=Ai results184 ntmps184
  have lq:=aB hb0 hq
  have z0:=aD lq
  repeat' first|simp only[ak,ag,zF,al,hq,z0,ai,seval,ah]|exact rfl|refine aa (v:=.any) ?_|(first|(refine ae ?_ (hcv _) ?_)|(refine ab ?_ (fun _=>hcv _) ?_)|(refine ae ?_ (hmp _) ?_)|(refine ab ?_ (fun _=>hmp _) ?_)|(refine ae ?_ (hg _) ?_)|(refine ab ?_ (fun _=>hg _) ?_))|(refine ac ?_ [q] (p1 _ _ ?_ aj (by omega)) ?_ ?_)|((first|apply Ca|apply Cb)<;>intro hb)|refine Ai (by omega) ?_|(apply Ai<;>intro hb)
  all_goals ((refine Fin.give [(q,none)] [] ?_ ?_ ?_ ?_ ?_ (aL ho (by simp[aP,tgt]))<;>(try simp only[zF,al,hq,z0,dx,ai,seval,ah])<;>(try simp only[ap])<;>(try omega)))
 ·have p1:=e1 39 (34::(a++34::r)) false (by simp;omega) (dR _ _ _)
  have p2:=e1 34 (34::(a++34::r)) true (by simp;omega) (dR _ _ _)
  simp only[if_true,Bool.false_eq_true,if_false,List.drop_succ_cons,List.drop_zero]at p1 p2
  refine bh call184 func184 rfl (by kernel_rfl) rfl ?_;intro b0 hb0;have zF:=Ai results184 ntmps184
  have lq:=aB hb0 hq
  have z0:=aD lq
  repeat' first|simp only[zF,al,hq,z0,ai,seval,ah]|exact rfl|((first|(refine ae ?_ (hcv _) ?_)|(refine ab ?_ (fun _=>hcv _) ?_)|(refine ae ?_ (hmp _) ?_)|(refine ab ?_ (fun _=>hmp _) ?_)|(refine ae ?_ (hg _) ?_)|(refine ab ?_ (fun _=>hg _) ?_));(focus (simp only[zF,al,hq,z0,ai,seval,ah]<;>exact rfl)))|((refine ac ?_ [q] (p1 _ _ ?_ aj (by omega)) ?_ ?_);iterate 3 (focus (simp only[ag,zF,al,hq,z0,ai,seval,ah]<;>exact rfl)))|((refine ac ?_ [q] (p2 _ _ ?_ aj (by omega)) ?_ ?_);iterate 3 (focus (simp only[ag,zF,al,hq,z0,ai,seval,ah]<;>exact rfl)))|((first|apply Ca|apply Cb)<;>intro hb)|refine Ai (by omega) ?_|(apply Ai<;>intro hb)
  all_goals ((refine Fin.give [(q,none)] [] ?_ ?_ ?_ ?_ ?_ (aL ho (by simp[aP,tgt]))<;>(try simp only[zF,al,hq,z0,dx,ai,seval,ah])<;>(try simp only[ap])<;>(try omega)))
def Dl (s:List UInt8)(hs:s.length<=16384)(hd:(dW s).isSome=true)(hv:iU s=none)(q:Nat)(M:am)(nm:Nat)(hq:M q=some (bV s))(ho:∀ z,(M z).isSome=true->z∈[q])(hqn:q<nm) :
  yT cx 184 nm [.ptr q 0 0] M C3:=by
 have e1:∀(k:UInt8) (t:List UInt8) (y:Bool),t.length<=20000->preB t [k]=y -> ∀(M':am) (n':Nat),M' q=some ⟨1,[[.str t]]⟩->(∀ z,(M' z).isSome=true->z∈[q])->q<n'->Ev cx 145 n' [.ptr q 0 0,.str [k]] M' (.bool y) [(q,some ⟨1,[[.str (if y then t.drop 1 else t)]]⟩)]:=by
  intro k t y ht hy M' n' h1 h2 h3
  have:=B8 t [k] (by unfold bc;omega) (by simp[bc]) q M' n' h1 h2 h3
  rw[hy]at this
  cases y<;>exact this
 unfold bV at hq
 by_cases hk:∃ k t,s=k::t/\(k=39\/k=34)
 ·obtain⟨k,t,rfl,hk⟩:=hk
  have hk128:k.toNat<128:=by rcases hk with rfl|rfl<;>decide
  obtain⟨_,hd2⟩:=bX hk128 (a:=[]) hd rfl
  have hlt:t.length+1<=16384:=by simpa using hs
  have hcv:=oL t k (by unfold bc;omega)
  cases hc:ep k t with
  | none =>
   have ecv:gZ k t = .tup [.str t,.str [],.bool false]:=by unfold gZ;rw[hc]
   rw[ecv]at hcv
   rcases hk with rfl|rfl
   ·have p1:=e1 39 (39::t) true (by simp;omega) (dR _ _ _)
    simp only[if_true,List.drop_succ_cons,List.drop_zero]at p1
    refine jz rfl bM rfl call184 func184 rfl mixed (by kernel_rfl) rfl ?_;intro b0 hb0;have zF:=Ai results184 ntmps184
    have lq:=aB hb0 hq
    have z0:=aD lq
    repeat' first|simp only[ak,ag,zF,al,hq,z0,aF,aG,ax,aA,av,bg,ai,seval,ah]|exact rfl|refine aa (v:=.any) ?_|(first|(refine ae ?_ (hcv _) ?_)|(refine ab ?_ (fun _=>hcv _) ?_))|(refine ac ?_ [q] (p1 _ _ ?_ aj (by omega)) ?_ ?_)|(refine cW rfl [q] (ia q _ _) ?_)|((first|apply Ca|apply Cb)<;>intro hb)|refine Ai (by omega) ?_|(apply Ai<;>intro hb)
   ·have p1:=e1 39 (34::t) false (by simp;omega) (dR _ _ _)
    have p2:=e1 34 (34::t) true (by simp;omega) (dR _ _ _)
    simp only[if_true,Bool.false_eq_true,if_false,List.drop_succ_cons,List.drop_zero]at p1 p2
    refine jz rfl bM rfl call184 func184 rfl mixed (by kernel_rfl) rfl ?_;intro b0 hb0;have zF:=Ai results184 ntmps184
    have lq:=aB hb0 hq
    have z0:=aD lq
    repeat' first|simp only[zF,al,hq,z0,aF,aG,ax,aA,av,bg,ai,seval,ah]|exact rfl|((first|(refine ae ?_ (hcv _) ?_)|(refine ab ?_ (fun _=>hcv _) ?_));(focus (simp only[zF,al,hq,z0,aF,aG,ax,aA,av,bg,ai,seval,ah]<;>exact rfl)))|((refine ac ?_ [q] (p1 _ _ ?_ aj (by omega)) ?_ ?_);iterate 3 (focus (simp only[ag,zF,al,hq,z0,aF,aG,ax,aA,av,bg,ai,seval,ah]<;>exact rfl)))|((refine ac ?_ [q] (p2 _ _ ?_ aj (by omega)) ?_ ?_);iterate 3 (focus (simp only[ag,zF,al,hq,z0,aF,aG,ax,aA,av,bg,ai,seval,ah]<;>exact rfl)))|(refine cW rfl [q] (ia q _ _) ?_)|((first|apply Ca|apply Cb)<;>intro hb)|refine Ai (by omega) ?_|(apply Ai<;>intro hb)
  | some p =>
   obtain⟨a,r⟩:=p
   have ecv:gZ k t = .tup [.str a,.str r,.bool true]:=by unfold gZ;rw[hc]
   rw[ecv]at hcv
   obtain⟨he,hka⟩:=fb hc
   obtain⟨hda,hdr⟩:=bX hk128 hd2 he
   have hla:a.length<=16384:=by
    have:=congrArg List.length he
    simp at this;omega
   have hto:bY (a.map cH)=none:=by
    unfold iU at hv
    rw[uA,if_pos hk,hc]at hv
    simpa [Ba] using hv
   have hmp:=JP a (by omega) hda
   unfold Ej at hmp
   have hg:=sC (a.map cH) (by rw[Lm];unfold bc;omega)
   rw[kN (c6.2 ⟨by rw[Lm];omega,zt hda⟩) hto]at hg
   rcases hk with rfl|rfl
   ·have p1:=e1 39 (39::t) true (by simp;omega) (dR _ _ _)
    simp only[if_true,List.drop_succ_cons,List.drop_zero]at p1
    refine jz rfl bM rfl call184 func184 rfl mixed (by kernel_rfl) rfl ?_;intro b0 hb0;have zF:=Ai results184 ntmps184
    have lq:=aB hb0 hq
    have z0:=aD lq
    repeat' first|simp only[ak,ag,zF,al,hq,z0,aF,aG,ax,aA,av,bg,ai,seval,ah]|exact rfl|refine aa (v:=.any) ?_|(first|(refine ae ?_ (hcv _) ?_)|(refine ab ?_ (fun _=>hcv _) ?_)|(refine ae ?_ (hmp _) ?_)|(refine ab ?_ (fun _=>hmp _) ?_)|(refine ae ?_ (hg _) ?_)|(refine ab ?_ (fun _=>hg _) ?_))|(refine ac ?_ [q] (p1 _ _ ?_ aj (by omega)) ?_ ?_)|(refine cW rfl [q] (ia q _ _) ?_)|((first|apply Ca|apply Cb)<;>intro hb)|refine Ai (by omega) ?_|(apply Ai<;>intro hb)
   ·have p1:=e1 39 (34::t) false (by simp;omega) (dR _ _ _)
    have p2:=e1 34 (34::t) true (by simp;omega) (dR _ _ _)
    simp only[if_true,Bool.false_eq_true,if_false,List.drop_succ_cons,List.drop_zero]at p1 p2
    refine jz rfl bM rfl call184 func184 rfl mixed (by kernel_rfl) rfl ?_;intro b0 hb0;have zF:=Ai results184 ntmps184
    have lq:=aB hb0 hq
    have z0:=aD lq
    repeat' first|simp only[zF,al,hq,z0,aF,aG,ax,aA,av,bg,ai,seval,ah]|exact rfl|((first|(refine ae ?_ (hcv _) ?_)|(refine ab ?_ (fun _=>hcv _) ?_)|(refine ae ?_ (hmp _) ?_)|(refine ab ?_ (fun _=>hmp _) ?_)|(refine ae ?_ (hg _) ?_)|(refine ab ?_ (fun _=>hg _) ?_));(focus (simp only[zF,al,hq,z0,aF,aG,ax,aA,av,bg,ai,seval,ah]<;>exact rfl)))|((refine ac ?_ [q] (p1 _ _ ?_ aj (by omega)) ?_ ?_);iterate 3 (focus (simp only[ag,zF,al,hq,z0,aF,aG,ax,aA,av,bg,ai,seval,ah]<;>exact rfl)))|((refine ac ?_ [q] (p2 _ _ ?_ aj (by omega)) ?_ ?_);iterate 3 (focus (simp only[ag,zF,al,hq,z0,aF,aG,ax,aA,av,bg,ai,seval,ah]<;>exact rfl)))|(refine cW rfl [q] (ia q _ _) ?_)|((first|apply Ca|apply Cb)<;>intro hb)|refine Ai (by omega) ?_|(apply Ai<;>intro hb)
 ·have hn:∀ k:UInt8,k=39\/k=34->preB s [k]=false:=by
   intro k hk2
   cases s with
   | nil=>rfl
   | cons c t =>
    rw[dR]
    refine beq_false_of_ne (fun e=>hk ⟨c,t,rfl,?_⟩)
    rw[e];exact hk2
  have p1:=e1 39 s false (by omega) (hn 39 (.inl rfl))
  have p2:=e1 34 s false (by omega) (hn 34 (.inr rfl))
  simp only[Bool.false_eq_true,if_false]at p1 p2
  refine jz rfl bM rfl call184 func184 rfl mixed (by kernel_rfl) rfl ?_;intro b0 hb0;have zF:=Ai results184 ntmps184
  have lq:=aB hb0 hq
  have z0:=aD lq
  repeat' first|simp only[zF,al,hq,z0,aF,aG,ax,aA,av,bg,ai,seval,ah]|exact rfl|((refine ac ?_ [q] (p1 _ _ ?_ aj (by omega)) ?_ ?_);iterate 3 (focus (simp only[ag,zF,al,hq,z0,aF,aG,ax,aA,av,bg,ai,seval,ah]<;>exact rfl)))|((refine ac ?_ [q] (p2 _ _ ?_ aj (by omega)) ?_ ?_);iterate 3 (focus (simp only[ag,zF,al,hq,z0,aF,aG,ax,aA,av,bg,ai,seval,ah]<;>exact rfl)))|(refine cW rfl [q] (ia q _ _) ?_)|((first|apply Ca|apply Cb)<;>intro hb)|refine Ai (by omega) ?_|(apply Ai<;>intro hb)
end Go.Proofs.YtlnlopnpcmahgaaGreatDoor
namespace Go.Proofs.YtlnlopnpcmahgaaGreatDoor
set_option maxRecDepth 100000
set_option maxHeartbeats 32000000
open Go Go.RowKit Go.Lib
def tI {p:UInt8->Bool}(hp:∀ c,p c=true->c.toNat<128):∀ s:List UInt8,(dW s).isSome=true->(dW (s.dropWhile p)).isSome=true
 | [],h=>h
 | c::s,h=>by
  rw[List.dropWhile_cons]
  by_cases hc:p c=true
  ·rw[if_pos hc]
   exact tI hp s (bX (hp c hc) (a:=[]) h rfl).2
  ·rw[if_neg hc];exact h
def Fs:∀ c:UInt8,iR c=true->c.toNat<128:=by
 have key:∀ n:Fin 256,iR (UInt8.ofNat n.val)=true->n.val<128:=by decide +kernel
 intro c hc
 have:=key ⟨c.toNat,c.toNat_lt⟩ (by simpa using hc)
 exact this
def LM:∀ c:UInt8,fD c=true->c.toNat<128:=by
 have key:∀ n:Fin 256,fD (UInt8.ofNat n.val)=true->n.val<128:=by decide +kernel
 intro c hc
 have:=key ⟨c.toNat,c.toNat_lt⟩ (by simpa using hc)
 exact this
def dN {s:List UInt8}(h:(dW s).isSome=true):(dW (be s)).isSome=true:=tI Fs s h
def iK {s n r:List UInt8}(h:(dW s).isSome=true)(hn:fy s=some (n,r)):(dW r).isSome=true:=by
 rw[<-(wA hn).2.1]
 exact tI LM s h
def HQ {s v r:List UInt8}(h:(dW s).isSome=true)(hv:iU s=some (v,r)):(dW r).isSome=true:=by
 obtain⟨a,h1,_⟩:=l7 hv
 obtain⟨k,hk,rfl,_⟩:=lP h1
 have hk128:k.toNat<128:=by rcases hk with rfl|rfl<;>decide
 exact(bX hk128 (a:=k::a) h rfl).2
def tc {s r:List UInt8}{a:Pr}(h:(dW s).isSome=true)(ha:gS s=some (a,r)):(dW r).isSome=true:=by
 obtain⟨r1,t,h1,h2,h3⟩:=nB ha
 have d1:=dN (iK h h1)
 rw[h2]at d1
 have d2:=(bX (d:=61) (by decide) (a:=[]) d1 rfl).2
 exact HQ (dN d2) h3
def uT {s:List UInt8}(h:(dW s).isSome=true):(dW (cP s)).isSome=true/\(dW (gP s)).isSome=true:=by
 have e:s=cP s++gP s:=(List.takeWhile_append_dropWhile).symm
 cases hr:gP s with
 | nil =>
  rw[hr,List.append_nil]at e
  rw[<- e];exact⟨h,rfl⟩
 | cons c t =>
  have hc:ku c=false:=by
   have:=List.head?_dropWhile_not ku s
   unfold gP at hr
   rw[hr]at this
   simpa using this
  have hc60:c=60:=by simpa [ku] using hc
  rw[hr]at e
  subst hc60
  obtain⟨h1,h2⟩:=bX (d:=60) (by decide) h e
  refine⟨h1,?_⟩
  have d60:dW [60]=some [60]:=by decide +kernel
  obtain⟨y,hy⟩:=Option.isSome_iff_exists.1 h2
  rw[show(60:UInt8)::t=[60]++t from rfl,tC d60 hy];rfl
end Go.Proofs.YtlnlopnpcmahgaaGreatDoor
namespace Go.Proofs.YtlnlopnpcmahgaaGreatDoor
set_option maxRecDepth 100000
set_option maxHeartbeats 32000000
open Go Go.RowKit Vm Go.Lib Tryz
open Vm renaming aW->Ca,bf->Cb
open And renaming intro->Ai
open List renaming length_map->Lm,not_mem_nil->Ln,map_nil->Lo,map_cons->Lc,mem_cons->Lk
open Bool renaming not_false->Bf,not_true->Bt
def da (s p:List UInt8)(y:Bool)(hs:s.length<=20000)(hp:p.length<=100)(hy:preB s p=y)(q:Nat)(M:am)(nm:Nat)(hq:M q=some ⟨1,[[.str s]]⟩)(ho:∀ z,(M z).isSome=true->z∈[q])(hqn:q<nm) :
  Ev cx 145 nm [.ptr q 0 0,.str p] M (.bool y) [(q,some ⟨1,[[.str (if y then s.drop p.length else s)]]⟩)]:=by
 have:=B8 s p (by unfold bc;omega) (by unfold bc;omega) q M nm hq ho hqn
 rw[hy]at this
 cases y<;>exact this
def e9 {c:UInt8}{s:List UInt8} : preB s [c]=(bZ c s).isSome:=by
 cases s with
 | nil=>rfl
 | cons d t =>
  rw[dR,jv]
  by_cases h:d=c
  ·rw[if_pos h,h];simp
  ·rw[if_neg h];simpa using h
def Oa (s t n r r2:List UInt8)(hs:s.length<=16384)(h1:bZ 47 s=some t)(h2:fy t=some (n,r))(h3:bZ 62 (be r)=some r2)(q:Nat)(M:am)(nm:Nat)(hq:M q=some (bV s))(ho:∀ z,(M z).isSome=true->z∈[q])(hqn:q<nm) :
  Ev cx 146 nm [.ptr q 0 0] M (.agg [.int .u8 2,.str n,.nils,.str []]) [(q,some (bV r2))]:=by
 obtain rfl:=b6 h1
 have hk:=b6 h3
 have l1:t.length+1<=16384:=by simpa using hs
 obtain⟨_,_,_,l2⟩:=fX h2
 have l3:=dB r
 have p1:∀(M':am) (n':Nat),M' q=some ⟨1,[[.str (47::t)]]⟩->(∀ z,(M' z).isSome=true->z∈[q])->q<n'->Ev cx 145 n' [.ptr q 0 0,.str [47]] M' (.bool true) [(q,some ⟨1,[[.str t]]⟩)]:=fun M' n' a b c=>by
  have:=da (47::t) [47] true (by omega) (by decide) (by rw[dR];rfl) q M' n' a b c
  exact this
 have p2:∀(M':am) (n':Nat),M' q=some ⟨1,[[.str (be r)]]⟩->(∀ z,(M' z).isSome=true->z∈[q])->q<n'->Ev cx 145 n' [.ptr q 0 0,.str [62]] M' (.bool true) [(q,some ⟨1,[[.str r2]]⟩)]:=fun M' n' a b c=>by
  rw[hk]at a l3
  have:=da (62::r2) [62] true (by omega) (by decide) (by rw[dR];rfl) q M' n' a b c
  exact this
 have hn:=ld t n r (by omega) h2
 have hsk:=kr r (by unfold bc;omega)
 unfold bV at hq hn hsk ⊢
 refine bh call146 func146 rfl (by kernel_rfl) rfl ?_;intro b0 hb0;have zF:=Ai results146 ntmps146
 have lq:=aB hb0 hq
 have z0:=aD lq
 repeat' first|simp only[zF,al,hq,z0,ai,seval,ah]|exact rfl|((first|(refine ac ?_ [q] (p1 _ _ ?_ aj (by omega)) ?_ ?_)|(refine ac ?_ [q] (hn q _ _ ?_ aj (by omega)) ?_ ?_)|(refine ac ?_ [q] (hsk q _ _ ?_ aj (by omega)) ?_ ?_));iterate 3 (focus (simp only[ag,zF,al,hq,z0,ai,seval,ah]<;>exact rfl)))|((refine ac ?_ [q] (p2 _ _ ?_ aj (by omega)) ?_ ?_);iterate 3 (focus (simp only[ag,zF,al,hq,z0,ai,seval,ah]<;>exact rfl)))|((first|apply Ca|apply Cb)<;>intro hb)|refine Ai (by omega) ?_|(apply Ai<;>intro hb)
 all_goals ((refine Fin.give [(q,none)] [] ?_ ?_ ?_ ?_ ?_ (aL ho (by simp[aP,tgt]))<;>(try simp only[zF,al,hq,z0,dx,ai,seval,ah])<;>(try simp only[ap])<;>(try omega)))
def KU (s t:List UInt8)(hs:s.length<=16384)(h1:bZ 47 s=some t)(hno:uQ s=none)(q:Nat)(M:am)(nm:Nat)(hq:M q=some (bV s))(ho:∀ z,(M z).isSome=true->z∈[q])(hqn:q<nm) :
  yT cx 146 nm [.ptr q 0 0] M C3:=by
 obtain rfl:=b6 h1
 have l1:t.length+1<=16384:=by simpa using hs
 have p1:∀(M':am) (n':Nat),M' q=some ⟨1,[[.str (47::t)]]⟩->(∀ z,(M' z).isSome=true->z∈[q])->q<n'->Ev cx 145 n' [.ptr q 0 0,.str [47]] M' (.bool true) [(q,some ⟨1,[[.str t]]⟩)]:=fun M' n' a b c=>by
  have:=da (47::t) [47] true (by omega) (by decide) (by rw[dR];rfl) q M' n' a b c
  exact this
 unfold bV at hq
 cases h2:fy t with
 | none =>
  have hn:=ry t (by omega) h2
  unfold bV at hn
  refine jz rfl bM rfl call146 func146 rfl mixed (by kernel_rfl) rfl ?_;intro b0 hb0
  have lq:=aB hb0 hq
  have z0:=aD lq
  repeat' first|simp only[results146,ntmps146,al,hq,z0,aF,aG,ax,aA,av,bg,ai,seval,ah]|exact rfl|((refine ac ?_ [q] (p1 _ _ ?_ aj (by omega)) ?_ ?_);iterate 3 (focus (simp only[ag,results146,ntmps146,al,hq,z0,aF,aG,ax,aA,av,bg,ai,seval,ah]<;>exact rfl)))|((first|apply Ca|apply Cb)<;>intro hb)|refine Ai (by omega) ?_|(apply Ai<;>intro hb)
  refine cW rfl [q] (hn q _ _ ?_ aj (by omega)) ?_
  ·simp only[ag,al,hq,z0,ai,seval,ah]<;>exact rfl
  ·simp only[ax,aA,av,bg,C3]
 | some p =>
  obtain⟨n,r⟩:=p
  obtain⟨_,_,_,l2⟩:=fX h2
  have l3:=dB r
  have h3:bZ 62 (be r)=none:=by
   unfold uQ at hno
   rw[h1]at hno
   simp only[h2,Option.bind_some,Option.map_eq_none_iff]at hno
   exact hno
  have hn:=ld t n r (by omega) h2
  have hsk:=kr r (by unfold bc;omega)
  have p2:=da (be r) [62] false (by omega) (by decide) (by rw[e9,h3];rfl)
  simp only[Bool.false_eq_true,if_false]at p2
  unfold bV at hn hsk
  refine jz rfl bM rfl call146 func146 rfl mixed (by kernel_rfl) rfl ?_;intro b0 hb0
  have lq:=aB hb0 hq
  have z0:=aD lq
  repeat' first|simp only[results146,ntmps146,al,hq,z0,aF,aG,ax,aA,av,bg,ai,seval,ah]|exact rfl|((first|(refine ac ?_ [q] (p1 _ _ ?_ aj (by omega)) ?_ ?_)|(refine ac ?_ [q] (hn q _ _ ?_ aj (by omega)) ?_ ?_)|(refine ac ?_ [q] (hsk q _ _ ?_ aj (by omega)) ?_ ?_));iterate 3 (focus (simp only[ag,results146,ntmps146,al,hq,z0,aF,aG,ax,aA,av,bg,ai,seval,ah]<;>exact rfl)))|((refine ac ?_ [q] (p2 q _ _ ?_ aj (by omega)) ?_ ?_);iterate 3 (focus (simp only[ag,results146,ntmps146,al,hq,z0,aF,aG,ax,aA,av,bg,ai,seval,ah]<;>exact rfl)))|(refine cW rfl [q] (ia q _ _) ?_)|((first|apply Ca|apply Cb)<;>intro hb)|refine Ai (by omega) ?_|(apply Ai<;>intro hb)
def Gt (o:Option Nat):Int:=match o with|some n=>n|none=>-1
def cq (n:Nat):Gt (some n)=n:=rfl
def eH:Gt none = -1:=rfl
def mV {α:Type}{p:α->Bool} : ∀ {l:List α} {k:Nat} {x:α},(l.take k).any p=false->l[k]? = some x->p x=true->l.findIdx? p=some k
 | [],k,x,_,h,_=>by simp at h
 | y::l,0,x,_,h,hp=>by simp at h;subst h;simp[List.findIdx?_cons,hp]
 | y::l,k+1,x,hn,h,hp=>by
  simp only[List.take_succ_cons,List.any_cons,Bool.or_eq_false_iff]at hn
  rw[List.findIdx?_cons,hn.1]
  simp[mV (l:=l) (k:=k) (x:=x) hn.2 (by simpa using h) hp]
def jD {α:Type}{p:α->Bool}{l:List α}(h:l.any p=false):l.findIdx? p=none:=by
 simpa [List.findIdx?_eq_none_iff] using h
def sW {α:Type}{p:α->Bool}{l:List α}(h:l.findIdx? p=none):l.any p=false:=by
 simpa [List.findIdx?_eq_none_iff] using h
def sY {α:Type}{p:α->Bool}{l:List α}{n:Nat}(h:l.findIdx? p=some n):l.any p=true:=by
 cases ha:l.any p with
 | true=>rfl
 | false=>rw[jD ha]at h;cases h
def jo {caps:List V}(h:plainL caps=true)(O:List (Nat×Nat))(M:am):finL O M caps=caps:=(finL_plain O M caps h).1
def gp {caps:List V}(h:plainL caps=true)(O:List (Nat×Nat))(M:am):finLOk O M caps=True:=eq_true (finL_plain O M caps h).2
def CL (l:List Pr)(f:Nat)(caps:List V)(p:Pr->Bool)(hf:∀ h∈l,∀ nm,Ev cx f nm (.agg (c7 h)::caps) am.nil (.bool (p h)) [])(hn:l.length<=bc)(hpl:plainL caps=true)(nm:Nat):Ev cx 173 nm [.sl false 2 (l.map c7),.fn f caps] am.nil (.int .i64 (Gt (l.findIdx? p))) []:=by
 unfold bc at hn
 refine bh call173 func173 rfl (by kernel_rfl) rfl ?_;intro b0 hb0;have zF:=Ai results173 ntmps173
 repeat' first|simp only[ak,ag,zF,al,ai,seval,ah]|exact rfl|refine aa (v:=.any) ?_|((first|(refine aS (g:=?_) ?_ ?_)|(refine aM (g:=?_) ?_ ?_));rotate_left 1;(focus (simp only[zF,al,ai,seval,ah]<;>exact rfl)))|((first|apply Ca|apply Cb)<;>intro hb)|refine Ai (by omega) ?_|(apply Ai<;>intro hb)
 (refine aQ bM (fun x:Nat=>l.length-x) (fun x=>x<=l.length/\(l.take x).any p=false) (b0+16) (fun x=>[(0,.sl false 2 (l.map c7)),(1,.fn f caps),(7,.int .i64 l.length),(8,.int .i64 x)]) (fun x=>[]) (0) [] ?_ ?_ ?_ ?_;rotate_left 1;(focus (show b0<=_;omega));(focus (refine⟨?_,?_⟩<;>(try simp only[aX,Lm,ay,jo hpl,gp hpl,ai,seval,ah,ap])<;>(try omega)));rotate_left 1)
 ·exact⟨Nat.zero_le _,by simp⟩
 ·rintro k ⟨hk,hno⟩
  by_cases hlt:k<l.length
  ·obtain⟨h,hh⟩:∃ h,l[k]? = some h:=⟨_,List.getElem?_eq_getElem hlt⟩
   have hat:(l.map c7)[k]? = some (c7 h):=by rw[List.getElem?_map,hh];rfl
   have hd:decide (k<l.length)=true:=decide_eq_true hlt
   have hwk:IntKind.i64.wrap ((k:Int)+1)=((k+1:Nat):Int):=bd
   have hfh:=hf h (List.mem_of_getElem? hh)
   cases hp:p h with
   | true =>
    have hfd:=mV hno hh hp
    rw[hp]at hfh
    (repeat' first|simp only[ak,ag,zF,al,hat,c7,hlt,hd,hwk,hfd,cq,Lm,ai,seval,ah]|exact rfl|refine aa (v:=.any) ?_|refine eD (g:=f) (caps:=caps) (by simp only[zF,al,hat,c7,hlt,hd,hwk,hfd,cq,Lm,ai,seval,ah]<;>exact rfl) (by simp only[zF,al,hat,c7,hlt,hd,hwk,hfd,cq,Lm,ai,seval,ah]<;>exact rfl) (hfh _) ?_|((first|(refine aS (g:=?_) ?_ ?_)|(refine aM (g:=?_) ?_ ?_));rotate_left 1;(focus (simp only[zF,al,hat,c7,hlt,hd,hwk,hfd,cq,Lm,ai,seval,ah]<;>exact rfl)))|((first|apply Ca|apply Cb)<;>intro hb)|refine Ai (by omega) ?_|(apply Ai<;>intro hb)|refine Fin.pure ?_ ?_ ?_|simp only[ap])
   | false =>
    have hn':=gy (p:=p) hno hh hp
    rw[hp]at hfh
    repeat' first|simp only[ak,ag,zF,al,hat,c7,hlt,hd,hwk,Lm,ai,seval,ah]|exact rfl|refine aa (v:=.any) ?_|refine eD (g:=f) (caps:=caps) (by simp only[zF,al,hat,c7,hlt,hd,hwk,Lm,ai,seval,ah]<;>exact rfl) (by simp only[zF,al,hat,c7,hlt,hd,hwk,Lm,ai,seval,ah]<;>exact rfl) (hfh _) ?_|((first|(refine aS (g:=?_) ?_ ?_)|(refine aM (g:=?_) ?_ ?_));rotate_left 1;(focus (simp only[zF,al,hat,c7,hlt,hd,hwk,Lm,ai,seval,ah]<;>exact rfl)))|((first|apply Ca|apply Cb)<;>intro hb)|refine Ai (by omega) ?_|(apply Ai<;>intro hb)
    all_goals ((refine aC bM (k+1) [] ?_ ?_ ?_ ?_;rotate_left 2;(focus (show b0<=_;omega));(focus (refine⟨?_,?_⟩<;>(try simp only[aX,ay,jo hpl,gp hpl,hwk,ai,seval,ah,ap])<;>(try omega)))))
    all_goals (first|(show l.length-(k+1)<l.length-k;omega)|exact⟨hlt,hn'⟩|skip)
  ·have hke:k=l.length:=by omega
   subst hke
   rw[List.take_length]at hno
   have hfd:=jD hno
   have hd:decide (l.length<l.length)=false:=bm
   (repeat' first|simp only[ak,ag,zF,al,hd,hfd,eH,Lm,ai,seval,ah]|exact rfl|refine aa (v:=.any) ?_|((first|(refine aS (g:=?_) ?_ ?_)|(refine aM (g:=?_) ?_ ?_));rotate_left 1;(focus (simp only[zF,al,hd,hfd,eH,Lm,ai,seval,ah]<;>exact rfl)))|((first|apply Ca|apply Cb)<;>intro hb)|refine Ai (by omega) ?_|(apply Ai<;>intro hb)|refine Fin.pure ?_ ?_ ?_|simp only[ap])
def vo (l:List Pr)(f:Nat)(caps:List V)(p:Pr->Bool)(hf:∀ h∈l,∀ nm,Ev cx f nm (.agg (c7 h)::caps) am.nil (.bool (p h)) [])(hn:l.length<=bc)(hpl:plainL caps=true)(nm:Nat):Ev cx 132 nm [.sl false 2 (l.map c7),.fn f caps] am.nil (.bool (l.any p)) []:=by
 have hi:=CL l f caps p hf hn hpl
 cases h:l.findIdx? p with
 | none =>
  have ha:l.any p=false:=sW h
  rw[h]at hi
  refine bh call132 func132 rfl (by kernel_rfl) rfl ?_;intro b0 hb0
  (repeat' first|simp only[ak,ag,results132,ntmps132,al,ha,eH,ai,seval,ah]|exact rfl|refine aa (v:=.any) ?_|(first|(refine ae ?_ (hi _) ?_)|(refine ab ?_ (fun _=>hi _) ?_))|((first|apply Ca|apply Cb)<;>intro hb)|refine Ai (by omega) ?_|(apply Ai<;>intro hb)|refine Fin.pure ?_ ?_ ?_|simp only[ap])
 | some n =>
  have ha:l.any p=true:=sY h
  rw[h]at hi
  have hz:decide ((0:Int)<=(n:Int))=true:=bR
  refine bh call132 func132 rfl (by kernel_rfl) rfl ?_;intro b0 hb0
  (repeat' first|simp only[ak,ag,results132,ntmps132,al,ha,cq,hz,ai,seval,ah]|exact rfl|refine aa (v:=.any) ?_|(first|(refine ae ?_ (hi _) ?_)|(refine ab ?_ (fun _=>hi _) ?_))|((first|apply Ca|apply Cb)<;>intro hb)|refine Ai (by omega) ?_|(apply Ai<;>intro hb)|refine Fin.pure ?_ ?_ ?_|simp only[ap])
def On (a b:Pr)(nm:Nat):Ev cx 183 nm [.agg (c7 b),.rp (c7 a)] am.nil (.bool (a.name==b.name)) []:=by
 refine bh call183 func183 rfl (by kernel_rfl) rfl ?_;intro b0 hb0
 (repeat' first|simp only[ak,ag,results183,ntmps183,al,c7,ai,seval,ah]|exact rfl|refine aa (v:=.any) ?_|((first|apply Ca|apply Cb)<;>intro hb)|refine Ai (by omega) ?_|(apply Ai<;>intro hb)|refine Fin.pure ?_ ?_ ?_|simp only[ap])
def Bb (l:List Pr)(a:Pr)(hn:l.length<=bc)(nm:Nat):Ev cx 132 nm [.sl false 2 (l.map c7),.fn 183 [.rp (c7 a)]] am.nil (.bool (l.any fun b=>a.name==b.name)) [] :=
 vo l 183 [.rp (c7 a)] (fun b=>a.name==b.name) (fun b _ nm=>On a b nm) hn rfl nm
end Go.Proofs.YtlnlopnpcmahgaaGreatDoor
namespace Go.Proofs.YtlnlopnpcmahgaaGreatDoor
set_option maxRecDepth 100000
set_option maxHeartbeats 32000000
open Go Go.RowKit Go.Lib
def Ef {s:List UInt8}(h:preB s [62]=true):∃ t,s=62::t/\lA s=some (1,t):=by
 cases s with
 | nil=>cases h
 | cons c t =>
  rw[dR]at h
  obtain rfl:=eq_of_beq h
  exact⟨t,rfl,rfl⟩
def v9 {s:List UInt8}(h:preB s [47,62]=true):∃ t,s=47::62::t/\lA s=some (3,t):=by
 match s,h with
 | [],h=>cases h
 | [c],h=>simp[preB]at h
 | c::d::t,h =>
  simp[preB]at h
  obtain⟨rfl,rfl⟩:=h
  exact⟨t,rfl,rfl⟩
def zB {s:List UInt8}(h1:preB s [62]=false)(h2:preB s [47,62]=false):lA s=none:=by
 unfold lA
 split
 ·rw[dR]at h1;simp at h1
 ·simp[preB]at h2
 ·rfl
end Go.Proofs.YtlnlopnpcmahgaaGreatDoor
namespace Go.Proofs.YtlnlopnpcmahgaaGreatDoor
set_option maxRecDepth 100000
set_option maxHeartbeats 32000000
open Go Go.RowKit Vm Go.Lib Tryz
open Vm renaming aW->Ca,bf->Cb
open And renaming intro->Ai
open List renaming length_map->Lm,not_mem_nil->Ln,map_nil->Lo,map_cons->Lc,mem_cons->Lk
open Bool renaming not_false->Bf,not_true->Bt
structure TSt where
 l:List Pr
 rest:List UInt8
def Oc (s n r0 r:List UInt8)(k:Nat)(l:List Pr)(hs:s.length<=16384)(hd:(dW s).isSome=true)(h1:bZ 47 s=none)(h2:fy s=some (n,r0))(h3:jT n [] r0=some (⟨k,n,l,[]⟩,r))(q:Nat)(M:am)(nm:Nat)(hq:M q=some (bV s))(ho:∀ z,(M z).isSome=true->z∈[q])(hqn:q<nm) :
    Ev cx 146 nm [.ptr q 0 0] M (.agg [.int .u8 k,.str n,.own nm 0 l.length,.str []]) [(q,some (bV r)),(nm,some ⟨2,l.map c7⟩)]:=by
  have p1:=da s [47] false (by omega) (by decide) (by rw[e9,h1];rfl)
  simp only[Bool.false_eq_true,if_false]at p1
  have hn:=ld s n r0 (by omega) h2
  obtain⟨_,_,_,l2⟩:=fX h2
  have hd0:=iK hd h2
  unfold bV at hq hn ⊢
  refine bh call146 func146 rfl (by kernel_rfl) rfl ?_;intro b0 hb0;have zF:=Ai results146 ntmps146
  have lq:=aB hb0 hq
  have z0:=aD lq
  repeat' first|simp only[zF,al,hq,z0,ai,seval,ah]|exact rfl|((first|(refine ac ?_ [q] (p1 q _ _ ?_ aj (by omega)) ?_ ?_)|(refine ac ?_ [q] (hn q _ _ ?_ aj (by omega)) ?_ ?_));iterate 3 (focus (simp only[ag,zF,al,hq,z0,ai,seval,ah]<;>exact rfl)))|((first|apply Ca|apply Cb)<;>intro hb)|refine Ai (by omega) ?_|(apply Ai<;>intro hb)
  (refine aQ bM (fun x:TSt=>x.rest.length) (fun x=>jT n x.l x.rest=some (⟨k,n,l,[]⟩,r)/\(dW x.rest).isSome=true/\x.rest.length+x.l.length<=16384) (b0+16) (fun x=>[(0,.ptr q 0 0),(2,.ptr b0 0 0)]) (fun x=>[(q,⟨1,[[.str x.rest]]⟩),(b0,⟨4,[[.int .u8 0,.str n,.own (b0+1) 0 x.l.length,.str []]]⟩),(b0+1,⟨2,x.l.map c7⟩)]) (⟨[],r0⟩) [some q,some b0,none] ?_ ?_ ?_ ?_;rotate_left 1;(focus (show b0<=_;omega));(focus (refine⟨?_,?_⟩<;>(try simp only[aX,hq,z0,aJ,Lo,List.length_nil,ai,seval,ah,ap])<;>(try omega)));rotate_left 1)
  · exact⟨h3,hd0,by show r0.length+0<=16384;omega⟩
  · rintro ⟨xl,xr⟩ ⟨g1,g2,g3⟩
    dsimp only at g1 g2 g3 ⊢
    have gl:=dB xr
    have hsk:=kr xr (by unfold bc;omega)
    unfold bV at hsk
    have hnl:(xl.map c7).length=xl.length:=Lm _
    by_cases e62:preB (be xr) [62]=true
    · obtain⟨t,ht,hen⟩:=Ef e62
      rw[lW hen]at g1
      simp only[Option.some.injEq,Prod.mk.injEq,Tk.mk.injEq,true_and,and_true]at g1
      obtain⟨⟨rfl,rfl⟩,rfl⟩:=g1
      have p62:=da (be xr) [62] true (by omega) (by decide) e62
      simp only[if_true,ht,List.drop_succ_cons,List.drop_zero,List.length_cons,List.length_nil]at p62 hsk
      repeat' first|simp only[zF,al,hq,z0,ai,seval,ah]|exact rfl|((first|(refine ac ?_ [q] (hsk q _ _ ?_ aj (by omega)) ?_ ?_)|(refine ac ?_ [q] (p62 q _ _ ?_ aj (by omega)) ?_ ?_));iterate 3 (focus (simp only[ag,zF,al,hq,z0,ai,seval,ah]<;>exact rfl)))|((first|apply Ca|apply Cb)<;>intro hb)|refine Ai (by omega) ?_|(apply Ai<;>intro hb)
      all_goals ((refine Fin.give [(q,none),(b0+1,some 0)] [] ?_ ?_ ?_ ?_ ?_ (aL ho (by simp[aP,tgt]))<;>(try simp only[zF,al,hq,ay,z0,dx,ai,seval,ah])<;>(try simp only[ap])<;>(try omega)))
    · have e62':preB (be xr) [62]=false:=by simpa using e62
      have p62:=da (be xr) [62] false (by omega) (by decide) e62'
      simp only[Bool.false_eq_true,if_false]at p62
      by_cases e47:preB (be xr) [47,62]=true
      · obtain⟨t,ht,hen⟩:=v9 e47
        rw[lW hen]at g1
        simp only[Option.some.injEq,Prod.mk.injEq,Tk.mk.injEq,true_and,and_true]at g1
        obtain⟨⟨rfl,rfl⟩,rfl⟩:=g1
        have p63:=da (be xr) [47,62] true (by omega) (by decide) e47
        simp only[if_true,ht,List.drop_succ_cons,List.drop_zero,List.length_cons,List.length_nil]at p62 p63 hsk
        repeat' first|simp only[zF,al,hq,z0,ai,seval,ah]|exact rfl|((first|(refine ac ?_ [q] (hsk q _ _ ?_ aj (by omega)) ?_ ?_)|(refine ac ?_ [q] (p62 q _ _ ?_ aj (by omega)) ?_ ?_));iterate 3 (focus (simp only[ag,zF,al,hq,z0,ai,seval,ah]<;>exact rfl)))|((refine ac ?_ [q] (p63 q _ _ ?_ aj (by omega)) ?_ ?_);iterate 3 (focus (simp only[ag,zF,al,hq,z0,ai,seval,ah]<;>exact rfl)))|((first|apply Ca|apply Cb)<;>intro hb)|refine Ai (by omega) ?_|(apply Ai<;>intro hb)
        all_goals ((refine Fin.give [(q,none),(b0+1,some 0)] [] ?_ ?_ ?_ ?_ ?_ (aL ho (by simp[aP,tgt]))<;>(try simp only[zF,al,hq,ay,z0,dx,ai,seval,ah])<;>(try simp only[ap])<;>(try omega)))
      · have e47':preB (be xr) [47,62]=false:=by simpa using e47
        have hen:=zB e62' e47'
        have p63:=da (be xr) [47,62] false (by omega) (by decide) e47'
        simp only[Bool.false_eq_true,if_false]at p63
        by_cases hgap:(be xr).length<xr.length
        · cases hat:gS (be xr) with
          | none=>rw[sO hen hat]at g1;cases g1
          | some p =>
            obtain⟨a,r'⟩:=p
            cases hany:(xl.any fun b=>a.name==b.name) with
            | true=>rw[nV hen hat hany]at g1;cases g1
            | false =>
              rw[nt hen hgap hat hany]at g1
              have hlt:=ln hat
              have g2':=tc (dN g2) hat
              obtain⟨r1,t,k1,k2,k3⟩:=nB hat
              have d1:=dN (iK (dN g2) k1)
              rw[k2]at d1
              have d2:=dN (bX (d:=61) (by decide) (a:=[]) d1 rfl).2
              obtain⟨_,_,_,m1⟩:=fX k1
              have m2:=dB r1
              have m3:=dB t
              rw[k2]at m2
              simp only[List.length_cons]at m2
              have hgd:decide ((be xr).length<xr.length)=true:=decide_eq_true hgap
              rw[hgd]at hsk
              have hn1:=ld (be xr) a.name r1 (by omega) k1
              have hsk1:=kr r1 (by unfold bc;omega)
              have hsk2:=kr t (by unfold bc;omega)
              rw[k2]at hsk1
              have p61:=da (61::t) [61] true (by simp;omega) (by decide) (by rw[dR];rfl)
              simp only[if_true,List.drop_succ_cons,List.drop_zero,List.length_cons,List.length_nil]at p61
              have htw:=Bb xl ⟨a.name,[]⟩ (by unfold bc;omega)
              simp only[hany,c7]at htw
              have hva:=wL (be t) a.value r' (by omega) d2 k3
              unfold bV at hn1 hsk1 hsk2 hva
              repeat' first|simp only[zF,al,ay,hq,c7,z0,Bt,Bf,Lm,ai,seval,ah]|exact rfl|((refine j6 (xs:=?_) [b0+1,b0+384] ?_ (fun _=>?_) (fun _=>?_) rfl ((fun _=>htw _)) ?_);rotate_left 1;iterate 3 (focus (simp only[ak,ag,zF,al,ay,hq,c7,z0,Bt,Bf,Lm,ai,seval,ah]<;>(first|exact rfl|omega))))|((first|(refine ac ?_ [q] (hsk q _ _ ?_ aj (by omega)) ?_ ?_)|(refine ac ?_ [q] (p62 q _ _ ?_ aj (by omega)) ?_ ?_)|(refine ac ?_ [q] (hn1 q _ _ ?_ aj (by omega)) ?_ ?_)|(refine ac ?_ [q] (hva q _ _ ?_ aj (by omega)) ?_ ?_));iterate 3 (focus (simp only[ag,zF,al,ay,hq,c7,z0,Bt,Bf,Lm,ai,seval,ah]<;>exact rfl)))|((first|(refine ac ?_ [q] (p63 q _ _ ?_ aj (by omega)) ?_ ?_)|(refine ac ?_ [q] (hsk1 q _ _ ?_ aj (by omega)) ?_ ?_));iterate 3 (focus (simp only[ag,zF,al,ay,hq,c7,z0,Bt,Bf,Lm,ai,seval,ah]<;>exact rfl)))|((first|(refine ac ?_ [q] (hsk2 q _ _ ?_ aj (by omega)) ?_ ?_)|(refine ac ?_ [q] (p61 q _ _ ?_ aj (by omega)) ?_ ?_));iterate 3 (focus (simp only[ag,zF,al,ay,hq,c7,z0,Bt,Bf,Lm,ai,seval,ah]<;>exact rfl)))|((first|apply Ca|apply Cb)<;>intro hb)|refine Ai (by omega) ?_|(apply Ai<;>intro hb)
              have hnx:xl.map c7++[[.str a.name,.str a.value]]=(xl++[a]).map c7:=by simp[c7]
              have hnn:(xl++[a]).length=xl.length+1:=by simp
              rw[hnx]
              all_goals ((refine aC bM (⟨xl++[a],r'⟩) [some q,some b0,some (b0+848)] ?_ ?_ ?_ ?_;rotate_left 2;(focus (show b0<=_;omega));(focus (refine⟨?_,?_⟩<;>(try simp only[aX,ay,hq,z0,hnn,Lm,ai,seval,ah,ap])<;>(try omega)))))
              all_goals (first|exact⟨g1,g2',by show r'.length+(xl++[a]).length<=16384;omega⟩|(show r'.length<xr.length;omega)|skip)
        · rw[lX hen hgap]at g1;cases g1
def Ha (s:List UInt8)(hs:s.length<=16384)(h1:bZ 47 s=none)(h2:fy s=none)(q:Nat)(M:am)(nm:Nat)(hq:M q=some (bV s))(ho:∀ z,(M z).isSome=true->z∈[q])(hqn:q<nm) :
  yT cx 146 nm [.ptr q 0 0] M C3:=by
 have p1:=da s [47] false (by omega) (by decide) (by rw[e9,h1];rfl)
 simp only[Bool.false_eq_true,if_false]at p1
 have hn:=ry s (by omega) h2
 unfold bV at hq hn
 refine jz rfl bM rfl call146 func146 rfl mixed (by kernel_rfl) rfl ?_;intro b0 hb0
 have lq:=aB hb0 hq
 have z0:=aD lq
 repeat' first|simp only[results146,ntmps146,al,hq,z0,aF,aG,ax,aA,av,bg,ai,seval,ah]|exact rfl|((refine ac ?_ [q] (p1 q _ _ ?_ aj (by omega)) ?_ ?_);iterate 3 (focus (simp only[ag,results146,ntmps146,al,hq,z0,aF,aG,ax,aA,av,bg,ai,seval,ah]<;>exact rfl)))|((first|apply Ca|apply Cb)<;>intro hb)|refine Ai (by omega) ?_|(apply Ai<;>intro hb)
 refine cW rfl [q] (hn q _ _ ?_ aj (by omega)) ?_
 ·simp only[ag,al,hq,z0,ai,seval,ah]<;>exact rfl
 ·simp only[ax,aA,av,bg,C3]
end Go.Proofs.YtlnlopnpcmahgaaGreatDoor
