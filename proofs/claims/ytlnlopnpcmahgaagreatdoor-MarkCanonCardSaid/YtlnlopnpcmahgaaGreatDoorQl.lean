/-
 Texts joined: XNg,XNh,XNi,XNj,XNk,XNl,XNm,XNn,XNo.
-/
import Derived.Test.YtlnlopnpcmahgaaGreatDoorQk
import Derived.Test.YtlnlopnpcmahgaaGreatDoorQj
set_option linter.all false
namespace Go.Proofs.YtlnlopnpcmahgaaGreatDoor
set_option maxRecDepth 100000
set_option maxHeartbeats 32000000
open Go Go.RowKit Vm Go.Lib Tryz
open Vm renaming ba->Ca,bh->Cb
open And renaming intro->Ai
open List renaming length_map->Lm,not_mem_nil->Ln,map_nil->Lo,map_cons->Lc,mem_cons->Lk
open Bool renaming not_false->Bf,not_true->Bt
def bY (s:List UInt8):Blk:=⟨1,[[.str s]]⟩
def Cn (s p:List UInt8)(hs:s.length<=be)(hp:p.length<=be)(q:Nat)(M:ap)(nm:Nat)(hq:M q=some (bY s))(ho:∀ z,(M z).isSome=true->z∈[q])(hqn:q<nm) :
  Ev cx 145 nm [.ptr q 0 0,.str p] M (.bool (preB s p)) [(q,some (bY (if preB s p=true then s.drop p.length else s)))]:=by
 have h:=ny s p hs hp
 cases hb:preB s p with
 | true =>
  rw[nc hb]at h
  simp only[if_true]
  unfold bY at hq ⊢
  refine bi call145 func145 rfl (by kernel_rfl) rfl ?_;intro b0 hb0
  have lq:=aC hb0 hq
  have z0:=aE lq
  repeat' first|simp only[ak,aj,results145,ntmps145,al,hq,z0,ai,seval,ah]|exact rfl|refine aa (v:=.any) ?_|(first|(refine ad ?_ (h _) ?_)|(refine ab ?_ (fun _=>h _) ?_))|((first|apply Ca|apply Cb)<;>intro hb)|refine Ai (by omega) ?_|(apply Ai<;>intro hb)
  all_goals ((refine Fin.give [(q,none)] [] ?_ ?_ ?_ ?_ ?_ (aO ho (by simp[aS,tgt]))<;>(try simp only[results145,ntmps145,al,hq,z0,dM,ai,seval,ah])<;>(try simp only[ao])<;>(try omega)))
 | false =>
  rw[qe hb]at h
  simp only[Bool.false_eq_true,if_false]
  unfold bY at hq ⊢
  refine bi call145 func145 rfl (by kernel_rfl) rfl ?_;intro b0 hb0
  have lq:=aC hb0 hq
  have z0:=aE lq
  repeat' first|simp only[ak,aj,results145,ntmps145,al,hq,z0,ai,seval,ah]|exact rfl|refine aa (v:=.any) ?_|(first|(refine ad ?_ (h _) ?_)|(refine ab ?_ (fun _=>h _) ?_))|((first|apply Ca|apply Cb)<;>intro hb)|refine Ai (by omega) ?_|(apply Ai<;>intro hb)
  all_goals ((refine Fin.give [(q,none)] [] ?_ ?_ ?_ ?_ ?_ (aO ho (by simp[aS,tgt]))<;>(try simp only[results145,ntmps145,al,hq,z0,dM,ai,seval,ah])<;>(try simp only[ao])<;>(try omega)))
def kC (s:List UInt8)(hs:s.length<=be)(q:Nat)(M:ap)(nm:Nat)(hq:M q=some (bY s))(ho:∀ z,(M z).isSome=true->z∈[q])(hqn:q<nm) :
  Ev cx 182 nm [.ptr q 0 0] M (.bool (decide ((aW s).length<s.length))) [(q,some (bY (aW s)))]:=by
 have h:=yW gf s (by decide) (by decide) (by decide) hs
 rw[xi]at h
 change ∀ nm,Ev cx _ nm _ ap.nil (.str (aW s)) []at h
 unfold gf at h
 have hd:decide (((aW s).length:Int)<(s.length:Int))=decide ((aW s).length<s.length):=decide_eq_decide.2 (by omega)
 unfold bY at hq ⊢
 refine bi call182 func182 rfl (by kernel_rfl) rfl ?_;intro b0 hb0
 have lq:=aC hb0 hq
 have z0:=aE lq
 repeat' first|simp only[ak,aj,results182,ntmps182,al,hq,z0,hd,ai,seval,ah]|exact rfl|refine aa (v:=.any) ?_|(first|(refine ad ?_ (h _) ?_)|(refine ab ?_ (fun _=>h _) ?_))|((first|apply Ca|apply Cb)<;>intro hb)|refine Ai (by omega) ?_|(apply Ai<;>intro hb)
 all_goals ((refine Fin.give [(q,none)] [] ?_ ?_ ?_ ?_ ?_ (aO ho (by simp[aS,tgt]))<;>(try simp only[results182,ntmps182,al,hq,z0,hd,dM,ai,seval,ah])<;>(try simp only[ao])<;>(try omega)))
section
variable {cx:Cx} {Q:Post} {st:List Frm} {nm:Nat} {e:Env} {M:ap} {d:Bool} {fs:List (List Nat)} {ops r:List Oper} {dst:Option Tmp} {t:TypeId} {pos:String} {af:Array Edge} {gd:Option (Nat×Bool)} {i:Nat}
def FR (P:Program)(t:TypeId):Bool:=match P.underlying t with
 | some (.interface _)|none=>false
 | some _=>true
def Ox {P:Program}{w:World}{t:TypeId}(x:Value)(h:FR P t=true):(Instr.makeInterface t x).run P w = .ok (.iface t x) w:=by
 unfold FR at h
 cases hu:P.underlying t with
 | none=>rw[hu]at h;cases h
 | some u =>
  rw[hu]at h
  simp only[Instr.makeInterface,Sem.run_bind,run_underlying hu w,Result.andThen_ok]
  cases u<;>first|rfl|cases h
def kQ {ty:TypeId}{x:Operand}{u:V}(hx:aw cx.G true e x=u)(ht:FR cx.P ty=true)
  (h:aK cx Q st nm (e.putD dst (.iface ty u)) M d (fs++[[]]) ops r (i+1)):cF cx Q st nm e M d fs ops ⟨dst,.makeInterface ty x,t,pos,af,gd⟩ r i:=by
 refine⟨_,[],_,⟨fun x hx=>by simp[am]at hx,fun x hx=>by simp[am]at hx,fun h=>absurd rfl h,fun h=>absurd rfl h,?_⟩,h⟩
 intro N X w0 I Y e' M' a w hr he hin hev hMM hf
 have hxi:=he.eval hr (c:=true) rfl (hin x (by simp[Op.operands]))
 rw[hev x (by simp[Op.operands]),hx]at hxi
 exact⟨_,w,(dh.still (nm:=nm+16*i) hr (.iface (t:=ty) hxi)).n,iv (s:=Instr.makeInterface ty (a.eval x)) rfl (Ox _ ht)⟩
end
def Dg:V:=.iface 25 (.int .i64 80)
def ii (q:Nat)(M:ap)(nm:Nat):y5 cx 149 nm [.ptr q 0 0] M Dg:=by
 unfold Dg
 refine jI rfl bR rfl call149 func149 rfl mixed (by kernel_rfl) rfl ?_;intro b0 hb0
 repeat' first|simp only[ak,aj,results149,ntmps149,al,aG,aH,ax,aB,bg,ai,seval,ah]|exact rfl|refine aa (v:=.any) ?_|(refine kQ rfl (by kernel_rfl) ?_)|((first|apply Ca|apply Cb)<;>intro hb)|refine Ai (by omega) ?_|(apply Ai<;>intro hb)
def sT {s:List UInt8}{x:Nat}(h:∀ c∈s.take x,dp c=true)(h2:∀ c,s[x]? = some c->dp c=false):g9 s=s.take x/\ov s=s.drop x:=by
 have e:s=s.take x++s.drop x:=(List.take_append_drop x s).symm
 have hd:(s.drop x).takeWhile dp=[]/\(s.drop x).dropWhile dp=s.drop x:=by
  cases hc:s.drop x with
  | nil=>exact⟨rfl,rfl⟩
  | cons c t =>
   have:s[x]? = some c:=by
    have:=congrArg List.head? hc
    simpa [List.head?_drop] using this
   rw[List.takeWhile_cons,List.dropWhile_cons,h2 c this]
   exact⟨rfl,rfl⟩
 unfold g9 ov
 constructor
 ·conv=>lhs;rw[e]
  rw[List.takeWhile_append_of_pos h,hd.1,List.append_nil]
 ·conv=>lhs;rw[e]
  rw[List.dropWhile_append_of_pos h,hd.2]
def xo {s:List UInt8}{x:Nat}{c:UInt8}(h:∀ c∈s.take x,dp c=true)(hc:s[x]? = some c)(hw:dp c=true):∀ c∈s.take (x+1),dp c=true:=by
 intro d hd
 rw[List.take_add_one,hc]at hd
 rcases List.mem_append.1 hd with hd|hd
 ·exact h d hd
 ·simp at hd;rw[hd];exact hw
def wJ {s n r:List UInt8}(h:e9 s=some (n,r)):g9 s=n/\ov s=r/\bU n=true:=by
 unfold e9 at h
 split at h
 ·rename_i hf;cases h;exact⟨rfl,rfl,hf⟩
 ·cases h
def G3 {s:List UInt8}(h:e9 s=none):bU (g9 s)=false:=by
 unfold e9 at h
 split at h
 ·cases h
 ·rename_i hf;simpa using hf
def lg (s n r:List UInt8)(hs:s.length<=1000000)(hn:e9 s=some (n,r))(q:Nat)(M:ap)(nm:Nat)(hq:M q=some (bY s))(ho:∀ z,(M z).isSome=true->z∈[q])(hqn:q<nm) :
  Ev cx 181 nm [.ptr q 0 0] M (.str n) [(q,some (bY r))]:=by
 obtain⟨hw1,hw2,hfl⟩:=wJ hn
 unfold bY at hq ⊢
 refine bi call181 func181 rfl (by kernel_rfl) rfl ?_;intro b0 hb0;have zF:=Ai results181 ntmps181
 have lq:=aC hb0 hq
 have z0:=aE lq
 repeat' first|simp only[ak,aj,zF,al,ai,seval,ah]|exact rfl|refine aa (v:=.any) ?_|((first|apply Ca|apply Cb)<;>intro hb)|refine Ai (by omega) ?_|(apply Ai<;>intro hb)
 (refine aR bR (fun x:Nat=>s.length-x) (fun x=>x<=s.length/\(∀ c∈s.take x,dp c=true)) (b0+16) (fun x=>[(0,.ptr q 0 0),(3,.int .i64 x)]) (fun x=>[(q,⟨1,[[.str s]]⟩)]) (0) [some q] ?_ ?_ ?_ ?_;rotate_left 1;(focus (show b0<=_;omega));(focus (refine⟨?_,?_⟩<;>(try simp only[aX,hq,z0,ai,seval,ah,ao])<;>(try omega)));rotate_left 1)
 ·exact⟨Nat.zero_le _,by simp⟩
 ·rintro x ⟨h1,h2⟩
  have hend:∀(hx:∀ c,s[x]? = some c->dp c=false),s.take x=g9 s/\s.drop x=ov s:=fun hx=>⟨(sT h2 hx).1.symm,(sT h2 hx).2.symm⟩
  have h1':(x:Int)<=(s.length:Int):=by omega
  by_cases hx:x<s.length
  ·obtain⟨c,hc⟩:∃ c,s[x]? = some c:=⟨_,List.getElem?_eq_getElem hx⟩
   have hx':decide ((x:Int)<(s.length:Int))=true:=cn
   have hpe:=yB c false
   have q58:((c.toNat:Int)==58)=decide (c=58):=gK c 58
   have hwx:IntKind.i64.wrap ((x:Int)+1)=((x+1:Nat):Int):=bf
   have hwc:dp c=(gX false c||decide (c=58)):=by unfold dp;congr 1
   have hgo:∀(hp:dp c=true),x+1<=s.length /\ ∀ c∈s.take (x+1),dp c=true:=fun hp=>⟨by omega,xo h2 hc hp⟩
   cases hp:gX false c<;>cases h58:decide (c=58)<;>rw[hp,h58]at hwc<;>rw[hp]at hpe<;>rw[h58]at q58
   ·have he:=hend (fun d hd=>by rw[hc]at hd;cases hd;exact hwc)
    have hfe:=jo (g9 s) (by unfold be;rw[<- he.1,List.length_take];omega)
    rw[hw1,hfl]at hfe
    have e1:s.take x=n:=by rw[he.1,hw1]
    have e2:s.drop x=r:=by rw[he.2,hw2]
    repeat' first|simp only[ak,aj,zF,al,hc,hx',h1,h1',hx,q58,e1,e2,ai,seval,ah]|exact rfl|refine aa (v:=.any) ?_|(first|(refine ad ?_ (hfe _) ?_)|(refine ab ?_ (fun _=>hfe _) ?_)|(refine ad ?_ (hpe _) ?_)|(refine ab ?_ (fun _=>hpe _) ?_))|(refine aa (v:=.any) ?_)|refine Ai (by omega) ?_
    all_goals ((refine Fin.give [(q,none)] [] ?_ ?_ ?_ ?_ ?_ (aO ho (by simp[aS,tgt]))<;>(try simp only[zF,al,hq,z0,dM,ai,seval,ah])<;>(try simp only[ao])<;>(try omega)))
   ·repeat' first|simp only[ak,aj,zF,al,hc,hx',h1,h1',hx,q58,hwx,ai,seval,ah]|exact rfl|refine aa (v:=.any) ?_|(first|(refine ad ?_ (hpe _) ?_)|(refine ab ?_ (fun _=>hpe _) ?_))|(refine aa (v:=.any) ?_)|refine Ai (by omega) ?_
    all_goals ((refine aD bR (x+1) [some q] ?_ ?_ ?_ ?_;rotate_left 2;(focus (show b0<=_;omega));(focus (refine⟨?_,?_⟩<;>(try simp only[aX,hq,z0,ai,seval,ah,ao])<;>(try omega)))))
    all_goals (first|(show s.length-(x+1)<s.length-x;omega)|exact hgo hwc|skip)
   ·repeat' first|simp only[ak,aj,zF,al,hc,hx',h1,h1',hx,q58,hwx,ai,seval,ah]|exact rfl|refine aa (v:=.any) ?_|(first|(refine ad ?_ (hpe _) ?_)|(refine ab ?_ (fun _=>hpe _) ?_))|(refine aa (v:=.any) ?_)|refine Ai (by omega) ?_
    all_goals ((refine aD bR (x+1) [some q] ?_ ?_ ?_ ?_;rotate_left 2;(focus (show b0<=_;omega));(focus (refine⟨?_,?_⟩<;>(try simp only[aX,hq,z0,ai,seval,ah,ao])<;>(try omega)))))
    all_goals (first|(show s.length-(x+1)<s.length-x;omega)|exact hgo hwc|skip)
   ·repeat' first|simp only[ak,aj,zF,al,hc,hx',h1,h1',hx,q58,hwx,ai,seval,ah]|exact rfl|refine aa (v:=.any) ?_|(first|(refine ad ?_ (hpe _) ?_)|(refine ab ?_ (fun _=>hpe _) ?_))|(refine aa (v:=.any) ?_)|refine Ai (by omega) ?_
    all_goals ((refine aD bR (x+1) [some q] ?_ ?_ ?_ ?_;rotate_left 2;(focus (show b0<=_;omega));(focus (refine⟨?_,?_⟩<;>(try simp only[aX,hq,z0,ai,seval,ah,ao])<;>(try omega)))))
    all_goals (first|(show s.length-(x+1)<s.length-x;omega)|exact hgo hwc|skip)
  ·have hx':decide ((x:Int)<(s.length:Int))=false:=bo
   have hxe:s[x]? = none:=List.getElem?_eq_none (by omega)
   have he:=hend (fun d hd=>by rw[hxe]at hd;cases hd)
   have hfe:=jo (g9 s) (by unfold be;rw[<- he.1,List.length_take];omega)
   rw[hw1,hfl]at hfe
   have e1:s.take x=n:=by rw[he.1,hw1]
   have e2:s.drop x=r:=by rw[he.2,hw2]
   repeat' first|simp only[ak,aj,zF,al,hxe,hx',h1,h1',hx,e1,e2,ai,seval,ah]|exact rfl|refine aa (v:=.bool false) ?_|(first|(refine ad ?_ (hfe _) ?_)|(refine ab ?_ (fun _=>hfe _) ?_))|refine Ai (by omega) ?_
   all_goals ((refine Fin.give [(q,none)] [] ?_ ?_ ?_ ?_ ?_ (aO ho (by simp[aS,tgt]))<;>(try simp only[zF,al,hq,z0,dM,ai,seval,ah])<;>(try simp only[ao])<;>(try omega)))
def rB (s:List UInt8)(hs:s.length<=1000000)(hn:e9 s=none)(q:Nat)(M:ap)(nm:Nat)(hq:M q=some (bY s))(ho:∀ z,(M z).isSome=true->z∈[q])(hqn:q<nm) :
  y5 cx 181 nm [.ptr q 0 0] M Dg:=by
 have hfl:=G3 hn
 unfold bY at hq
 refine jI rfl bR rfl call181 func181 rfl mixed (by kernel_rfl) rfl ?_;intro b0 hb0;have zF:=Ai results181 ntmps181
 have lq:=aC hb0 hq
 have z0:=aE lq
 repeat' first|simp only[ak,aj,zF,al,ai,seval,ah]|exact rfl|refine aa (v:=.any) ?_|((first|apply Ca|apply Cb)<;>intro hb)|refine Ai (by omega) ?_|(apply Ai<;>intro hb)
 (refine aR bR (fun x:Nat=>s.length-x) (fun x=>x<=s.length/\(∀ c∈s.take x,dp c=true)) (b0+16) (fun x=>[(0,.ptr q 0 0),(3,.int .i64 x)]) (fun x=>[(q,⟨1,[[.str s]]⟩)]) (0) [some q] ?_ ?_ ?_ ?_;rotate_left 1;(focus (show b0<=_;omega));(focus (refine⟨?_,?_⟩<;>(try simp only[aX,hq,z0,ai,seval,ah,ao])<;>(try omega)));rotate_left 1)
 ·exact⟨Nat.zero_le _,by simp⟩
 ·rintro x ⟨h1,h2⟩
  have hend:∀(hx:∀ c,s[x]? = some c->dp c=false),s.take x=g9 s/\s.drop x=ov s:=fun hx=>⟨(sT h2 hx).1.symm,(sT h2 hx).2.symm⟩
  have h1':(x:Int)<=(s.length:Int):=by omega
  by_cases hx:x<s.length
  ·obtain⟨c,hc⟩:∃ c,s[x]? = some c:=⟨_,List.getElem?_eq_getElem hx⟩
   have hx':decide ((x:Int)<(s.length:Int))=true:=cn
   have hpe:=yB c false
   have q58:((c.toNat:Int)==58)=decide (c=58):=gK c 58
   have hwx:IntKind.i64.wrap ((x:Int)+1)=((x+1:Nat):Int):=bf
   have hwc:dp c=(gX false c||decide (c=58)):=by unfold dp;congr 1
   have hgo:∀(hp:dp c=true),x+1<=s.length /\ ∀ c∈s.take (x+1),dp c=true:=fun hp=>⟨by omega,xo h2 hc hp⟩
   cases hp:gX false c<;>cases h58:decide (c=58)<;>rw[hp,h58]at hwc<;>rw[hp]at hpe<;>rw[h58]at q58
   ·have he:=hend (fun d hd=>by rw[hc]at hd;cases hd;exact hwc)
    have hfe:=jo (g9 s) (by unfold be;rw[<- he.1,List.length_take];omega)
    rw[hfl]at hfe
    have e1:s.take x=g9 s:=he.1
    repeat' first|simp only[ak,aj,zF,al,hc,hx',h1,h1',hx,q58,e1,aG,aH,ax,aB,av,bg,ai,seval,ah]|exact rfl|refine aa (v:=.any) ?_|(first|(refine ad ?_ (hfe _) ?_)|(refine ab ?_ (fun _=>hfe _) ?_)|(refine ad ?_ (hpe _) ?_)|(refine ab ?_ (fun _=>hpe _) ?_))|(refine aa (v:=.any) ?_)|(refine cX rfl [q] (ii q _ _) ?_)|refine Ai (by omega) ?_
   ·repeat' first|simp only[ak,aj,zF,al,hc,hx',h1,h1',hx,q58,hwx,ai,seval,ah]|exact rfl|refine aa (v:=.any) ?_|(first|(refine ad ?_ (hpe _) ?_)|(refine ab ?_ (fun _=>hpe _) ?_))|(refine aa (v:=.any) ?_)|refine Ai (by omega) ?_
    all_goals ((refine aD bR (x+1) [some q] ?_ ?_ ?_ ?_;rotate_left 2;(focus (show b0<=_;omega));(focus (refine⟨?_,?_⟩<;>(try simp only[aX,hq,z0,ai,seval,ah,ao])<;>(try omega)))))
    all_goals (first|(show s.length-(x+1)<s.length-x;omega)|exact hgo hwc|skip)
   ·repeat' first|simp only[ak,aj,zF,al,hc,hx',h1,h1',hx,q58,hwx,ai,seval,ah]|exact rfl|refine aa (v:=.any) ?_|(first|(refine ad ?_ (hpe _) ?_)|(refine ab ?_ (fun _=>hpe _) ?_))|(refine aa (v:=.any) ?_)|refine Ai (by omega) ?_
    all_goals ((refine aD bR (x+1) [some q] ?_ ?_ ?_ ?_;rotate_left 2;(focus (show b0<=_;omega));(focus (refine⟨?_,?_⟩<;>(try simp only[aX,hq,z0,ai,seval,ah,ao])<;>(try omega)))))
    all_goals (first|(show s.length-(x+1)<s.length-x;omega)|exact hgo hwc|skip)
   ·repeat' first|simp only[ak,aj,zF,al,hc,hx',h1,h1',hx,q58,hwx,ai,seval,ah]|exact rfl|refine aa (v:=.any) ?_|(first|(refine ad ?_ (hpe _) ?_)|(refine ab ?_ (fun _=>hpe _) ?_))|(refine aa (v:=.any) ?_)|refine Ai (by omega) ?_
    all_goals ((refine aD bR (x+1) [some q] ?_ ?_ ?_ ?_;rotate_left 2;(focus (show b0<=_;omega));(focus (refine⟨?_,?_⟩<;>(try simp only[aX,hq,z0,ai,seval,ah,ao])<;>(try omega)))))
    all_goals (first|(show s.length-(x+1)<s.length-x;omega)|exact hgo hwc|skip)
  ·have hx':decide ((x:Int)<(s.length:Int))=false:=bo
   have hxe:s[x]? = none:=List.getElem?_eq_none (by omega)
   have he:=hend (fun d hd=>by rw[hxe]at hd;cases hd)
   have hfe:=jo (g9 s) (by unfold be;rw[<- he.1,List.length_take];omega)
   rw[hfl]at hfe
   have e1:s.take x=g9 s:=he.1
   repeat' first|simp only[ak,aj,zF,al,hxe,hx',h1,h1',hx,e1,aG,aH,ax,aB,av,bg,ai,seval,ah]|exact rfl|refine aa (v:=.bool false) ?_|(first|(refine ad ?_ (hfe _) ?_)|(refine ab ?_ (fun _=>hfe _) ?_))|(refine cX rfl [q] (ii q _ _) ?_)|refine Ai (by omega) ?_
def xM {d:UInt8}(hd:d.toNat<128):∀(zs:List Int) (a b:List UInt8),zs.all gq=true->enc zs=a++d::b->(dB a).isSome=true/\(dB b).isSome=true
 | [],a,b,_,h=>by
  have:=congrArg List.length h
  simp[enc]at this
 | z::zs,a,b,hm,h=>by
  simp only[List.all_cons,Bool.and_eq_true]at hm
  have e:enc (z::zs)=encodeRune z++enc zs:=by simp[enc]
  have e1:enc [z]=encodeRune z:=by simp[enc]
  have d1:dB (encodeRune z)=some [z]:=by rw[<- e1];exact eU [z] (by simp[hm.1])
  rw[e]at h
  rcases List.append_eq_append_iff.1 h with ⟨a',h1,h2⟩|⟨c',h1,h2⟩
  ·obtain⟨k1,k2⟩:=xM hd zs a' b hm.2 h2
   obtain⟨y,hy⟩:=Option.isSome_iff_exists.1 k1
   refine⟨?_,k2⟩
   rw[h1,pA d1 hy];rfl
  ·cases c' with
   | nil =>
    simp only[List.append_nil,List.nil_append]at h1 h2
    obtain⟨_,k2⟩:=xM hd zs [] b hm.2 (by rw[<- h2];rfl)
    refine⟨?_,k2⟩
    rw[<- h1,d1];rfl
   | cons c t =>
    simp only[List.cons_append,List.cons.injEq]at h2
    obtain⟨h2,h3⟩:=h2
    by_cases hz:z<128
    ·have hr:=fj hm.1
     rw[EU (by omega) hz]at h1
     cases a with
     | nil =>
      simp only[List.nil_append,List.cons.injEq]at h1
      rw[<- h1.2,List.nil_append]at h3
      exact⟨rfl,by rw[h3,eU zs hm.2];rfl⟩
     | cons a0 a1 =>
      have:=congrArg List.length h1
      simp at this
    ·have:=mH (z:=z) (by omega) d (by rw[h1,h2];simp)
     omega
def b6 {d:UInt8}(hd:d.toNat<128){s a b:List UInt8}(h:(dB s).isSome=true)(he:s=a++d::b):(dB a).isSome=true/\(dB b).isSome=true:=by
 obtain⟨zs,hz⟩:=Option.isSome_iff_exists.1 h
 obtain⟨hm,h2⟩:=(ki s zs).1 hz
 exact xM hd zs a b hm (by rw[h2,he])
def dU (c d:UInt8)(t:List UInt8):preB (c::t) [d]=(c==d):=by
 unfold preB;simp
def wV (s v r:List UInt8)(hs:s.length<=16384)(hd:(dB s).isSome=true)(hv:gU s=some (v,r))(q:Nat)(M:ap)(nm:Nat)(hq:M q=some (bY s))(ho:∀ z,(M z).isSome=true->z∈[q])(hqn:q<nm) :
  Ev cx 184 nm [.ptr q 0 0] M (.str v) [(q,some (bY r))]:=by
 obtain⟨a,h1,h2⟩:=lY hv
 obtain⟨k,hk,rfl,hka⟩:=lO h1
 have e1:∀(k:UInt8) (t:List UInt8) (y:Bool),t.length<=20000->preB t [k]=y -> ∀(M':ap) (n':Nat),M' q=some ⟨1,[[.str t]]⟩->(∀ z,(M' z).isSome=true->z∈[q])->q<n'->Ev cx 145 n' [.ptr q 0 0,.str [k]] M' (.bool y) [(q,some ⟨1,[[.str (if y then t.drop 1 else t)]]⟩)]:=by
  intro k t y ht hy M' n' h1 h2 h3
  have:=Cn t [k] (by unfold be;omega) (by simp[be]) q M' n' h1 h2 h3
  rw[hy]at this
  cases y<;>exact this
 have hla:a.length+r.length+2<=16384:=by simpa [Nat.add_assoc,Nat.add_comm,Nat.add_left_comm] using hs
 have hk128:k.toNat<128:=by rcases hk with rfl|rfl<;>decide
 obtain⟨_,hd2⟩:=b6 hk128 (a:=[]) hd rfl
 obtain⟨hda,hdr⟩:=b6 hk128 hd2 rfl
 have hcv:=oD (a++k::r) k (by simp[be];omega)
 have ecv:hU k (a++k::r) = .tup [.str a,.str r,.bool true]:=by unfold hU;rw[kg hka]
 rw[ecv]at hcv
 have hmp:=J4 a (by omega) hda
 unfold EC at hmp
 have hg:=sG (a.map cP) (by rw[Lm];unfold be;omega)
 rw[qO (cC.2 ⟨by rw[Lm];omega,zL hda⟩) h2]at hg
 unfold bY at hq ⊢
 rcases hk with rfl|rfl
 ·have p1:=e1 39 (39::(a++39::r)) true (by simp;omega) (dU _ _ _)
  simp only[if_true,List.drop_succ_cons,List.drop_zero]at p1
  refine bi call184 func184 rfl (by kernel_rfl) rfl ?_;intro b0 hb0;have zF:=Ai results184 ntmps184
  have lq:=aC hb0 hq
  have z0:=aE lq
  repeat' first|simp only[ak,aj,zF,al,hq,z0,ai,seval,ah]|exact rfl|refine aa (v:=.any) ?_|(first|(refine ad ?_ (hcv _) ?_)|(refine ab ?_ (fun _=>hcv _) ?_)|(refine ad ?_ (hmp _) ?_)|(refine ab ?_ (fun _=>hmp _) ?_)|(refine ad ?_ (hg _) ?_)|(refine ab ?_ (fun _=>hg _) ?_))|(refine ac ?_ [q] (p1 _ _ ?_ ag (by omega)) ?_ ?_)|((first|apply Ca|apply Cb)<;>intro hb)|refine Ai (by omega) ?_|(apply Ai<;>intro hb)
  all_goals ((refine Fin.give [(q,none)] [] ?_ ?_ ?_ ?_ ?_ (aO ho (by simp[aS,tgt]))<;>(try simp only[zF,al,hq,z0,dM,ai,seval,ah])<;>(try simp only[ao])<;>(try omega)))
 ·have p1:=e1 39 (34::(a++34::r)) false (by simp;omega) (dU _ _ _)
  have p2:=e1 34 (34::(a++34::r)) true (by simp;omega) (dU _ _ _)
  simp only[if_true,Bool.false_eq_true,if_false,List.drop_succ_cons,List.drop_zero]at p1 p2
  refine bi call184 func184 rfl (by kernel_rfl) rfl ?_;intro b0 hb0;have zF:=Ai results184 ntmps184
  have lq:=aC hb0 hq
  have z0:=aE lq
  repeat' first|simp only[zF,al,hq,z0,ai,seval,ah]|exact rfl|((first|(refine ad ?_ (hcv _) ?_)|(refine ab ?_ (fun _=>hcv _) ?_)|(refine ad ?_ (hmp _) ?_)|(refine ab ?_ (fun _=>hmp _) ?_)|(refine ad ?_ (hg _) ?_)|(refine ab ?_ (fun _=>hg _) ?_));(focus (simp only[zF,al,hq,z0,ai,seval,ah]<;>exact rfl)))|((refine ac ?_ [q] (p1 _ _ ?_ ag (by omega)) ?_ ?_);iterate 3 (focus (simp only[aj,zF,al,hq,z0,ai,seval,ah]<;>exact rfl)))|((refine ac ?_ [q] (p2 _ _ ?_ ag (by omega)) ?_ ?_);iterate 3 (focus (simp only[aj,zF,al,hq,z0,ai,seval,ah]<;>exact rfl)))|((first|apply Ca|apply Cb)<;>intro hb)|refine Ai (by omega) ?_|(apply Ai<;>intro hb)
  all_goals ((refine Fin.give [(q,none)] [] ?_ ?_ ?_ ?_ ?_ (aO ho (by simp[aS,tgt]))<;>(try simp only[zF,al,hq,z0,dM,ai,seval,ah])<;>(try simp only[ao])<;>(try omega)))
def Dz (s:List UInt8)(hs:s.length<=16384)(hd:(dB s).isSome=true)(hv:gU s=none)(q:Nat)(M:ap)(nm:Nat)(hq:M q=some (bY s))(ho:∀ z,(M z).isSome=true->z∈[q])(hqn:q<nm) :
  y5 cx 184 nm [.ptr q 0 0] M Dg:=by
 have e1:∀(k:UInt8) (t:List UInt8) (y:Bool),t.length<=20000->preB t [k]=y -> ∀(M':ap) (n':Nat),M' q=some ⟨1,[[.str t]]⟩->(∀ z,(M' z).isSome=true->z∈[q])->q<n'->Ev cx 145 n' [.ptr q 0 0,.str [k]] M' (.bool y) [(q,some ⟨1,[[.str (if y then t.drop 1 else t)]]⟩)]:=by
  intro k t y ht hy M' n' h1 h2 h3
  have:=Cn t [k] (by unfold be;omega) (by simp[be]) q M' n' h1 h2 h3
  rw[hy]at this
  cases y<;>exact this
 unfold bY at hq
 by_cases hk:∃ k t,s=k::t/\(k=39\/k=34)
 ·obtain⟨k,t,rfl,hk⟩:=hk
  have hk128:k.toNat<128:=by rcases hk with rfl|rfl<;>decide
  obtain⟨_,hd2⟩:=b6 hk128 (a:=[]) hd rfl
  have hlt:t.length+1<=16384:=by simpa using hs
  have hcv:=oD t k (by unfold be;omega)
  cases hc:eg k t with
  | none =>
   have ecv:hU k t = .tup [.str t,.str [],.bool false]:=by unfold hU;rw[hc]
   rw[ecv]at hcv
   rcases hk with rfl|rfl
   ·have p1:=e1 39 (39::t) true (by simp;omega) (dU _ _ _)
    simp only[if_true,List.drop_succ_cons,List.drop_zero]at p1
    refine jI rfl bR rfl call184 func184 rfl mixed (by kernel_rfl) rfl ?_;intro b0 hb0;have zF:=Ai results184 ntmps184
    have lq:=aC hb0 hq
    have z0:=aE lq
    repeat' first|simp only[ak,aj,zF,al,hq,z0,aG,aH,ax,aB,av,bg,ai,seval,ah]|exact rfl|refine aa (v:=.any) ?_|(first|(refine ad ?_ (hcv _) ?_)|(refine ab ?_ (fun _=>hcv _) ?_))|(refine ac ?_ [q] (p1 _ _ ?_ ag (by omega)) ?_ ?_)|(refine cX rfl [q] (ii q _ _) ?_)|((first|apply Ca|apply Cb)<;>intro hb)|refine Ai (by omega) ?_|(apply Ai<;>intro hb)
   ·have p1:=e1 39 (34::t) false (by simp;omega) (dU _ _ _)
    have p2:=e1 34 (34::t) true (by simp;omega) (dU _ _ _)
    simp only[if_true,Bool.false_eq_true,if_false,List.drop_succ_cons,List.drop_zero]at p1 p2
    refine jI rfl bR rfl call184 func184 rfl mixed (by kernel_rfl) rfl ?_;intro b0 hb0;have zF:=Ai results184 ntmps184
    have lq:=aC hb0 hq
    have z0:=aE lq
    repeat' first|simp only[zF,al,hq,z0,aG,aH,ax,aB,av,bg,ai,seval,ah]|exact rfl|((first|(refine ad ?_ (hcv _) ?_)|(refine ab ?_ (fun _=>hcv _) ?_));(focus (simp only[zF,al,hq,z0,aG,aH,ax,aB,av,bg,ai,seval,ah]<;>exact rfl)))|((refine ac ?_ [q] (p1 _ _ ?_ ag (by omega)) ?_ ?_);iterate 3 (focus (simp only[aj,zF,al,hq,z0,aG,aH,ax,aB,av,bg,ai,seval,ah]<;>exact rfl)))|((refine ac ?_ [q] (p2 _ _ ?_ ag (by omega)) ?_ ?_);iterate 3 (focus (simp only[aj,zF,al,hq,z0,aG,aH,ax,aB,av,bg,ai,seval,ah]<;>exact rfl)))|(refine cX rfl [q] (ii q _ _) ?_)|((first|apply Ca|apply Cb)<;>intro hb)|refine Ai (by omega) ?_|(apply Ai<;>intro hb)
  | some p =>
   obtain⟨a,r⟩:=p
   have ecv:hU k t = .tup [.str a,.str r,.bool true]:=by unfold hU;rw[hc]
   rw[ecv]at hcv
   obtain⟨he,hka⟩:=eH hc
   obtain⟨hda,hdr⟩:=b6 hk128 hd2 he
   have hla:a.length<=16384:=by
    have:=congrArg List.length he
    simp at this;omega
   have hto:bJ (a.map cP)=none:=by
    unfold gU at hv
    rw[o7,if_pos hk,hc]at hv
    simpa [u6] using hv
   have hmp:=J4 a (by omega) hda
   unfold EC at hmp
   have hg:=sG (a.map cP) (by rw[Lm];unfold be;omega)
   rw[kS (cC.2 ⟨by rw[Lm];omega,zL hda⟩) hto]at hg
   rcases hk with rfl|rfl
   ·have p1:=e1 39 (39::t) true (by simp;omega) (dU _ _ _)
    simp only[if_true,List.drop_succ_cons,List.drop_zero]at p1
    refine jI rfl bR rfl call184 func184 rfl mixed (by kernel_rfl) rfl ?_;intro b0 hb0;have zF:=Ai results184 ntmps184
    have lq:=aC hb0 hq
    have z0:=aE lq
    repeat' first|simp only[ak,aj,zF,al,hq,z0,aG,aH,ax,aB,av,bg,ai,seval,ah]|exact rfl|refine aa (v:=.any) ?_|(first|(refine ad ?_ (hcv _) ?_)|(refine ab ?_ (fun _=>hcv _) ?_)|(refine ad ?_ (hmp _) ?_)|(refine ab ?_ (fun _=>hmp _) ?_)|(refine ad ?_ (hg _) ?_)|(refine ab ?_ (fun _=>hg _) ?_))|(refine ac ?_ [q] (p1 _ _ ?_ ag (by omega)) ?_ ?_)|(refine cX rfl [q] (ii q _ _) ?_)|((first|apply Ca|apply Cb)<;>intro hb)|refine Ai (by omega) ?_|(apply Ai<;>intro hb)
   ·have p1:=e1 39 (34::t) false (by simp;omega) (dU _ _ _)
    have p2:=e1 34 (34::t) true (by simp;omega) (dU _ _ _)
    simp only[if_true,Bool.false_eq_true,if_false,List.drop_succ_cons,List.drop_zero]at p1 p2
    refine jI rfl bR rfl call184 func184 rfl mixed (by kernel_rfl) rfl ?_;intro b0 hb0;have zF:=Ai results184 ntmps184
    have lq:=aC hb0 hq
    have z0:=aE lq
    repeat' first|simp only[zF,al,hq,z0,aG,aH,ax,aB,av,bg,ai,seval,ah]|exact rfl|((first|(refine ad ?_ (hcv _) ?_)|(refine ab ?_ (fun _=>hcv _) ?_)|(refine ad ?_ (hmp _) ?_)|(refine ab ?_ (fun _=>hmp _) ?_)|(refine ad ?_ (hg _) ?_)|(refine ab ?_ (fun _=>hg _) ?_));(focus (simp only[zF,al,hq,z0,aG,aH,ax,aB,av,bg,ai,seval,ah]<;>exact rfl)))|((refine ac ?_ [q] (p1 _ _ ?_ ag (by omega)) ?_ ?_);iterate 3 (focus (simp only[aj,zF,al,hq,z0,aG,aH,ax,aB,av,bg,ai,seval,ah]<;>exact rfl)))|((refine ac ?_ [q] (p2 _ _ ?_ ag (by omega)) ?_ ?_);iterate 3 (focus (simp only[aj,zF,al,hq,z0,aG,aH,ax,aB,av,bg,ai,seval,ah]<;>exact rfl)))|(refine cX rfl [q] (ii q _ _) ?_)|((first|apply Ca|apply Cb)<;>intro hb)|refine Ai (by omega) ?_|(apply Ai<;>intro hb)
 ·have hn:∀ k:UInt8,k=39\/k=34->preB s [k]=false:=by
   intro k hk2
   cases s with
   | nil=>rfl
   | cons c t =>
    rw[dU]
    refine beq_false_of_ne (fun e=>hk ⟨c,t,rfl,?_⟩)
    rw[e];exact hk2
  have p1:=e1 39 s false (by omega) (hn 39 (.inl rfl))
  have p2:=e1 34 s false (by omega) (hn 34 (.inr rfl))
  simp only[Bool.false_eq_true,if_false]at p1 p2
  refine jI rfl bR rfl call184 func184 rfl mixed (by kernel_rfl) rfl ?_;intro b0 hb0;have zF:=Ai results184 ntmps184
  have lq:=aC hb0 hq
  have z0:=aE lq
  repeat' first|simp only[zF,al,hq,z0,aG,aH,ax,aB,av,bg,ai,seval,ah]|exact rfl|((refine ac ?_ [q] (p1 _ _ ?_ ag (by omega)) ?_ ?_);iterate 3 (focus (simp only[aj,zF,al,hq,z0,aG,aH,ax,aB,av,bg,ai,seval,ah]<;>exact rfl)))|((refine ac ?_ [q] (p2 _ _ ?_ ag (by omega)) ?_ ?_);iterate 3 (focus (simp only[aj,zF,al,hq,z0,aG,aH,ax,aB,av,bg,ai,seval,ah]<;>exact rfl)))|(refine cX rfl [q] (ii q _ _) ?_)|((first|apply Ca|apply Cb)<;>intro hb)|refine Ai (by omega) ?_|(apply Ai<;>intro hb)
end Go.Proofs.YtlnlopnpcmahgaaGreatDoor
namespace Go.Proofs.YtlnlopnpcmahgaaGreatDoor
set_option maxRecDepth 100000
set_option maxHeartbeats 32000000
open Go Go.RowKit Go.Lib
def tN {p:UInt8->Bool}(hp:∀ c,p c=true->c.toNat<128):∀ s:List UInt8,(dB s).isSome=true->(dB (s.dropWhile p)).isSome=true
 | [],h=>h
 | c::s,h=>by
  rw[List.dropWhile_cons]
  by_cases hc:p c=true
  ·rw[if_pos hc]
   exact tN hp s (b6 (hp c hc) (a:=[]) h rfl).2
  ·rw[if_neg hc];exact h
def FO:∀ c:UInt8,fS c=true->c.toNat<128:=by
 have key:∀ n:Fin 256,fS (UInt8.ofNat n.val)=true->n.val<128:=by decide +kernel
 intro c hc
 have:=key ⟨c.toNat,c.toNat_lt⟩ (by simpa using hc)
 exact this
def L2:∀ c:UInt8,dp c=true->c.toNat<128:=by
 have key:∀ n:Fin 256,dp (UInt8.ofNat n.val)=true->n.val<128:=by decide +kernel
 intro c hc
 have:=key ⟨c.toNat,c.toNat_lt⟩ (by simpa using hc)
 exact this
def dR {s:List UInt8}(h:(dB s).isSome=true):(dB (aW s)).isSome=true:=tN FO s h
def iV {s n r:List UInt8}(h:(dB s).isSome=true)(hn:e9 s=some (n,r)):(dB r).isSome=true:=by
 rw[<-(wJ hn).2.1]
 exact tN L2 s h
def H7 {s v r:List UInt8}(h:(dB s).isSome=true)(hv:gU s=some (v,r)):(dB r).isSome=true:=by
 obtain⟨a,h1,_⟩:=lY hv
 obtain⟨k,hk,rfl,_⟩:=lO h1
 have hk128:k.toNat<128:=by rcases hk with rfl|rfl<;>decide
 exact(b6 hk128 (a:=k::a) h rfl).2
def tl {s r:List UInt8}{a:Pr}(h:(dB s).isSome=true)(ha:gy s=some (a,r)):(dB r).isSome=true:=by
 obtain⟨r1,t,h1,h2,h3⟩:=nw ha
 have d1:=dR (iV h h1)
 rw[h2]at d1
 have d2:=(b6 (d:=61) (by decide) (a:=[]) d1 rfl).2
 exact H7 (dR d2) h3
def u1 {s:List UInt8}(h:(dB s).isSome=true):(dB (cK s)).isSome=true/\(dB (fR s)).isSome=true:=by
 have e:s=cK s++fR s:=(List.takeWhile_append_dropWhile).symm
 cases hr:fR s with
 | nil =>
  rw[hr,List.append_nil]at e
  rw[<- e];exact⟨h,rfl⟩
 | cons c t =>
  have hc:ji c=false:=by
   have:=List.head?_dropWhile_not ji s
   unfold fR at hr
   rw[hr]at this
   simpa using this
  have hc60:c=60:=by simpa [ji] using hc
  rw[hr]at e
  subst hc60
  obtain⟨h1,h2⟩:=b6 (d:=60) (by decide) h e
  refine⟨h1,?_⟩
  have d60:dB [60]=some [60]:=by decide +kernel
  obtain⟨y,hy⟩:=Option.isSome_iff_exists.1 h2
  rw[show(60:UInt8)::t=[60]++t from rfl,pA d60 hy];rfl
end Go.Proofs.YtlnlopnpcmahgaaGreatDoor
namespace Go.Proofs.YtlnlopnpcmahgaaGreatDoor
set_option maxRecDepth 100000
set_option maxHeartbeats 32000000
open Go Go.RowKit Vm Go.Lib Tryz
open Vm renaming ba->Ca,bh->Cb
open And renaming intro->Ai
open List renaming length_map->Lm,not_mem_nil->Ln,map_nil->Lo,map_cons->Lc,mem_cons->Lk
open Bool renaming not_false->Bf,not_true->Bt
def de (s p:List UInt8)(y:Bool)(hs:s.length<=20000)(hp:p.length<=100)(hy:preB s p=y)(q:Nat)(M:ap)(nm:Nat)(hq:M q=some ⟨1,[[.str s]]⟩)(ho:∀ z,(M z).isSome=true->z∈[q])(hqn:q<nm) :
  Ev cx 145 nm [.ptr q 0 0,.str p] M (.bool y) [(q,some ⟨1,[[.str (if y then s.drop p.length else s)]]⟩)]:=by
 have:=Cn s p (by unfold be;omega) (by unfold be;omega) q M nm hq ho hqn
 rw[hy]at this
 cases y<;>exact this
def fe {c:UInt8}{s:List UInt8} : preB s [c]=(bO c s).isSome:=by
 cases s with
 | nil=>rfl
 | cons d t =>
  rw[dU,dK]
  by_cases h:d=c
  ·rw[if_pos h,h];simp
  ·rw[if_neg h];simpa using h
def Oq (s t n r r2:List UInt8)(hs:s.length<=16384)(h1:bO 47 s=some t)(h2:e9 t=some (n,r))(h3:bO 62 (aW r)=some r2)(q:Nat)(M:ap)(nm:Nat)(hq:M q=some (bY s))(ho:∀ z,(M z).isSome=true->z∈[q])(hqn:q<nm) :
  Ev cx 146 nm [.ptr q 0 0] M (.agg [.int .u8 2,.str n,.nils,.str []]) [(q,some (bY r2))]:=by
 obtain rfl:=b8 h1
 have hk:=b8 h3
 have l1:t.length+1<=16384:=by simpa using hs
 obtain⟨_,_,_,l2⟩:=gh h2
 have l3:=dD r
 have p1:∀(M':ap) (n':Nat),M' q=some ⟨1,[[.str (47::t)]]⟩->(∀ z,(M' z).isSome=true->z∈[q])->q<n'->Ev cx 145 n' [.ptr q 0 0,.str [47]] M' (.bool true) [(q,some ⟨1,[[.str t]]⟩)]:=fun M' n' a b c=>by
  have:=de (47::t) [47] true (by omega) (by decide) (by rw[dU];rfl) q M' n' a b c
  exact this
 have p2:∀(M':ap) (n':Nat),M' q=some ⟨1,[[.str (aW r)]]⟩->(∀ z,(M' z).isSome=true->z∈[q])->q<n'->Ev cx 145 n' [.ptr q 0 0,.str [62]] M' (.bool true) [(q,some ⟨1,[[.str r2]]⟩)]:=fun M' n' a b c=>by
  rw[hk]at a l3
  have:=de (62::r2) [62] true (by omega) (by decide) (by rw[dU];rfl) q M' n' a b c
  exact this
 have hn:=lg t n r (by omega) h2
 have hsk:=kC r (by unfold be;omega)
 unfold bY at hq hn hsk ⊢
 refine bi call146 func146 rfl (by kernel_rfl) rfl ?_;intro b0 hb0;have zF:=Ai results146 ntmps146
 have lq:=aC hb0 hq
 have z0:=aE lq
 repeat' first|simp only[zF,al,hq,z0,ai,seval,ah]|exact rfl|((first|(refine ac ?_ [q] (p1 _ _ ?_ ag (by omega)) ?_ ?_)|(refine ac ?_ [q] (hn q _ _ ?_ ag (by omega)) ?_ ?_)|(refine ac ?_ [q] (hsk q _ _ ?_ ag (by omega)) ?_ ?_));iterate 3 (focus (simp only[aj,zF,al,hq,z0,ai,seval,ah]<;>exact rfl)))|((refine ac ?_ [q] (p2 _ _ ?_ ag (by omega)) ?_ ?_);iterate 3 (focus (simp only[aj,zF,al,hq,z0,ai,seval,ah]<;>exact rfl)))|((first|apply Ca|apply Cb)<;>intro hb)|refine Ai (by omega) ?_|(apply Ai<;>intro hb)
 all_goals ((refine Fin.give [(q,none)] [] ?_ ?_ ?_ ?_ ?_ (aO ho (by simp[aS,tgt]))<;>(try simp only[zF,al,hq,z0,dM,ai,seval,ah])<;>(try simp only[ao])<;>(try omega)))
def K9 (s t:List UInt8)(hs:s.length<=16384)(h1:bO 47 s=some t)(hno:rG s=none)(q:Nat)(M:ap)(nm:Nat)(hq:M q=some (bY s))(ho:∀ z,(M z).isSome=true->z∈[q])(hqn:q<nm) :
  y5 cx 146 nm [.ptr q 0 0] M Dg:=by
 obtain rfl:=b8 h1
 have l1:t.length+1<=16384:=by simpa using hs
 have p1:∀(M':ap) (n':Nat),M' q=some ⟨1,[[.str (47::t)]]⟩->(∀ z,(M' z).isSome=true->z∈[q])->q<n'->Ev cx 145 n' [.ptr q 0 0,.str [47]] M' (.bool true) [(q,some ⟨1,[[.str t]]⟩)]:=fun M' n' a b c=>by
  have:=de (47::t) [47] true (by omega) (by decide) (by rw[dU];rfl) q M' n' a b c
  exact this
 unfold bY at hq
 cases h2:e9 t with
 | none =>
  have hn:=rB t (by omega) h2
  unfold bY at hn
  refine jI rfl bR rfl call146 func146 rfl mixed (by kernel_rfl) rfl ?_;intro b0 hb0
  have lq:=aC hb0 hq
  have z0:=aE lq
  repeat' first|simp only[results146,ntmps146,al,hq,z0,aG,aH,ax,aB,av,bg,ai,seval,ah]|exact rfl|((refine ac ?_ [q] (p1 _ _ ?_ ag (by omega)) ?_ ?_);iterate 3 (focus (simp only[aj,results146,ntmps146,al,hq,z0,aG,aH,ax,aB,av,bg,ai,seval,ah]<;>exact rfl)))|((first|apply Ca|apply Cb)<;>intro hb)|refine Ai (by omega) ?_|(apply Ai<;>intro hb)
  refine cX rfl [q] (hn q _ _ ?_ ag (by omega)) ?_
  ·simp only[aj,al,hq,z0,ai,seval,ah]<;>exact rfl
  ·simp only[ax,aB,av,bg,Dg]
 | some p =>
  obtain⟨n,r⟩:=p
  obtain⟨_,_,_,l2⟩:=gh h2
  have l3:=dD r
  have h3:bO 62 (aW r)=none:=by
   unfold rG at hno
   rw[h1]at hno
   simp only[h2,Option.bind_some,Option.map_eq_none_iff]at hno
   exact hno
  have hn:=lg t n r (by omega) h2
  have hsk:=kC r (by unfold be;omega)
  have p2:=de (aW r) [62] false (by omega) (by decide) (by rw[fe,h3];rfl)
  simp only[Bool.false_eq_true,if_false]at p2
  unfold bY at hn hsk
  refine jI rfl bR rfl call146 func146 rfl mixed (by kernel_rfl) rfl ?_;intro b0 hb0
  have lq:=aC hb0 hq
  have z0:=aE lq
  repeat' first|simp only[results146,ntmps146,al,hq,z0,aG,aH,ax,aB,av,bg,ai,seval,ah]|exact rfl|((first|(refine ac ?_ [q] (p1 _ _ ?_ ag (by omega)) ?_ ?_)|(refine ac ?_ [q] (hn q _ _ ?_ ag (by omega)) ?_ ?_)|(refine ac ?_ [q] (hsk q _ _ ?_ ag (by omega)) ?_ ?_));iterate 3 (focus (simp only[aj,results146,ntmps146,al,hq,z0,aG,aH,ax,aB,av,bg,ai,seval,ah]<;>exact rfl)))|((refine ac ?_ [q] (p2 q _ _ ?_ ag (by omega)) ?_ ?_);iterate 3 (focus (simp only[aj,results146,ntmps146,al,hq,z0,aG,aH,ax,aB,av,bg,ai,seval,ah]<;>exact rfl)))|(refine cX rfl [q] (ii q _ _) ?_)|((first|apply Ca|apply Cb)<;>intro hb)|refine Ai (by omega) ?_|(apply Ai<;>intro hb)
def GL (o:Option Nat):Int:=match o with|some n=>n|none=>-1
def cG (n:Nat):GL (some n)=n:=rfl
def eI:GL none = -1:=rfl
def mS {α:Type}{p:α->Bool} : ∀ {l:List α} {k:Nat} {x:α},(l.take k).any p=false->l[k]? = some x->p x=true->l.findIdx? p=some k
 | [],k,x,_,h,_=>by simp at h
 | y::l,0,x,_,h,hp=>by simp at h;subst h;simp[List.findIdx?_cons,hp]
 | y::l,k+1,x,hn,h,hp=>by
  simp only[List.take_succ_cons,List.any_cons,Bool.or_eq_false_iff]at hn
  rw[List.findIdx?_cons,hn.1]
  simp[mS (l:=l) (k:=k) (x:=x) hn.2 (by simpa using h) hp]
def jM {α:Type}{p:α->Bool}{l:List α}(h:l.any p=false):l.findIdx? p=none:=by
 simpa [List.findIdx?_eq_none_iff] using h
def s4 {α:Type}{p:α->Bool}{l:List α}(h:l.findIdx? p=none):l.any p=false:=by
 simpa [List.findIdx?_eq_none_iff] using h
def s7 {α:Type}{p:α->Bool}{l:List α}{n:Nat}(h:l.findIdx? p=some n):l.any p=true:=by
 cases ha:l.any p with
 | true=>rfl
 | false=>rw[jM ha]at h;cases h
def fg {caps:List V}(h:plainL caps=true)(O:List (Nat×Nat))(M:ap):finL O M caps=caps:=(finL_plain O M caps h).1
def dE {caps:List V}(h:plainL caps=true)(O:List (Nat×Nat))(M:ap):finLOk O M caps=True:=eq_true (finL_plain O M caps h).2
def CY (l:List Pr)(f:Nat)(caps:List V)(p:Pr->Bool)(hf:∀ h∈l,∀ nm,Ev cx f nm (.agg (c9 h)::caps) ap.nil (.bool (p h)) [])(hn:l.length<=be)(hpl:plainL caps=true)(nm:Nat):Ev cx 173 nm [.sl false 2 (l.map c9),.fn f caps] ap.nil (.int .i64 (GL (l.findIdx? p))) []:=by
 unfold be at hn
 refine bi call173 func173 rfl (by kernel_rfl) rfl ?_;intro b0 hb0;have zF:=Ai results173 ntmps173
 repeat' first|simp only[ak,aj,zF,al,ai,seval,ah]|exact rfl|refine aa (v:=.any) ?_|((first|(refine aM (g:=?_) ?_ ?_)|(refine aI (g:=?_) ?_ ?_));rotate_left 1;(focus (simp only[zF,al,ai,seval,ah]<;>exact rfl)))|((first|apply Ca|apply Cb)<;>intro hb)|refine Ai (by omega) ?_|(apply Ai<;>intro hb)
 (refine aR bR (fun x:Nat=>l.length-x) (fun x=>x<=l.length/\(l.take x).any p=false) (b0+16) (fun x=>[(0,.sl false 2 (l.map c9)),(1,.fn f caps),(7,.int .i64 l.length),(8,.int .i64 x)]) (fun x=>[]) (0) [] ?_ ?_ ?_ ?_;rotate_left 1;(focus (show b0<=_;omega));(focus (refine⟨?_,?_⟩<;>(try simp only[aX,Lm,ay,fg hpl,dE hpl,ai,seval,ah,ao])<;>(try omega)));rotate_left 1)
 ·exact⟨Nat.zero_le _,by simp⟩
 ·rintro k ⟨hk,hno⟩
  by_cases hlt:k<l.length
  ·obtain⟨h,hh⟩:∃ h,l[k]? = some h:=⟨_,List.getElem?_eq_getElem hlt⟩
   have hat:(l.map c9)[k]? = some (c9 h):=by rw[List.getElem?_map,hh];rfl
   have hd:decide (k<l.length)=true:=decide_eq_true hlt
   have hwk:IntKind.i64.wrap ((k:Int)+1)=((k+1:Nat):Int):=bf
   have hfh:=hf h (List.mem_of_getElem? hh)
   cases hp:p h with
   | true =>
    have hfd:=mS hno hh hp
    rw[hp]at hfh
    (repeat' first|simp only[ak,aj,zF,al,hat,c9,hlt,hd,hwk,hfd,cG,Lm,ai,seval,ah]|exact rfl|refine aa (v:=.any) ?_|refine c5 (g:=f) (caps:=caps) (by simp only[zF,al,hat,c9,hlt,hd,hwk,hfd,cG,Lm,ai,seval,ah]<;>exact rfl) (by simp only[zF,al,hat,c9,hlt,hd,hwk,hfd,cG,Lm,ai,seval,ah]<;>exact rfl) (hfh _) ?_|((first|(refine aM (g:=?_) ?_ ?_)|(refine aI (g:=?_) ?_ ?_));rotate_left 1;(focus (simp only[zF,al,hat,c9,hlt,hd,hwk,hfd,cG,Lm,ai,seval,ah]<;>exact rfl)))|((first|apply Ca|apply Cb)<;>intro hb)|refine Ai (by omega) ?_|(apply Ai<;>intro hb)|refine Fin.pure ?_ ?_ ?_|simp only[ao])
   | false =>
    have hn':=gG (p:=p) hno hh hp
    rw[hp]at hfh
    repeat' first|simp only[ak,aj,zF,al,hat,c9,hlt,hd,hwk,Lm,ai,seval,ah]|exact rfl|refine aa (v:=.any) ?_|refine c5 (g:=f) (caps:=caps) (by simp only[zF,al,hat,c9,hlt,hd,hwk,Lm,ai,seval,ah]<;>exact rfl) (by simp only[zF,al,hat,c9,hlt,hd,hwk,Lm,ai,seval,ah]<;>exact rfl) (hfh _) ?_|((first|(refine aM (g:=?_) ?_ ?_)|(refine aI (g:=?_) ?_ ?_));rotate_left 1;(focus (simp only[zF,al,hat,c9,hlt,hd,hwk,Lm,ai,seval,ah]<;>exact rfl)))|((first|apply Ca|apply Cb)<;>intro hb)|refine Ai (by omega) ?_|(apply Ai<;>intro hb)
    all_goals ((refine aD bR (k+1) [] ?_ ?_ ?_ ?_;rotate_left 2;(focus (show b0<=_;omega));(focus (refine⟨?_,?_⟩<;>(try simp only[aX,ay,fg hpl,dE hpl,hwk,ai,seval,ah,ao])<;>(try omega)))))
    all_goals (first|(show l.length-(k+1)<l.length-k;omega)|exact⟨hlt,hn'⟩|skip)
  ·have hke:k=l.length:=by omega
   subst hke
   rw[List.take_length]at hno
   have hfd:=jM hno
   have hd:decide (l.length<l.length)=false:=bo
   (repeat' first|simp only[ak,aj,zF,al,hd,hfd,eI,Lm,ai,seval,ah]|exact rfl|refine aa (v:=.any) ?_|((first|(refine aM (g:=?_) ?_ ?_)|(refine aI (g:=?_) ?_ ?_));rotate_left 1;(focus (simp only[zF,al,hd,hfd,eI,Lm,ai,seval,ah]<;>exact rfl)))|((first|apply Ca|apply Cb)<;>intro hb)|refine Ai (by omega) ?_|(apply Ai<;>intro hb)|refine Fin.pure ?_ ?_ ?_|simp only[ao])
def vy (l:List Pr)(f:Nat)(caps:List V)(p:Pr->Bool)(hf:∀ h∈l,∀ nm,Ev cx f nm (.agg (c9 h)::caps) ap.nil (.bool (p h)) [])(hn:l.length<=be)(hpl:plainL caps=true)(nm:Nat):Ev cx 132 nm [.sl false 2 (l.map c9),.fn f caps] ap.nil (.bool (l.any p)) []:=by
 have hi:=CY l f caps p hf hn hpl
 cases h:l.findIdx? p with
 | none =>
  have ha:l.any p=false:=s4 h
  rw[h]at hi
  refine bi call132 func132 rfl (by kernel_rfl) rfl ?_;intro b0 hb0
  (repeat' first|simp only[ak,aj,results132,ntmps132,al,ha,eI,ai,seval,ah]|exact rfl|refine aa (v:=.any) ?_|(first|(refine ad ?_ (hi _) ?_)|(refine ab ?_ (fun _=>hi _) ?_))|((first|apply Ca|apply Cb)<;>intro hb)|refine Ai (by omega) ?_|(apply Ai<;>intro hb)|refine Fin.pure ?_ ?_ ?_|simp only[ao])
 | some n =>
  have ha:l.any p=true:=s7 h
  rw[h]at hi
  have hz:decide ((0:Int)<=(n:Int))=true:=cn
  refine bi call132 func132 rfl (by kernel_rfl) rfl ?_;intro b0 hb0
  (repeat' first|simp only[ak,aj,results132,ntmps132,al,ha,cG,hz,ai,seval,ah]|exact rfl|refine aa (v:=.any) ?_|(first|(refine ad ?_ (hi _) ?_)|(refine ab ?_ (fun _=>hi _) ?_))|((first|apply Ca|apply Cb)<;>intro hb)|refine Ai (by omega) ?_|(apply Ai<;>intro hb)|refine Fin.pure ?_ ?_ ?_|simp only[ao])
def OB (a b:Pr)(nm:Nat):Ev cx 183 nm [.agg (c9 b),.rp (c9 a)] ap.nil (.bool (a.name==b.name)) []:=by
 refine bi call183 func183 rfl (by kernel_rfl) rfl ?_;intro b0 hb0
 (repeat' first|simp only[ak,aj,results183,ntmps183,al,c9,ai,seval,ah]|exact rfl|refine aa (v:=.any) ?_|((first|apply Ca|apply Cb)<;>intro hb)|refine Ai (by omega) ?_|(apply Ai<;>intro hb)|refine Fin.pure ?_ ?_ ?_|simp only[ao])
def Bx (l:List Pr)(a:Pr)(hn:l.length<=be)(nm:Nat):Ev cx 132 nm [.sl false 2 (l.map c9),.fn 183 [.rp (c9 a)]] ap.nil (.bool (l.any fun b=>a.name==b.name)) [] :=
 vy l 183 [.rp (c9 a)] (fun b=>a.name==b.name) (fun b _ nm=>OB a b nm) hn rfl nm
end Go.Proofs.YtlnlopnpcmahgaaGreatDoor
namespace Go.Proofs.YtlnlopnpcmahgaaGreatDoor
set_option maxRecDepth 100000
set_option maxHeartbeats 32000000
open Go Go.RowKit Go.Lib
def Ey {s:List UInt8}(h:preB s [62]=true):∃ t,s=62::t/\j7 s=some (1,t):=by
 cases s with
 | nil=>cases h
 | cons c t =>
  rw[dU]at h
  obtain rfl:=eq_of_beq h
  exact⟨t,rfl,rfl⟩
def wl {s:List UInt8}(h:preB s [47,62]=true):∃ t,s=47::62::t/\j7 s=some (3,t):=by
 match s,h with
 | [],h=>cases h
 | [c],h=>simp[preB]at h
 | c::d::t,h =>
  simp[preB]at h
  obtain⟨rfl,rfl⟩:=h
  exact⟨t,rfl,rfl⟩
def zS {s:List UInt8}(h1:preB s [62]=false)(h2:preB s [47,62]=false):j7 s=none:=by
 unfold j7
 split
 ·rw[dU]at h1;simp at h1
 ·simp[preB]at h2
 ·rfl
end Go.Proofs.YtlnlopnpcmahgaaGreatDoor
namespace Go.Proofs.YtlnlopnpcmahgaaGreatDoor
set_option maxRecDepth 100000
set_option maxHeartbeats 32000000
open Go Go.RowKit Vm Go.Lib Tryz
open Vm renaming ba->Ca,bh->Cb
open And renaming intro->Ai
open List renaming length_map->Lm,not_mem_nil->Ln,map_nil->Lo,map_cons->Lc,mem_cons->Lk
open Bool renaming not_false->Bf,not_true->Bt
structure TSt where
 l:List Pr
 rest:List UInt8
def Ot (s n r0 r:List UInt8)(k:Nat)(l:List Pr)(hs:s.length<=16384)(hd:(dB s).isSome=true)(h1:bO 47 s=none)(h2:e9 s=some (n,r0))(h3:jt n [] r0=some (⟨k,n,l,[]⟩,r))(q:Nat)(M:ap)(nm:Nat)(hq:M q=some (bY s))(ho:∀ z,(M z).isSome=true->z∈[q])(hqn:q<nm) :
    Ev cx 146 nm [.ptr q 0 0] M (.agg [.int .u8 k,.str n,.own nm 0 l.length,.str []]) [(q,some (bY r)),(nm,some ⟨2,l.map c9⟩)]:=by
  have p1:=de s [47] false (by omega) (by decide) (by rw[fe,h1];rfl)
  simp only[Bool.false_eq_true,if_false]at p1
  have hn:=lg s n r0 (by omega) h2
  obtain⟨_,_,_,l2⟩:=gh h2
  have hd0:=iV hd h2
  unfold bY at hq hn ⊢
  refine bi call146 func146 rfl (by kernel_rfl) rfl ?_;intro b0 hb0;have zF:=Ai results146 ntmps146
  have lq:=aC hb0 hq
  have z0:=aE lq
  repeat' first|simp only[zF,al,hq,z0,ai,seval,ah]|exact rfl|((first|(refine ac ?_ [q] (p1 q _ _ ?_ ag (by omega)) ?_ ?_)|(refine ac ?_ [q] (hn q _ _ ?_ ag (by omega)) ?_ ?_));iterate 3 (focus (simp only[aj,zF,al,hq,z0,ai,seval,ah]<;>exact rfl)))|((first|apply Ca|apply Cb)<;>intro hb)|refine Ai (by omega) ?_|(apply Ai<;>intro hb)
  (refine aR bR (fun x:TSt=>x.rest.length) (fun x=>jt n x.l x.rest=some (⟨k,n,l,[]⟩,r)/\(dB x.rest).isSome=true/\x.rest.length+x.l.length<=16384) (b0+16) (fun x=>[(0,.ptr q 0 0),(2,.ptr b0 0 0)]) (fun x=>[(q,⟨1,[[.str x.rest]]⟩),(b0,⟨4,[[.int .u8 0,.str n,.own (b0+1) 0 x.l.length,.str []]]⟩),(b0+1,⟨2,x.l.map c9⟩)]) (⟨[],r0⟩) [some q,some b0,none] ?_ ?_ ?_ ?_;rotate_left 1;(focus (show b0<=_;omega));(focus (refine⟨?_,?_⟩<;>(try simp only[aX,hq,z0,aL,Lo,List.length_nil,ai,seval,ah,ao])<;>(try omega)));rotate_left 1)
  · exact⟨h3,hd0,by show r0.length+0<=16384;omega⟩
  · rintro ⟨xl,xr⟩ ⟨g1,g2,g3⟩
    dsimp only at g1 g2 g3 ⊢
    have gl:=dD xr
    have hsk:=kC xr (by unfold be;omega)
    unfold bY at hsk
    have hnl:(xl.map c9).length=xl.length:=Lm _
    by_cases e62:preB (aW xr) [62]=true
    · obtain⟨t,ht,hen⟩:=Ey e62
      rw[kE hen]at g1
      simp only[Option.some.injEq,Prod.mk.injEq,Tk.mk.injEq,true_and,and_true]at g1
      obtain⟨⟨rfl,rfl⟩,rfl⟩:=g1
      have p62:=de (aW xr) [62] true (by omega) (by decide) e62
      simp only[if_true,ht,List.drop_succ_cons,List.drop_zero,List.length_cons,List.length_nil]at p62 hsk
      repeat' first|simp only[zF,al,hq,z0,ai,seval,ah]|exact rfl|((first|(refine ac ?_ [q] (hsk q _ _ ?_ ag (by omega)) ?_ ?_)|(refine ac ?_ [q] (p62 q _ _ ?_ ag (by omega)) ?_ ?_));iterate 3 (focus (simp only[aj,zF,al,hq,z0,ai,seval,ah]<;>exact rfl)))|((first|apply Ca|apply Cb)<;>intro hb)|refine Ai (by omega) ?_|(apply Ai<;>intro hb)
      all_goals ((refine Fin.give [(q,none),(b0+1,some 0)] [] ?_ ?_ ?_ ?_ ?_ (aO ho (by simp[aS,tgt]))<;>(try simp only[zF,al,hq,ay,z0,dM,ai,seval,ah])<;>(try simp only[ao])<;>(try omega)))
    · have e62':preB (aW xr) [62]=false:=by simpa using e62
      have p62:=de (aW xr) [62] false (by omega) (by decide) e62'
      simp only[Bool.false_eq_true,if_false]at p62
      by_cases e47:preB (aW xr) [47,62]=true
      · obtain⟨t,ht,hen⟩:=wl e47
        rw[kE hen]at g1
        simp only[Option.some.injEq,Prod.mk.injEq,Tk.mk.injEq,true_and,and_true]at g1
        obtain⟨⟨rfl,rfl⟩,rfl⟩:=g1
        have p63:=de (aW xr) [47,62] true (by omega) (by decide) e47
        simp only[if_true,ht,List.drop_succ_cons,List.drop_zero,List.length_cons,List.length_nil]at p62 p63 hsk
        repeat' first|simp only[zF,al,hq,z0,ai,seval,ah]|exact rfl|((first|(refine ac ?_ [q] (hsk q _ _ ?_ ag (by omega)) ?_ ?_)|(refine ac ?_ [q] (p62 q _ _ ?_ ag (by omega)) ?_ ?_));iterate 3 (focus (simp only[aj,zF,al,hq,z0,ai,seval,ah]<;>exact rfl)))|((refine ac ?_ [q] (p63 q _ _ ?_ ag (by omega)) ?_ ?_);iterate 3 (focus (simp only[aj,zF,al,hq,z0,ai,seval,ah]<;>exact rfl)))|((first|apply Ca|apply Cb)<;>intro hb)|refine Ai (by omega) ?_|(apply Ai<;>intro hb)
        all_goals ((refine Fin.give [(q,none),(b0+1,some 0)] [] ?_ ?_ ?_ ?_ ?_ (aO ho (by simp[aS,tgt]))<;>(try simp only[zF,al,hq,ay,z0,dM,ai,seval,ah])<;>(try simp only[ao])<;>(try omega)))
      · have e47':preB (aW xr) [47,62]=false:=by simpa using e47
        have hen:=zS e62' e47'
        have p63:=de (aW xr) [47,62] false (by omega) (by decide) e47'
        simp only[Bool.false_eq_true,if_false]at p63
        by_cases hgap:(aW xr).length<xr.length
        · cases hat:gy (aW xr) with
          | none=>rw[sR hen hat]at g1;cases g1
          | some p =>
            obtain⟨a,r'⟩:=p
            cases hany:(xl.any fun b=>a.name==b.name) with
            | true=>rw[nQ hen hat hany]at g1;cases g1
            | false =>
              rw[lj hen hgap hat hany]at g1
              have hlt:=lp hat
              have g2':=tl (dR g2) hat
              obtain⟨r1,t,k1,k2,k3⟩:=nw hat
              have d1:=dR (iV (dR g2) k1)
              rw[k2]at d1
              have d2:=dR (b6 (d:=61) (by decide) (a:=[]) d1 rfl).2
              obtain⟨_,_,_,m1⟩:=gh k1
              have m2:=dD r1
              have m3:=dD t
              rw[k2]at m2
              simp only[List.length_cons]at m2
              have hgd:decide ((aW xr).length<xr.length)=true:=decide_eq_true hgap
              rw[hgd]at hsk
              have hn1:=lg (aW xr) a.name r1 (by omega) k1
              have hsk1:=kC r1 (by unfold be;omega)
              have hsk2:=kC t (by unfold be;omega)
              rw[k2]at hsk1
              have p61:=de (61::t) [61] true (by simp;omega) (by decide) (by rw[dU];rfl)
              simp only[if_true,List.drop_succ_cons,List.drop_zero,List.length_cons,List.length_nil]at p61
              have htw:=Bx xl ⟨a.name,[]⟩ (by unfold be;omega)
              simp only[hany,c9]at htw
              have hva:=wV (aW t) a.value r' (by omega) d2 k3
              unfold bY at hn1 hsk1 hsk2 hva
              repeat' first|simp only[zF,al,ay,hq,c9,z0,Bt,Bf,Lm,ai,seval,ah]|exact rfl|((refine ke (xs:=?_) [b0+1,b0+384] ?_ (fun _=>?_) (fun _=>?_) rfl ((fun _=>htw _)) ?_);rotate_left 1;iterate 3 (focus (simp only[ak,aj,zF,al,ay,hq,c9,z0,Bt,Bf,Lm,ai,seval,ah]<;>(first|exact rfl|omega))))|((first|(refine ac ?_ [q] (hsk q _ _ ?_ ag (by omega)) ?_ ?_)|(refine ac ?_ [q] (p62 q _ _ ?_ ag (by omega)) ?_ ?_)|(refine ac ?_ [q] (hn1 q _ _ ?_ ag (by omega)) ?_ ?_)|(refine ac ?_ [q] (hva q _ _ ?_ ag (by omega)) ?_ ?_));iterate 3 (focus (simp only[aj,zF,al,ay,hq,c9,z0,Bt,Bf,Lm,ai,seval,ah]<;>exact rfl)))|((first|(refine ac ?_ [q] (p63 q _ _ ?_ ag (by omega)) ?_ ?_)|(refine ac ?_ [q] (hsk1 q _ _ ?_ ag (by omega)) ?_ ?_));iterate 3 (focus (simp only[aj,zF,al,ay,hq,c9,z0,Bt,Bf,Lm,ai,seval,ah]<;>exact rfl)))|((first|(refine ac ?_ [q] (hsk2 q _ _ ?_ ag (by omega)) ?_ ?_)|(refine ac ?_ [q] (p61 q _ _ ?_ ag (by omega)) ?_ ?_));iterate 3 (focus (simp only[aj,zF,al,ay,hq,c9,z0,Bt,Bf,Lm,ai,seval,ah]<;>exact rfl)))|((first|apply Ca|apply Cb)<;>intro hb)|refine Ai (by omega) ?_|(apply Ai<;>intro hb)
              have hnx:xl.map c9++[[.str a.name,.str a.value]]=(xl++[a]).map c9:=by simp[c9]
              have hnn:(xl++[a]).length=xl.length+1:=by simp
              rw[hnx]
              all_goals ((refine aD bR (⟨xl++[a],r'⟩) [some q,some b0,some (b0+848)] ?_ ?_ ?_ ?_;rotate_left 2;(focus (show b0<=_;omega));(focus (refine⟨?_,?_⟩<;>(try simp only[aX,ay,hq,z0,hnn,Lm,ai,seval,ah,ao])<;>(try omega)))))
              all_goals (first|exact⟨g1,g2',by show r'.length+(xl++[a]).length<=16384;omega⟩|(show r'.length<xr.length;omega)|skip)
        · rw[lV hen hgap]at g1;cases g1
def Hq (s:List UInt8)(hs:s.length<=16384)(h1:bO 47 s=none)(h2:e9 s=none)(q:Nat)(M:ap)(nm:Nat)(hq:M q=some (bY s))(ho:∀ z,(M z).isSome=true->z∈[q])(hqn:q<nm) :
  y5 cx 146 nm [.ptr q 0 0] M Dg:=by
 have p1:=de s [47] false (by omega) (by decide) (by rw[fe,h1];rfl)
 simp only[Bool.false_eq_true,if_false]at p1
 have hn:=rB s (by omega) h2
 unfold bY at hq hn
 refine jI rfl bR rfl call146 func146 rfl mixed (by kernel_rfl) rfl ?_;intro b0 hb0
 have lq:=aC hb0 hq
 have z0:=aE lq
 repeat' first|simp only[results146,ntmps146,al,hq,z0,aG,aH,ax,aB,av,bg,ai,seval,ah]|exact rfl|((refine ac ?_ [q] (p1 q _ _ ?_ ag (by omega)) ?_ ?_);iterate 3 (focus (simp only[aj,results146,ntmps146,al,hq,z0,aG,aH,ax,aB,av,bg,ai,seval,ah]<;>exact rfl)))|((first|apply Ca|apply Cb)<;>intro hb)|refine Ai (by omega) ?_|(apply Ai<;>intro hb)
 refine cX rfl [q] (hn q _ _ ?_ ag (by omega)) ?_
 ·simp only[aj,al,hq,z0,ai,seval,ah]<;>exact rfl
 ·simp only[ax,aB,av,bg,Dg]
end Go.Proofs.YtlnlopnpcmahgaaGreatDoor
