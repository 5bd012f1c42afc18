/-
 Texts joined: XGg,XGh,XGi,XEk.
-/
import Derived.Test.YtlnlopnpcmahgaaGreatDoorQi
import Derived.Test.YtlnlopnpcmahgaaGreatDoorQg
import Derived.Test.YtlnlopnpcmahgaaGreatDoorQf
set_option linter.all false
namespace Go.Proofs.YtlnlopnpcmahgaaGreatDoor
set_option maxRecDepth 100000
set_option maxHeartbeats 32000000
open Go Go.RowKit Vm Go.Lib Tryz
open Vm renaming aW->Ca,bf->Cb
open And renaming intro->Ai
open List renaming length_map->Lm,not_mem_nil->Ln,map_nil->Lo,map_cons->Lc,mem_cons->Lk
open Bool renaming not_false->Bf,not_true->Bt
def wm:qW cx.P 73=true:=by kernel_rfl
def Bd (s:List UInt8)(n:Nat)(hl:s.length<=6)(h0:s≠[])(hv:g9 0 s=some n)(nm:Nat):Ev cx 233 nm [.str s,.int .i64 16,.int .i64 32] am.nil (.tup [.int .u64 n,.val .nilIface]) []:=by
 refine bh call233 func233 rfl (by kernel_rfl) rfl ?_;intro b0 hb0
 (repeat' first|simp only[ak,ag,results233,ntmps233,al,ai,seval,ah]|exact rfl|refine aa (v:=.any) ?_|(first|(refine ae ?_ (E4 s n hl h0 hv _) ?_)|(refine ab ?_ (fun _=>E4 s n hl h0 hv _) ?_))|(refine Ai wm ?_)|((first|apply Ca|apply Cb)<;>intro hb)|refine Ai (by omega) ?_|(apply Ai<;>intro hb)|refine Fin.pure ?_ ?_ ?_|simp only[ap])
def kC:List UInt8:=[48,49,50,51,52,53,54,55,56,57,97,98,99,100,101,102,65,66,67,68,69,70]
def Gn (c:UInt8):qX kC c.toNat=(oc c).isSome:=by
 have key:∀ n:Fin 256,qX kC n.val=(oc (UInt8.ofNat n.val)).isSome:=by decide +kernel
 have:=key ⟨c.toNat,c.toNat_lt⟩
 simpa using this
def CG (s:List UInt8):(s.all fun c=>qX kC c.toNat)=(g9 0 s).isSome:=by
 rw[<- Ag]
 unfold xe
 congr 1
 funext c
 exact Gn c
def Jr {s:List UInt8} :(dU kC (e8 kC s) != []) = !(g9 0 s).isSome:=by
 rw[<- CG]
 cases h:s.all fun c=>qX kC c.toNat with
 | true=>rw[uW.2 h];rfl
 | false =>
  have:dU kC (e8 kC s)≠[]:=fun e=>by rw[uW.1 e]at h;cases h
  simp[this]
def Nq (o:Option Nat):V:=.tup [.int .i64 (o.getD 0:Nat),.bool o.isSome]
def g8:Nq none = .tup [.int .i64 0,.bool false]:=rfl
def nN (n:Nat):Nq (some n) = .tup [.int .i64 n,.bool true]:=rfl
def MO (s:List UInt8)(hs:s.length<=bc)(nm:Nat):Ev cx 214 nm [.str s] am.nil (Nq (pS s)) []:=by
 by_cases h0:s=[]
 ·have hn:pS s=none:=by unfold pS;rw[if_pos (.inl h0)]
  subst h0
  have e0:(([]:List UInt8)==[])=true:=rfl
  rw[hn,g8]
  refine bh call214 func214 rfl (by kernel_rfl) rfl ?_;intro b0 hb0
  (repeat' first|simp only[ak,ag,results214,ntmps214,al,e0,ai,seval,ah]|exact rfl|refine aa (v:=.any) ?_|(refine aa (v:=.any) ?_)|refine az (by decide +kernel) ?_|((first|apply Ca|apply Cb)<;>intro hb)|refine Ai (by omega) ?_|(apply Ai<;>intro hb)|refine Fin.pure ?_ ?_ ?_|simp only[ap])
 have e0:(s==[])=false:=beq_false_of_ne h0
 by_cases h6:6<s.length
 ·have hn:pS s=none:=by unfold pS;rw[if_pos (.inr (.inl h6))]
  have e1:decide ((6:Int)<(s.length:Int))=true:=bR
  rw[hn,g8]
  refine bh call214 func214 rfl (by kernel_rfl) rfl ?_;intro b0 hb0
  (repeat' first|simp only[ak,ag,results214,ntmps214,al,e0,e1,ai,seval,ah]|exact rfl|refine aa (v:=.any) ?_|(refine aa (v:=.any) ?_)|refine az (by decide +kernel) ?_|((first|apply Ca|apply Cb)<;>intro hb)|refine Ai (by omega) ?_|(apply Ai<;>intro hb)|refine Fin.pure ?_ ?_ ?_|simp only[ap])
 have e1:decide ((6:Int)<(s.length:Int))=false:=bm
 have e4:0<s.length:=List.length_pos_iff.2 h0
 obtain⟨c,hc⟩:∃ c,s[0]? = some c:=⟨_,List.getElem?_eq_getElem e4⟩
 have e2:((c.toNat:Int)==48)=decide (c=48):=gE c 48
 by_cases h48:c=48
 ·have hn:pS s=none:=by unfold pS;rw[if_pos (.inr (.inr (by rw[List.head?_eq_getElem?,hc,h48])))]
  have e3:decide (c=48)=true:=decide_eq_true h48
  rw[e3]at e2
  rw[hn,g8]
  refine bh call214 func214 rfl (by kernel_rfl) rfl ?_;intro b0 hb0
  (repeat' first|simp only[ak,ag,results214,ntmps214,al,e0,e1,e2,hc,e4,ai,seval,ah]|exact rfl|refine aa (v:=.any) ?_|(refine aa (v:=.any) ?_)|refine az (by decide +kernel) ?_|((first|apply Ca|apply Cb)<;>intro hb)|refine Ai (by omega) ?_|(apply Ai<;>intro hb)|refine Fin.pure ?_ ?_ ?_|simp only[ap])
 have e3:decide (c=48)=false:=decide_eq_false h48
 rw[e3]at e2
 have hL:pS s=g9 0 s:=by
  unfold pS;rw[if_neg]
  rintro (h|h|h)
  ·exact h0 h
  ·exact h6 h
  ·rw[List.head?_eq_getElem?,hc]at h;cases h;exact h48 rfl
 have htr:=E3 kC s (by decide) (by decide) (by decide) hs
 have hq:=Jr (s:=s)
 unfold kC at htr hq
 have hq':(!(dU [48,49,50,51,52,53,54,55,56,57,97,98,99,100,101,102,65,66,67,68,69,70] (e8 [48,49,50,51,52,53,54,55,56,57,97,98,99,100,101,102,65,66,67,68,69,70] s)==[])) = !(g9 0 s).isSome:=hq
 rw[hL]
 cases hv:g9 0 s with
 | none =>
  rw[hv]at hq'
  rw[g8]
  refine bh call214 func214 rfl (by kernel_rfl) rfl ?_;intro b0 hb0
  (repeat' first|simp only[ak,ag,results214,ntmps214,al,e0,e1,e2,hc,e4,hq',Option.isSome_none,Bf,ai,seval,ah]|exact rfl|refine aa (v:=.any) ?_|(first|(refine ae ?_ (htr _) ?_)|(refine ab ?_ (fun _=>htr _) ?_))|refine az (by decide +kernel) ?_|((first|apply Ca|apply Cb)<;>intro hb)|refine Ai (by omega) ?_|(apply Ai<;>intro hb)|refine Fin.pure ?_ ?_ ?_|simp only[ap])
 | some n =>
  rw[hv]at hq'
  have hn6:=x9 s 0 n hv
  have hp6:(16:Nat) ^ s.length<=16 ^ 6:=Nat.pow_le_pow_right (by omega) (by omega)
  have hn7:n<16777216:=by simp only[Nat.zero_add,Nat.one_mul]at hn6;exact Nat.lt_of_lt_of_le hn6 hp6
  have hw:IntKind.i64.wrap (n:Int)=(n:Int):=bd
  rw[nN]
  refine bh call214 func214 rfl (by kernel_rfl) rfl ?_;intro b0 hb0
  (repeat' first|simp only[ak,ag,results214,ntmps214,al,e0,e1,e2,hc,e4,hq',hw,Option.isSome_some,Bt,ai,seval,ah]|exact rfl|refine aa (v:=.any) ?_|(first|(refine ae ?_ (htr _) ?_)|(refine ab ?_ (fun _=>htr _) ?_)|(refine ae ?_ (Bd s n (by omega) h0 hv _) ?_)|(refine ab ?_ (fun _=>Bd s n (by omega) h0 hv _) ?_))|(refine Ai wm ?_)|refine az (by decide +kernel) ?_|((first|apply Ca|apply Cb)<;>intro hb)|refine Ai (by omega) ?_|(apply Ai<;>intro hb)|refine Fin.pure ?_ ?_ ?_|simp only[ap])
def FK (s:List UInt8)(hs:s.length<=bc)(nm:Nat):Ev cx 215 nm [.str s] am.nil (Nq (oM s)) []:=by
 have h:=C4 s hs
 cases hd:oM s with
 | none =>
  rw[lQ hd]at h
  rw[g8]
  refine bh call215 func215 rfl (by kernel_rfl) rfl ?_;intro b0 hb0
  (repeat' first|simp only[ak,ag,results215,ntmps215,al,ai,seval,ah]|exact rfl|refine aa (v:=.any) ?_|(first|(refine ae ?_ (h _) ?_)|(refine ab ?_ (fun _=>h _) ?_))|((first|apply Ca|apply Cb)<;>intro hb)|refine Ai (by omega) ?_|(apply Ai<;>intro hb)|refine Fin.pure ?_ ?_ ?_|simp only[ap])
 | some n =>
  rw[uB hd]at h
  rw[nN]
  refine bh call215 func215 rfl (by kernel_rfl) rfl ?_;intro b0 hb0
  (repeat' first|simp only[ak,ag,results215,ntmps215,al,ai,seval,ah]|exact rfl|refine aa (v:=.any) ?_|(first|(refine ae ?_ (h _) ?_)|(refine ab ?_ (fun _=>h _) ?_))|((first|apply Ca|apply Cb)<;>intro hb)|refine Ai (by omega) ?_|(apply Ai<;>intro hb)|refine Fin.pure ?_ ?_ ?_|simp only[ap])
def yr (s p:List UInt8):V:=if preB s p=true then .tup [.str (s.drop p.length),.bool true] else .tup [.str s,.bool false]
def ni {s p:List UInt8}(h:preB s p=true):yr s p = .tup [.str (s.drop p.length),.bool true]:=by unfold yr;rw[if_pos h]
def qf {s p:List UInt8}(h:preB s p=false):yr s p = .tup [.str s,.bool false]:=by unfold yr;rw[if_neg (by simp[h])]
def BV (s p:List UInt8)(hs:s.length<=bc)(hp:p.length<=bc)(nm:Nat):Ev cx 194 nm [.str s,.str p] am.nil (yr s p) []:=by
 have h:=qV s p hs hp
 unfold bc at hs hp
 cases hb:preB s p with
 | true =>
  have hle:p.length<=s.length:=by
   unfold preB at hb
   simp only[Bool.and_eq_true,decide_eq_true_eq]at hb
   exact hb.1
  have hle':(p.length:Int)<=(s.length:Int):=by omega
  rw[ni hb]
  rw[hb]at h
  refine bh call194 func194 rfl (by kernel_rfl) rfl ?_;intro b0 hb0
  (repeat' first|simp only[ak,ag,results194,ntmps194,al,hle,hle',ai,seval,ah]|exact rfl|refine aa (v:=.any) ?_|(first|(refine ae ?_ (h _) ?_)|(refine ab ?_ (fun _=>h _) ?_))|((first|apply Ca|apply Cb)<;>intro hb)|refine Ai (by omega) ?_|(apply Ai<;>intro hb)|refine Fin.pure ?_ ?_ ?_|simp only[ap])
 | false =>
  rw[qf hb]
  rw[hb]at h
  refine bh call194 func194 rfl (by kernel_rfl) rfl ?_;intro b0 hb0
  (repeat' first|simp only[ak,ag,results194,ntmps194,al,ai,seval,ah]|exact rfl|refine aa (v:=.any) ?_|(first|(refine ae ?_ (h _) ?_)|(refine ab ?_ (fun _=>h _) ?_))|((first|apply Ca|apply Cb)<;>intro hb)|refine Ai (by omega) ?_|(apply Ai<;>intro hb)|refine Fin.pure ?_ ?_ ?_|simp only[ap])
def nE (s p:List UInt8)(hs:s.length<=bc)(hp:p.length<=bc)(nm:Nat):Ev cx 154 nm [.str s,.str p] am.nil (yr s p) []:=by
 have h:=BV s p hs hp
 cases hb:preB s p with
 | true =>
  rw[ni hb]at h ⊢
  refine bh call154 func154 rfl (by kernel_rfl) rfl ?_;intro b0 hb0
  (repeat' first|simp only[ak,ag,results154,ntmps154,al,ai,seval,ah]|exact rfl|refine aa (v:=.any) ?_|(first|(refine ae ?_ (h _) ?_)|(refine ab ?_ (fun _=>h _) ?_))|((first|apply Ca|apply Cb)<;>intro hb)|refine Ai (by omega) ?_|(apply Ai<;>intro hb)|refine Fin.pure ?_ ?_ ?_|simp only[ap])
 | false =>
  rw[qf hb]at h ⊢
  refine bh call154 func154 rfl (by kernel_rfl) rfl ?_;intro b0 hb0
  (repeat' first|simp only[ak,ag,results154,ntmps154,al,ai,seval,ah]|exact rfl|refine aa (v:=.any) ?_|(first|(refine ae ?_ (h _) ?_)|(refine ab ?_ (fun _=>h _) ?_))|((first|apply Ca|apply Cb)<;>intro hb)|refine Ai (by omega) ?_|(apply Ai<;>intro hb)|refine Fin.pure ?_ ?_ ?_|simp only[ap])
def kD:List (V×V):=[(.str [97,109,112],.agg [.str [38]]),(.str [108,116],.agg [.str [60]]),(.str [103,116],.agg [.str [62]]),(.str [113,117,111,116],.agg [.str [34]]),(.str [97,112,111,115],.agg [.str [39]])]
def uu:vF cx.P 247=some (9,240):=by kernel_rfl
def yg:kD=[(.str [97,109,112],.agg [.str [38]]),(.str [108,116],.agg [.str [60]]),(.str [103,116],.agg [.str [62]]),(.str [113,117,111,116],.agg [.str [34]]),(.str [97,112,111,115],.agg [.str [39]])]:=rfl
def AG (nm:Nat):Ev cx 213 nm [] am.nil (.mp nm) [(nm,some (eT kD))]:=by
 refine bh call213 func213 rfl (by kernel_rfl) rfl ?_;intro b0 hb0
 repeat' first|simp only[ak,ag,results213,ntmps213,al,uu,yg,ai,seval,ah]|exact rfl|refine aa (v:=.any) ?_|(refine iA ?_)|(refine ba ?_)|(refine aU ?_)|(refine jB (y:=?_) (kv:=?_) (xv:=?_) (kvs:=?_) ?_ ?_ ?_ ?_ uu ?_ ?_ ?_ ?_ ?_;rotate_left 4;(iterate 4 (focus (simp only[results213,ntmps213,al,uu,yg,ai,seval,ah]<;>exact rfl)));(focus (kernel_rfl));(iterate 3 (focus (exact rfl))))|((first|apply Ca|apply Cb)<;>intro hb)|refine Ai (by omega) ?_|(apply Ai<;>intro hb)
 all_goals ((refine Fin.give [(b0+16,some 0)] [] ?_ ?_ ?_ ?_ ?_ (fun q hq=>by have hqq:=C1 (l:=[]) q hq;first|(simp only[aP,tgt,Lc,Lo,Lk,Ln,or_false]at hqq ⊢;omega)|(simp only[aP,tgt,Lc,Lo,Lk,Ln,or_false]at hqq))<;>(try simp only[results213,ntmps213,al,yg,cC,bv,dx,ai,seval,ah])<;>(try simp only[ap])<;>(try omega)))
def oR (s:List UInt8):(∃ x,dH (.str s) kD=some (some (.agg [.str x]))/\cI s=some x/\x.length<=1)\/(dH (.str s) kD=some none/\cI s=if s.head? = some 35 then (if s.tail.head? = some 120 then fe (pS s.tail.tail) else fe (oM s.tail)) else none):=by
 by_cases h1:s=[97,109,112]
 ·subst h1;left;exact⟨_,rfl,GD,by simp⟩
 by_cases h2:s=[108,116]
 ·subst h2;left;exact⟨_,rfl,JR,by simp⟩
 by_cases h3:s=[103,116]
 ·subst h3;left;exact⟨_,rfl,JQ,by simp⟩
 by_cases h4:s=[113,117,111,116]
 ·subst h4;left;exact⟨_,rfl,CX,by simp⟩
 by_cases h5:s=[97,112,111,115]
 ·subst h5;left;exact⟨_,rfl,by decide,by simp⟩
 right
 have e1:(s==[97,109,112])=false:=beq_false_of_ne h1
 have e2:(s==[108,116])=false:=beq_false_of_ne h2
 have e3:(s==[103,116])=false:=beq_false_of_ne h3
 have e4:(s==[113,117,111,116])=false:=beq_false_of_ne h4
 have e5:(s==[97,112,111,115])=false:=beq_false_of_ne h5
 refine⟨?_,?_⟩
 ·simp only[yg,dH,kq,e1,e2,e3,e4,e5]
 ·unfold cI;rw[if_neg h1,if_neg h2,if_neg h3,if_neg h4,if_neg h5]
def eh:zeroOf cx.P 240=some (.agg #[.string ⟨#[]⟩]):=by kernel_rfl
def Hb (rest:List UInt8)(y n:Nat):Blk:=⟨2,[[.str rest,.own y 0 n]]⟩
def cT (rest:List UInt8)(y n:Nat):Hb rest y n=⟨2,[[.str rest,.own y 0 n]]⟩:=rfl
def Hd (rest:List UInt8)(hr:rest.length<=1000000)(hc:ep 59 rest=none)(q y:Nat)(out:List UInt8)(M:am)(nm:Nat)(hqy:q≠y)(hq:M q=some (Hb rest y out.length))(hy:M y=some (rK out))(ho:∀ w,(M w).isSome=true->w∈[q,y])(hqn:q<nm)(hyn:y<nm) :
  Ev cx 186 nm [.ptr q 0 0] M (.bool false) [(q,some (Hb rest y out.length)),(y,some (rK out))]:=by
 have hcv:=oL rest 59 (by unfold bc;omega)
 have ev:gZ 59 rest = .tup [.str rest,.str [],.bool false]:=by unfold gZ;rw[hc]
 rw[ev]at hcv
 rw[cT]at hq ⊢
 refine bh call186 func186 rfl (by kernel_rfl) rfl ?_;intro b0 hb0
 have ly:=aB hb0 hy
 have y0:=aD ly
 have lq:=aB hb0 hq
 have z0:=aD lq
 have n1:=eq_false hqy;have n4:=eq_false (Ne.symm hqy)
 repeat' first|simp only[ak,ag,results186,ntmps186,al,hq,hy,z0,y0,n1,n4,Bf,ai,seval,ah]|exact rfl|refine aa (v:=.any) ?_|(first|(refine ae ?_ (hcv _) ?_)|(refine ab ?_ (fun _=>hcv _) ?_))|((first|(refine aS (g:=?_) ?_ ?_)|(refine aM (g:=?_) ?_ ?_));rotate_left 1;(focus (simp only[results186,ntmps186,al,hq,hy,z0,y0,n1,n4,Bf,ai,seval,ah]<;>exact rfl)))|refine az (by decide +kernel) ?_|((first|apply Ca|apply Cb)<;>intro hb)|refine Ai (by omega) ?_|(apply Ai<;>intro hb)
 all_goals ((refine Fin.give [(q,none),(y,none)] [] ?_ ?_ ?_ ?_ ?_ (aL ho (by simp[aP,tgt]))<;>(try simp only[results186,ntmps186,al,hq,hy,aR,bi,aY,z0,y0,n1,n4,dx,ai,seval,ah])<;>(try simp only[ap])<;>(try omega)))
def Dn (rest a b x:List UInt8)(hr:rest.length<=1000000)(hc:ep 59 rest=some (a,b))(hf:dH (.str a) kD=some (some (.agg [.str x])))(hx:x.length<=1)(q y:Nat)(out:List UInt8)(hout:out.length<=1000000)(M:am)(nm:Nat)(hqy:q≠y)(hq:M q=some (Hb rest y out.length))(hy:M y=some (rK out))(ho:∀ w,(M w).isSome=true->w∈[q,y])(hqn:q<nm)(hyn:y<nm) :
  Ev cx 186 nm [.ptr q 0 0] M (.bool true) [(y,none),(q,some (Hb b nm (out++x).length)),(nm,some (rK (out++x)))]:=by
 have hcv:=oL rest 59 (by unfold bc;omega)
 have ev:gZ 59 rest = .tup [.str a,.str b,.bool true]:=by unfold gZ;rw[hc]
 rw[ev]at hcv
 have hmp:out.map aI++x.map aI=(out++x).map aI:=by rw[List.map_append]
 rw[List.length_append]
 rw[cT]at hq ⊢
 refine bh call186 func186 rfl (by kernel_rfl) rfl ?_;intro b0 hb0;have zF:=Ai results186 ntmps186
 have ly:=aB hb0 hy
 have y0:=aD ly
 have lq:=aB hb0 hq
 have z0:=aD lq
 have n1:=eq_false hqy;have n4:=eq_false (Ne.symm hqy)
 repeat' first|simp only[ak,ag,zF,al,hq,hy,hf,hmp,eh,cZ,aR,z0,y0,n1,n4,DP,if_true,cL,eU,au,Lm,List.take_of_length_le,Nat.le_refl,Option.bind_some,Option.getD_some,Option.isSome_some,Bt,ai,seval,ah]|exact rfl|refine aa (v:=.any) ?_|(first|(refine ae ?_ (hcv _) ?_)|(refine ab ?_ (fun _=>hcv _) ?_))|(refine b8 ?_ (AG _) ?_ ?_)|(refine jC (y:=?_) (kv:=?_) (kvs:=?_) (q:=?_) ?_ ?_ ?_ uu ?_ ?_ eh ?_ ?_ ?_;rotate_left 4;(iterate 3 (focus (simp only[zF,al,hq,hy,hf,hmp,eh,cZ,aR,z0,y0,n1,n4,DP,if_true,cL,eU,au,Lm,List.take_of_length_le,Nat.le_refl,Option.bind_some,Option.getD_some,Option.isSome_some,Bt,ai,seval,ah]<;>exact rfl)));(focus (kernel_rfl));(focus (exact rfl));(focus (simp only[zF,al,hq,hy,hf,hmp,eh,cZ,aR,z0,y0,n1,n4,DP,if_true,cL,eU,au,Lm,List.take_of_length_le,Nat.le_refl,Option.bind_some,Option.getD_some,Option.isSome_some,Bt,ai,seval,ah]<;>exact rfl));(focus (intro v hv;cases hv<;>exact rfl)))|(refine ba ?_)|(refine aU ?_)|((first|(refine aS (g:=?_) ?_ ?_)|(refine aM (g:=?_) ?_ ?_));rotate_left 1;(focus (simp only[zF,al,hq,hy,hf,hmp,eh,cZ,aR,z0,y0,n1,n4,DP,if_true,cL,eU,au,Lm,List.take_of_length_le,Nat.le_refl,Option.bind_some,Option.getD_some,Option.isSome_some,Bt,ai,seval,ah]<;>exact rfl)))|omega|refine az (by decide +kernel) ?_|((first|apply Ca|apply Cb)<;>intro hb)|refine Ai (by omega) ?_|(apply Ai<;>intro hb)
 all_goals ((refine Fin.give [(q,none),(b0+528,some 0)] [y] ?_ ?_ ?_ ?_ ?_ (aL ho (by simp[aP,tgt]))<;>(try simp only[zF,al,hq,hy,aR,bi,aY,z0,y0,n1,n4,dx,ai,seval,ah])<;>(try simp only[ap])<;>(try omega)))
def sK {s p:List UInt8} : preB s p=true ↔ ∃ t,s=p++t:=by
 unfold preB
 simp only[Bool.and_eq_true,decide_eq_true_eq,beq_iff_eq]
 constructor
 ·rintro ⟨_,h⟩
  exact⟨s.drop p.length,by conv=>lhs;rw[<- List.take_append_drop p.length s,h]⟩
 ·rintro ⟨t,rfl⟩
  simp
def qL {a:List UInt8}(hf:dH (.str a) kD=some none):cI a=if a.head? = some 35 then (if a.tail.head? = some 120 then fe (pS a.tail.tail) else fe (oM a.tail)) else none:=by
 rcases oR a with ⟨x,h,_⟩|⟨_,h⟩
 ·rw[hf]at h;cases h
 ·exact h
def GF {a:List UInt8}(hf:dH (.str a) kD=some none)(h:preB a [35,120]=true):cI a=fe (pS (a.drop 2)):=by
 obtain⟨t,rfl⟩:=sK.1 h
 rw[qL hf];rfl
def GE {a:List UInt8}(hf:dH (.str a) kD=some none)(h:preB a [35,120]=false)(h2:preB a [35]=true):cI a=fe (oM (a.drop 1)):=by
 obtain⟨t,rfl⟩:=sK.1 h2
 have h1:([35]++t).head? = some 35:=rfl
 rw[qL hf,if_pos h1,if_neg]
 ·rfl
 ·intro h3
  simp only[List.cons_append,List.nil_append,List.tail_cons]at h3
  cases t with
  | nil=>cases h3
  | cons c t =>
   cases h3
   have:=sK.2 (⟨t,rfl⟩:∃ t',[35]++120::t=[35,120]++t')
   rw[h]at this;cases this
def GG {a:List UInt8}(hf:dH (.str a) kD=some none)(h2:preB a [35]=false):cI a=none:=by
 rw[qL hf,if_neg]
 intro h3
 cases a with
 | nil=>cases h3
 | cons c t =>
  cases h3
  have:=sK.2 (⟨t,rfl⟩:∃ t',35::t=[35]++t')
  rw[h2]at this;cases this
def ux:fe none=none:=rfl
def ro {n:Nat}(h:gV (n:Int)=true):fe (some n)=some (encodeRune n):=by simp[fe,h]
def uw {n:Nat}(h:gV (n:Int)=false):fe (some n)=none:=by simp[fe,h]
def Ky {n:Int}(h:gV n=true):me [n]=0/\lM [n]=encodeRune n:=by
 have hl:=bj n
 have e:enc [n]=encodeRune n:=by simp[enc]
 have he:me [n]=0:=by unfold me;rw[if_pos (by simp[h]),e,if_neg (by omega)]
 exact⟨he,by unfold lM;rw[if_pos he,e]⟩
def Iu:List (List V):=[[.str [35,120],.fn 214 []],[.str [35],.fn 215 []]]
def bJ:Iu=[[.str [35,120],.fn 214 []],[.str [35],.fn 215 []]]:=rfl
def wN (rest a b:List UInt8)(hr:rest.length<=1000000)(hc:ep 59 rest=some (a,b))(hf:dH (.str a) kD=some none)(q y:Nat)(out:List UInt8)(hout:out.length<=1000000)(M:am)(nm:Nat)(hqy:q≠y)(hq:M q=some (Hb rest y out.length))(hy:M y=some (rK out))(ho:∀ w,(M w).isSome=true->w∈[q,y])(hqn:q<nm)(hyn:y<nm)
    (v:V) (eff:List (Nat×Option Blk)) (hve:(cI a=none/\v = .bool false/\eff=[(q,some (Hb rest y out.length)),(y,some (rK out))])\/(∃ x,cI a=some x/\v = .bool true/\eff=[(y,none),(q,some (Hb b nm (out++x).length)),(nm,some (rK (out++x)))])) :
    Ev cx 186 nm [.ptr q 0 0] M v eff:=by
  have hal:a.length<=1000000:=by
    have:=(fb hc).1
    rw[this]at hr;simp at hr;omega
  have hcv:=oL rest 59 (by unfold bc;omega)
  have ev:gZ 59 rest = .tup [.str a,.str b,.bool true]:=by unfold gZ;rw[hc]
  rw[ev]at hcv
  have hp2:=nE a [35,120] (by unfold bc;omega) (by decide)
  have hp1:=nE a [35] (by unfold bc;omega) (by decide)
  simp only[cT]at hq hve
  refine bh call186 func186 rfl (by kernel_rfl) rfl ?_;intro b0 hb0;have zF:=Ai results186 ntmps186
  have ly:=aB hb0 hy
  have y0:=aD ly
  have lq:=aB hb0 hq
  have z0:=aD lq
  have n1:=eq_false hqy;have n4:=eq_false (Ne.symm hqy)
  repeat' first|simp only[ak,ag,zF,al,hq,hy,hf,eh,cZ,aR,z0,y0,n1,n4,Option.getD_none,Option.isSome_none,Bt,ai,seval,ah]|exact rfl|refine aa (v:=.any) ?_|(first|(refine ae ?_ (hcv _) ?_)|(refine ab ?_ (fun _=>hcv _) ?_))|(refine b8 ?_ (AG _) ?_ ?_)|(refine jC (y:=?_) (kv:=?_) (kvs:=?_) (q:=?_) ?_ ?_ ?_ uu ?_ ?_ eh ?_ ?_ ?_;rotate_left 4;(iterate 3 (focus (simp only[zF,al,hq,hy,hf,eh,cZ,aR,z0,y0,n1,n4,Option.getD_none,Option.isSome_none,Bt,ai,seval,ah]<;>exact rfl)));(focus (kernel_rfl));(focus (exact rfl));(focus (simp only[zF,al,hq,hy,hf,eh,cZ,aR,z0,y0,n1,n4,Option.getD_none,Option.isSome_none,Bt,ai,seval,ah]<;>exact rfl));(focus (intro v hv;cases hv<;>exact rfl)))|(refine ba ?_)|(refine aU ?_)|((first|(refine aS (g:=?_) ?_ ?_)|(refine aM (g:=?_) ?_ ?_));rotate_left 1;(focus (simp only[zF,al,hq,hy,hf,eh,cZ,aR,z0,y0,n1,n4,Option.getD_none,Option.isSome_none,Bt,ai,seval,ah]<;>exact rfl)))|omega|refine az (by decide +kernel) ?_|((first|apply Ca|apply Cb)<;>intro hb)|refine Ai (by omega) ?_|(apply Ai<;>intro hb)
  (refine aQ bM (fun x:Nat=>2-x) (fun x=>x<=2/\(0<x->preB a [35,120]=false)/\(1<x->preB a [35]=false)) (b0+16) (fun x=>[(0,.ptr q 0 0),(3,.str a),(4,.str b),(49,.own b0 0 2),(50,.int .i64 2),(51,.int .i64 x)]) (fun x=>[(b0,⟨2,Iu⟩),(q,⟨2,[[.str rest,.own y 0 out.length]]⟩),(y,rK out)]) (0) [some (b0+432),some q,some y] ?_ ?_ ?_ ?_;rotate_left 1;(focus (show b0<=_;omega));(focus (refine⟨?_,?_⟩<;>(try simp only[aX,hq,hy,bJ,aR,bi,aY,dE,z0,y0,n1,n4,ai,seval,ah,ap])<;>(try omega)));rotate_left 1)
  · exact⟨Nat.zero_le _,fun h=>by omega,fun h=>by omega⟩
  · rintro k ⟨hk,hk1,hk2⟩
    have hdl:∀ j,(a.drop j).length<=bc:=fun j=>by rw[List.length_drop];unfold bc;omega
    rcases(show k=0\/k=1\/k=2 by omega) with rfl|rfl|rfl
    · have hwk:IntKind.i64.wrap 1=1:=by decide
      cases hb:preB a [35,120] with
      | true =>
        have hp:=hp2
        rw[ni hb]at hp
        simp only[List.length_cons,List.length_nil]at hp
        have hm:=GF hf hb
        have hx:=MO (a.drop 2) (hdl 2)
        cases hL:pS (a.drop 2) with
        | none =>
          rw[hL,g8]at hx
          rw[hL,ux]at hm
          rcases hve with ⟨_,rfl,rfl⟩|⟨x,h,_⟩
          · repeat' first|simp only[ak,ag,zF,al,hq,hy,bJ,aR,z0,y0,n1,n4,bN,Int.ofNat_zero,Int.ofNat_one,Bt,Bf,ai,seval,ah]|exact rfl|refine aa (v:=.any) ?_|(first|(refine ae ?_ (hp _) ?_)|(refine ab ?_ (fun _=>hp _) ?_)|(refine ae ?_ (hx _) ?_)|(refine ab ?_ (fun _=>hx _) ?_))|(refine aa (v:=.any) ?_)|((first|(refine aS (g:=?_) ?_ ?_)|(refine aM (g:=?_) ?_ ?_));rotate_left 1;(focus (simp only[zF,al,hq,hy,bJ,aR,z0,y0,n1,n4,bN,Int.ofNat_zero,Int.ofNat_one,Bt,Bf,ai,seval,ah]<;>exact rfl)))|refine az (by decide +kernel) ?_|((first|apply Ca|apply Cb)<;>intro hb)|refine Ai (by omega) ?_|(apply Ai<;>intro hb)
            all_goals ((refine Fin.give [(q,none),(y,none)] [] ?_ ?_ ?_ ?_ ?_ (aL ho (by simp[aP,tgt]))<;>(try simp only[zF,al,hq,hy,aR,bi,aY,z0,y0,n1,n4,dx,ai,seval,ah])<;>(try simp only[ap])<;>(try omega)))
          · rw[hm]at h;cases h
        | some n =>
          rw[hL,nN]at hx
          rw[hL]at hm
          have hmy:=ks (n:Int)
          cases hmm:gV (n:Int) with
          | false =>
            rw[hmm]at hmy
            rw[uw hmm]at hm
            rcases hve with ⟨_,rfl,rfl⟩|⟨x,h,_⟩
            · repeat' first|simp only[ak,ag,zF,al,hq,hy,bJ,aR,z0,y0,n1,n4,bN,Int.ofNat_zero,Int.ofNat_one,Bt,Bf,ai,seval,ah]|exact rfl|refine aa (v:=.any) ?_|(first|(refine ae ?_ (hp _) ?_)|(refine ab ?_ (fun _=>hp _) ?_)|(refine ae ?_ (hx _) ?_)|(refine ab ?_ (fun _=>hx _) ?_)|(refine ae ?_ (hmy _) ?_)|(refine ab ?_ (fun _=>hmy _) ?_))|((first|(refine aS (g:=?_) ?_ ?_)|(refine aM (g:=?_) ?_ ?_));rotate_left 1;(focus (simp only[zF,al,hq,hy,bJ,aR,z0,y0,n1,n4,bN,Int.ofNat_zero,Int.ofNat_one,Bt,Bf,ai,seval,ah]<;>exact rfl)))|refine az (by decide +kernel) ?_|((first|apply Ca|apply Cb)<;>intro hb)|refine Ai (by omega) ?_|(apply Ai<;>intro hb)
              all_goals ((refine Fin.give [(q,none),(y,none)] [] ?_ ?_ ?_ ?_ ?_ (aL ho (by simp[aP,tgt]))<;>(try simp only[zF,al,hq,hy,aR,bi,aY,z0,y0,n1,n4,dx,ai,seval,ah])<;>(try simp only[ap])<;>(try omega)))
            · rw[hm]at h;cases h
          | true =>
            rw[hmm]at hmy
            rw[ro hmm]at hm
            rcases hve with ⟨h,_⟩|⟨x,h,rfl,rfl⟩
            · rw[hm]at h;cases h
            · rw[hm]at h;cases h
              obtain⟨o1,o2⟩:=Ky hmm
              have hof:=O0 [(n:Int)] (by simp)
              rw[o1,o2]at hof
              simp only[bN,Lc,Lo]at hof
              have hel:=bj (n:Int)
              have hmp:out.map aI++(encodeRune (n:Int)).map aI=(out++encodeRune (n:Int)).map aI:=by rw[List.map_append]
              rw[List.length_append]
              repeat' first|simp only[ak,ag,zF,al,hq,hy,bJ,aR,z0,y0,n1,n4,bN,Int.ofNat_zero,Int.ofNat_one,hmp,DP,if_true,cL,eU,au,Lm,List.take_of_length_le,Nat.le_refl,Option.bind_some,Bt,Bf,ai,seval,ah]|exact rfl|refine aa (v:=.any) ?_|(first|(refine ae ?_ (hp _) ?_)|(refine ab ?_ (fun _=>hp _) ?_)|(refine ae ?_ (hx _) ?_)|(refine ab ?_ (fun _=>hx _) ?_)|(refine ae ?_ (hmy _) ?_)|(refine ab ?_ (fun _=>hmy _) ?_))|((refine bo (xs:=?_) [b0+544] ?_ ?_ ?_ rfl (hof _) ?_);rotate_left 1)|((first|(refine aS (g:=?_) ?_ ?_)|(refine aM (g:=?_) ?_ ?_));rotate_left 1;(focus (simp only[zF,al,hq,hy,bJ,aR,z0,y0,n1,n4,bN,Int.ofNat_zero,Int.ofNat_one,hmp,DP,if_true,cL,eU,au,Lm,List.take_of_length_le,Nat.le_refl,Option.bind_some,Bt,Bf,ai,seval,ah]<;>exact rfl)))|omega|refine az (by decide +kernel) ?_|((first|apply Ca|apply Cb)<;>intro hb)|refine Ai (by omega) ?_|(apply Ai<;>intro hb)
              all_goals ((refine Fin.give [(q,none),(b0+768,some 0)] [y] ?_ ?_ ?_ ?_ ?_ (aL ho (by simp[aP,tgt]))<;>(try simp only[zF,al,hq,hy,aR,bi,aY,z0,y0,n1,n4,dx,ai,seval,ah])<;>(try simp only[ap])<;>(try omega)))
      | false =>
        have hp:=hp2
        rw[qf hb]at hp
        repeat' first|simp only[ak,ag,zF,al,hq,hy,bJ,aR,z0,y0,n1,n4,bN,Int.ofNat_zero,Int.ofNat_one,hwk,Bt,Bf,ai,seval,ah]|exact rfl|refine aa (v:=.any) ?_|(first|(refine ae ?_ (hp _) ?_)|(refine ab ?_ (fun _=>hp _) ?_))|((first|(refine aS (g:=?_) ?_ ?_)|(refine aM (g:=?_) ?_ ?_));rotate_left 1;(focus (simp only[zF,al,hq,hy,bJ,aR,z0,y0,n1,n4,bN,Int.ofNat_zero,Int.ofNat_one,hwk,Bt,Bf,ai,seval,ah]<;>exact rfl)))|refine az (by decide +kernel) ?_|((first|apply Ca|apply Cb)<;>intro hb)|refine Ai (by omega) ?_|(apply Ai<;>intro hb)
        all_goals ((refine aC bM (1) [some b0,some q,some y] ?_ ?_ ?_ ?_;rotate_left 2;(focus (show b0<=_;omega));(focus (refine⟨?_,?_⟩<;>(try simp only[aX,hwk,bJ,dE,Int.ofNat_one,hq,hy,aR,bi,aY,z0,y0,n1,n4,ai,seval,ah,ap])<;>(try omega)))))
        all_goals (first|omega|exact⟨by omega,fun _=>hb,fun h=>by omega⟩|exact⟨by omega,fun h=>by omega⟩|skip)
    · have hwk:IntKind.i64.wrap 2=2:=by decide
      cases hb:preB a [35] with
      | true =>
        have hp:=hp1
        rw[ni hb]at hp
        simp only[List.length_cons,List.length_nil]at hp
        have hm:=GE hf (hk1 (by omega)) hb
        have hx:=FK (a.drop 1) (hdl 1)
        cases hL:oM (a.drop 1) with
        | none =>
          rw[hL,g8]at hx
          rw[hL,ux]at hm
          rcases hve with ⟨_,rfl,rfl⟩|⟨x,h,_⟩
          · repeat' first|simp only[ak,ag,zF,al,hq,hy,bJ,aR,z0,y0,n1,n4,bN,Int.ofNat_zero,Int.ofNat_one,Bt,Bf,ai,seval,ah]|exact rfl|refine aa (v:=.any) ?_|(first|(refine ae ?_ (hp _) ?_)|(refine ab ?_ (fun _=>hp _) ?_)|(refine ae ?_ (hx _) ?_)|(refine ab ?_ (fun _=>hx _) ?_))|(refine aa (v:=.any) ?_)|((first|(refine aS (g:=?_) ?_ ?_)|(refine aM (g:=?_) ?_ ?_));rotate_left 1;(focus (simp only[zF,al,hq,hy,bJ,aR,z0,y0,n1,n4,bN,Int.ofNat_zero,Int.ofNat_one,Bt,Bf,ai,seval,ah]<;>exact rfl)))|refine az (by decide +kernel) ?_|((first|apply Ca|apply Cb)<;>intro hb)|refine Ai (by omega) ?_|(apply Ai<;>intro hb)
            all_goals ((refine Fin.give [(q,none),(y,none)] [] ?_ ?_ ?_ ?_ ?_ (aL ho (by simp[aP,tgt]))<;>(try simp only[zF,al,hq,hy,aR,bi,aY,z0,y0,n1,n4,dx,ai,seval,ah])<;>(try simp only[ap])<;>(try omega)))
          · rw[hm]at h;cases h
        | some n =>
          rw[hL,nN]at hx
          rw[hL]at hm
          have hmy:=ks (n:Int)
          cases hmm:gV (n:Int) with
          | false =>
            rw[hmm]at hmy
            rw[uw hmm]at hm
            rcases hve with ⟨_,rfl,rfl⟩|⟨x,h,_⟩
            · repeat' first|simp only[ak,ag,zF,al,hq,hy,bJ,aR,z0,y0,n1,n4,bN,Int.ofNat_zero,Int.ofNat_one,Bt,Bf,ai,seval,ah]|exact rfl|refine aa (v:=.any) ?_|(first|(refine ae ?_ (hp _) ?_)|(refine ab ?_ (fun _=>hp _) ?_)|(refine ae ?_ (hx _) ?_)|(refine ab ?_ (fun _=>hx _) ?_)|(refine ae ?_ (hmy _) ?_)|(refine ab ?_ (fun _=>hmy _) ?_))|((first|(refine aS (g:=?_) ?_ ?_)|(refine aM (g:=?_) ?_ ?_));rotate_left 1;(focus (simp only[zF,al,hq,hy,bJ,aR,z0,y0,n1,n4,bN,Int.ofNat_zero,Int.ofNat_one,Bt,Bf,ai,seval,ah]<;>exact rfl)))|refine az (by decide +kernel) ?_|((first|apply Ca|apply Cb)<;>intro hb)|refine Ai (by omega) ?_|(apply Ai<;>intro hb)
              all_goals ((refine Fin.give [(q,none),(y,none)] [] ?_ ?_ ?_ ?_ ?_ (aL ho (by simp[aP,tgt]))<;>(try simp only[zF,al,hq,hy,aR,bi,aY,z0,y0,n1,n4,dx,ai,seval,ah])<;>(try simp only[ap])<;>(try omega)))
            · rw[hm]at h;cases h
          | true =>
            rw[hmm]at hmy
            rw[ro hmm]at hm
            rcases hve with ⟨h,_⟩|⟨x,h,rfl,rfl⟩
            · rw[hm]at h;cases h
            · rw[hm]at h;cases h
              obtain⟨o1,o2⟩:=Ky hmm
              have hof:=O0 [(n:Int)] (by simp)
              rw[o1,o2]at hof
              simp only[bN,Lc,Lo]at hof
              have hel:=bj (n:Int)
              have hmp:out.map aI++(encodeRune (n:Int)).map aI=(out++encodeRune (n:Int)).map aI:=by rw[List.map_append]
              rw[List.length_append]
              repeat' first|simp only[ak,ag,zF,al,hq,hy,bJ,aR,z0,y0,n1,n4,bN,Int.ofNat_zero,Int.ofNat_one,hmp,DP,if_true,cL,eU,au,Lm,List.take_of_length_le,Nat.le_refl,Option.bind_some,Bt,Bf,ai,seval,ah]|exact rfl|refine aa (v:=.any) ?_|(first|(refine ae ?_ (hp _) ?_)|(refine ab ?_ (fun _=>hp _) ?_)|(refine ae ?_ (hx _) ?_)|(refine ab ?_ (fun _=>hx _) ?_)|(refine ae ?_ (hmy _) ?_)|(refine ab ?_ (fun _=>hmy _) ?_))|((refine bo (xs:=?_) [b0+544] ?_ ?_ ?_ rfl (hof _) ?_);rotate_left 1)|((first|(refine aS (g:=?_) ?_ ?_)|(refine aM (g:=?_) ?_ ?_));rotate_left 1;(focus (simp only[zF,al,hq,hy,bJ,aR,z0,y0,n1,n4,bN,Int.ofNat_zero,Int.ofNat_one,hmp,DP,if_true,cL,eU,au,Lm,List.take_of_length_le,Nat.le_refl,Option.bind_some,Bt,Bf,ai,seval,ah]<;>exact rfl)))|omega|refine az (by decide +kernel) ?_|((first|apply Ca|apply Cb)<;>intro hb)|refine Ai (by omega) ?_|(apply Ai<;>intro hb)
              all_goals ((refine Fin.give [(q,none),(b0+768,some 0)] [y] ?_ ?_ ?_ ?_ ?_ (aL ho (by simp[aP,tgt]))<;>(try simp only[zF,al,hq,hy,aR,bi,aY,z0,y0,n1,n4,dx,ai,seval,ah])<;>(try simp only[ap])<;>(try omega)))
      | false =>
        have hp:=hp1
        rw[qf hb]at hp
        repeat' first|simp only[ak,ag,zF,al,hq,hy,bJ,aR,z0,y0,n1,n4,bN,Int.ofNat_zero,Int.ofNat_one,hwk,Bt,Bf,ai,seval,ah]|exact rfl|refine aa (v:=.any) ?_|(first|(refine ae ?_ (hp _) ?_)|(refine ab ?_ (fun _=>hp _) ?_))|((first|(refine aS (g:=?_) ?_ ?_)|(refine aM (g:=?_) ?_ ?_));rotate_left 1;(focus (simp only[zF,al,hq,hy,bJ,aR,z0,y0,n1,n4,bN,Int.ofNat_zero,Int.ofNat_one,hwk,Bt,Bf,ai,seval,ah]<;>exact rfl)))|refine az (by decide +kernel) ?_|((first|apply Ca|apply Cb)<;>intro hb)|refine Ai (by omega) ?_|(apply Ai<;>intro hb)
        all_goals ((refine aC bM (2) [some b0,some q,some y] ?_ ?_ ?_ ?_;rotate_left 2;(focus (show b0<=_;omega));(focus (refine⟨?_,?_⟩<;>(try simp only[aX,hwk,bJ,dE,Int.ofNat_one,hq,hy,aR,bi,aY,z0,y0,n1,n4,ai,seval,ah,ap])<;>(try omega)))))
        all_goals (first|omega|exact⟨by omega,hk1,fun _=>hb⟩|exact⟨by omega,fun _=>hk1 (by omega),fun _=>hb⟩|exact⟨by omega,fun _=>hb⟩|exact⟨by omega,fun _=>hk1 (by omega)⟩|skip)
    · have hm:=GG hf (hk2 (by omega))
      rcases hve with ⟨_,rfl,rfl⟩|⟨x,h,_⟩
      · repeat' first|simp only[ak,ag,zF,al,hq,hy,bJ,aR,z0,y0,n1,n4,bN,Int.ofNat_zero,Int.ofNat_one,Bt,Bf,ai,seval,ah]|exact rfl|refine aa (v:=.any) ?_|((first|(refine aS (g:=?_) ?_ ?_)|(refine aM (g:=?_) ?_ ?_));rotate_left 1;(focus (simp only[zF,al,hq,hy,bJ,aR,z0,y0,n1,n4,bN,Int.ofNat_zero,Int.ofNat_one,Bt,Bf,ai,seval,ah]<;>exact rfl)))|refine az (by decide +kernel) ?_|((first|apply Ca|apply Cb)<;>intro hb)|refine Ai (by omega) ?_|(apply Ai<;>intro hb)
        all_goals ((refine Fin.give [(q,none),(y,none)] [] ?_ ?_ ?_ ?_ ?_ (aL ho (by simp[aP,tgt]))<;>(try simp only[zF,al,hq,hy,aR,bi,aY,z0,y0,n1,n4,dx,ai,seval,ah])<;>(try simp only[ap])<;>(try omega)))
      · rw[hm]at h;cases h
def xz {Q:Post}{st:List Frm}{nm:Nat}{e:Env}{M:am}{d:Bool}{fs:List (List Nat)}{ops:List Oper}{dst:Option Tmp}{f:Operand}{args:Array Operand}{ats:Array TypeId}{t:TypeId}{pos:String}{af:Array Edge}{gd:Option (Nat×Bool)}{r:List Oper}{i:Nat}{g:FuncId}{fi:List V}{v:V}
  (hf:aw cx.G false e f = .fnb g fi) (h:aK cx Q st nm (e.putD dst (.gd false v)) M d (fs++[[]]) ops r (i+1)):ez cx Q st nm e M d fs false ops ⟨dst,.call ⟨.value f,args,ats⟩,t,pos,af,gd⟩ r i:=by
 unfold ez iv
 refine .inl ?_
 simp only[hf,V.tgt]
 exact⟨[],v,fun h=>(by cases h),h⟩
def yf {a x:List UInt8}(h:cI a=some x):x.length<=4:=by
 have hp:∀ o,fe o=some x->x.length<=4:=fun o h=>by
  cases o with
  | none=>cases h
  | some n =>
   cases hm:gV (n:Int) with
   | true=>rw[ro hm]at h;cases h;exact(bj (n:Int)).2
   | false=>rw[uw hm]at h;cases h
 unfold cI at h
 repeat' split at h
 all_goals (first|(cases h;simp;done)|exact hp _ h|cases h)
def zU (s:List UInt8):Int:=if aN s≠0 then aN s else match bY s with|none=>80|some _=>0
def Ni (s:List UInt8):List UInt8:=if zU s=0 then (bY s).getD [] else []
def Cr (s:List UInt8):V:=.tup [.str (Ni s),.int .i64 (zU s)]
def Jh {s:List UInt8}(h:aN s≠0):Cr s = .tup [.str [],.int .i64 (aN s)]:=by
 have he:zU s=aN s:=by unfold zU;rw[if_pos h]
 unfold Cr Ni;rw[he,if_neg h]
def kN {s:List UInt8}(h:aN s=0)(h2:bY s=none):Cr s = .tup [.str [],.int .i64 80]:=by
 have he:zU s=80:=by unfold zU;rw[if_neg (by simp[h]),h2]
 unfold Cr Ni;rw[he];rfl
def qN {s x:List UInt8}(h:aN s=0)(h2:bY s=some x):Cr s = .tup [.str x,.int .i64 0]:=by
 have he:zU s=0:=by unfold zU;rw[if_neg (by simp[h]),h2]
 unfold Cr Ni;rw[he,h2];rfl
section
variable (rest a b:List UInt8) (hr:rest.length<=1000000) (hc:ep 59 rest=some (a,b))
include hr hc
def KX (hm:cI a=none)(q y:Nat)(out:List UInt8)(hout:out.length<=1000000)(M:am)(nm:Nat)(hqy:q≠y)(hq:M q=some (Hb rest y out.length))(hy:M y=some (rK out))(ho:∀ w,(M w).isSome=true->w∈[q,y])(hqn:q<nm)(hyn:y<nm) :
  Ev cx 186 nm [.ptr q 0 0] M (.bool false) [(q,some (Hb rest y out.length)),(y,some (rK out))]:=by
 rcases oR a with ⟨x,_,h,_⟩|⟨hf,_⟩
 ·rw[hm]at h;cases h
 ·exact wN rest a b hr hc hf q y out hout M nm hqy hq hy ho hqn hyn _ _ (.inl ⟨hm,rfl,rfl⟩)
def He (x:List UInt8)(hm:cI a=some x)(q y:Nat)(out:List UInt8)(hout:out.length<=1000000)(M:am)(nm:Nat)(hqy:q≠y)(hq:M q=some (Hb rest y out.length))(hy:M y=some (rK out))(ho:∀ w,(M w).isSome=true->w∈[q,y])(hqn:q<nm)(hyn:y<nm) :
  Ev cx 186 nm [.ptr q 0 0] M (.bool true) [(y,none),(q,some (Hb b nm (out++x).length)),(nm,some (rK (out++x)))]:=by
 rcases oR a with ⟨x',hf,h,hx⟩|⟨hf,_⟩
 ·rw[hm]at h;cases h
  exact Dn rest a b x hr hc hf hx q y out hout M nm hqy hq hy ho hqn hyn
 ·exact wN rest a b hr hc hf q y out hout M nm hqy hq hy ho hqn hyn _ _ (.inr ⟨x,hm,rfl,rfl⟩)
end
structure RSt where
 rest:List UInt8
 out:List UInt8
def RSt.inv (s:List UInt8)(x:RSt):Prop:=bY s=(bY x.rest).map (x.out ++ ·)/\x.rest.length<=s.length/\x.out.length<=4*(s.length-x.rest.length)
def NM (o:Option (List UInt8))(a b:List UInt8):(o.map (b ++ ·)).map (a ++ ·)=o.map ((a++b) ++ ·):=by cases o<;>simp
def sC (s:List UInt8)(hs:s.length<=bc)(nm:Nat):Ev cx 148 nm [.str s] am.nil (Cr s) []:=by
  by_cases hz:aN s=0
  · have hb:(aN s != 0)=false:=by rw[hz];rfl
    have hlen:=pd hz
    refine bh call148 func148 rfl (by kernel_rfl) rfl ?_;intro b0 hb0;have zF:=Ai results148 ntmps148
    repeat' first|simp only[ak,ag,zF,al,hb,ai,seval,ah]|exact rfl|refine aa (v:=.any) ?_|(first|(refine ae ?_ (ce s hs _) ?_)|(refine ab ?_ (fun _=>ce s hs _) ?_))|((first|(refine aS (g:=?_) ?_ ?_)|(refine aM (g:=?_) ?_ ?_));rotate_left 1;(focus (simp only[zF,al,hb,ai,seval,ah]<;>exact rfl)))|((first|apply Ca|apply Cb)<;>intro hb)|refine Ai (by omega) ?_|(apply Ai<;>intro hb)
    (refine aQ bM (fun x:RSt=>x.rest.length) (fun x=>x.inv s) (b0+16) (fun x=>[(5,.ptr b0 0 0),(6,.fnb 186 [.ptr b0 0 0])]) (fun x=>[(b0,Hb x.rest (b0+1) x.out.length),(b0+1,rK x.out)]) (RSt.mk s []) [some (b0+144),none] ?_ ?_ ?_ ?_;rotate_left 1;(focus (show b0<=_;omega));(focus (refine⟨?_,?_⟩<;>(try simp only[aX,cT,aR,bi,aY,dE,aJ,Lo,List.length_nil,ai,seval,ah,ap])<;>(try omega)));rotate_left 1)
    · refine⟨?_,Nat.le_refl _,Nat.zero_le _⟩
      cases bY s<;>rfl
    · rintro ⟨rest,out⟩ ⟨h1,h2,h3⟩
      simp only at h1 h2 h3
      cases rest with
      | nil =>
        have hd:(([]:List UInt8) != [])=false:=rfl
        have hr:bY s=some out:=by rw[h1,kZ];simp
        have hv:=qN hz hr
        have htk:(out.map aI).take out.length=out.map aI:=List.take_of_length_le (by simp)
        (repeat' first|simp only[ak,ag,zF,al,hd,hv,htk,cT,aR,Lm,Nat.le_refl,ai,seval,ah]|exact rfl|refine aa (v:=.any) ?_|(refine wb (v:=?_) (bs:=out) ?_ ?_ ?_ ?_ ?_ ?_ ?_;rotate_left 1;(iterate 2 (focus (simp only[zF,al,hd,hv,htk,cT,aR,Lm,Nat.le_refl,ai,seval,ah];done)));(focus (simp only[zF,al,hd,hv,htk,cT,aR,Lm,Nat.le_refl,ai,seval,ah]<;>exact rfl));(focus (exact rfl));(focus (simp only[ag,zF,al,hd,hv,htk,cT,aR,Lm,Nat.le_refl,ai,seval,ah];done));(focus (simp only[zF,al,hd,hv,htk,cT,aR,Lm,Nat.le_refl,ai,seval,ah]<;>exact rfl)))|(refine ba ?_)|(refine aU ?_)|((first|(refine aS (g:=?_) ?_ ?_)|(refine aM (g:=?_) ?_ ?_));rotate_left 1;(focus (simp only[zF,al,hd,hv,htk,cT,aR,Lm,Nat.le_refl,ai,seval,ah]<;>exact rfl)))|((first|apply Ca|apply Cb)<;>intro hb)|refine Ai (by omega) ?_|(apply Ai<;>intro hb)|refine Fin.pure ?_ ?_ ?_|simp only[ap])
      | cons c r =>
        have hd:(!((c::r)==[]))=true:=rfl
        have hl0:0<(c::r).length:=by simp
        have hl1:1<=(c::r).length:=by simp
        have hl2:(1:Int)<=((c::r).length:Int):=by simp only[List.length_cons];omega
        simp only[List.length_cons]at hl0 hl1 hl2 h2 h3
        have q60:((c.toNat:Int)==60)=decide (c=60):=gE c 60
        have q38:((c.toNat:Int)==38)=decide (c=38):=gE c 38
        by_cases c60:c=60
        · have d60:decide (c=60)=true:=decide_eq_true c60
          rw[d60]at q60
          have hr:bY s=none:=by rw[h1,c60,nj];rfl
          have hv:=kN hz hr
          (repeat' first|simp only[ak,ag,zF,al,hd,hl0,hl1,hl2,hv,q60,cT,aR,List.getElem?_cons_zero,List.drop_succ_cons,List.drop_zero,ai,seval,ah]|exact rfl|refine aa (v:=.any) ?_|((first|(refine aS (g:=?_) ?_ ?_)|(refine aM (g:=?_) ?_ ?_));rotate_left 1;(focus (simp only[zF,al,hd,hl0,hl1,hl2,hv,q60,cT,aR,List.getElem?_cons_zero,List.drop_succ_cons,List.drop_zero,ai,seval,ah]<;>exact rfl)))|((first|apply Ca|apply Cb)<;>intro hb)|refine Ai (by omega) ?_|(apply Ai<;>intro hb)|refine Fin.pure ?_ ?_ ?_|simp only[ap])
        have d60:decide (c=60)=false:=decide_eq_false c60
        rw[d60]at q60
        by_cases c38:c=38
        · have d38:decide (c=38)=true:=decide_eq_true c38
          rw[d38]at q38
          subst c38
          cases hc:ep 59 r with
          | none =>
            have hr:bY s=none:=by rw[h1,jR hc];rfl
            have hv:=kN hz hr
            have href:=Hd r (by omega) hc b0 (b0+1) out
            (repeat' first|simp only[ak,ag,zF,al,hd,hl0,hl1,hl2,hv,q60,q38,cT,aR,List.getElem?_cons_zero,List.drop_succ_cons,List.drop_zero,Bf,ai,seval,ah]|exact rfl|refine aa (v:=.any) ?_|((refine mB (fi:=?_) ?_ ?_ [b0,b0+1] (href _ _ (by omega) ?_ ?_ aj (by omega) (by omega)) ?_ ?_);rotate_left 1)|((first|(refine aS (g:=?_) ?_ ?_)|(refine aM (g:=?_) ?_ ?_));rotate_left 1;(focus (simp only[zF,al,hd,hl0,hl1,hl2,hv,q60,q38,cT,aR,List.getElem?_cons_zero,List.drop_succ_cons,List.drop_zero,Bf,ai,seval,ah]<;>exact rfl)))|((first|apply Ca|apply Cb)<;>intro hb)|refine Ai (by omega) ?_|(apply Ai<;>intro hb)|refine Fin.pure ?_ ?_ ?_|simp only[ap])
          | some p =>
            obtain⟨a,b⟩:=p
            have hcl:=tz hc
            cases hm:cI a with
            | none =>
              have hr:bY s=none:=by rw[h1,kY hc hm];rfl
              have hv:=kN hz hr
              have href:=KX r a b (by omega) hc hm b0 (b0+1) out (by omega)
              (repeat' first|simp only[ak,ag,zF,al,hd,hl0,hl1,hl2,hv,q60,q38,cT,aR,List.getElem?_cons_zero,List.drop_succ_cons,List.drop_zero,Bf,ai,seval,ah]|exact rfl|refine aa (v:=.any) ?_|((refine mB (fi:=?_) ?_ ?_ [b0,b0+1] (href _ _ (by omega) ?_ ?_ aj (by omega) (by omega)) ?_ ?_);rotate_left 1)|((first|(refine aS (g:=?_) ?_ ?_)|(refine aM (g:=?_) ?_ ?_));rotate_left 1;(focus (simp only[zF,al,hd,hl0,hl1,hl2,hv,q60,q38,cT,aR,List.getElem?_cons_zero,List.drop_succ_cons,List.drop_zero,Bf,ai,seval,ah]<;>exact rfl)))|((first|apply Ca|apply Cb)<;>intro hb)|refine Ai (by omega) ?_|(apply Ai<;>intro hb)|refine Fin.pure ?_ ?_ ?_|simp only[ap])
            | some x =>
              have hxl:=yf hm
              have hr:bY s=(bY b).map ((out++x) ++ ·):=by rw[h1,k7 hc hm,NM]
              have href:=He r a b (by omega) hc x hm b0 (b0+1) out (by omega)
              have q38n:(((38:UInt8).toNat:Int) != 38)=false:=rfl
              repeat' first|simp only[ak,ag,zF,al,hd,hl0,hl1,hl2,q60,q38,q38n,cT,aR,au,List.getElem?_cons_zero,List.drop_succ_cons,List.drop_zero,Bt,ai,seval,ah]|exact rfl|refine aa (v:=.any) ?_|((refine mB (fi:=?_) ?_ ?_ [b0,b0+1] (href _ _ (by omega) ?_ ?_ aj (by omega) (by omega)) ?_ ?_);rotate_left 1)|((first|(refine aS (g:=?_) ?_ ?_)|(refine aM (g:=?_) ?_ ?_));rotate_left 1;(focus (simp only[zF,al,hd,hl0,hl1,hl2,q60,q38,q38n,cT,aR,au,List.getElem?_cons_zero,List.drop_succ_cons,List.drop_zero,Bt,ai,seval,ah]<;>exact rfl)))|((first|apply Ca|apply Cb)<;>intro hb)|refine Ai (by omega) ?_|(apply Ai<;>intro hb)
              all_goals ((refine aC bM (RSt.mk b (out++x)) [some b0,some (b0+448)] ?_ ?_ ?_ ?_;rotate_left 2;(focus (show b0<=_;omega));(focus (refine⟨?_,?_⟩<;>(try simp only[aX,cT,aR,bi,aY,dE,aJ,Lm,ai,seval,ah,ap])<;>(try omega)))))
              all_goals (first|(show b.length<(38::r).length;simp only[List.length_cons];omega)|(refine⟨hr,?_,?_⟩<;>simp only[List.length_append]<;>omega)|skip)
        · have d38:decide (c=38)=false:=decide_eq_false c38
          rw[d38]at q38
          have q38n:((c.toNat:Int) != 38)=true:=by unfold bne;rw[q38];rfl
          have hr:bY s=(bY r).map ((out++[c]) ++ ·):=by rw[h1,gA c60 c38];cases bY r<;>simp
          have hsn:out.map aI++[[V.int .u8 c.toNat]]=(out++[c]).map aI:=by rw[List.map_append];rfl
          repeat' first|simp only[ak,ag,zF,al,hd,hl0,hl1,hl2,q60,q38,q38n,hsn,cT,aR,au,DP,if_true,cL,eU,Lm,List.take_of_length_le,Nat.le_refl,Option.bind_some,List.getElem?_cons_zero,List.drop_succ_cons,List.drop_zero,Bt,Bf,ai,seval,ah]|exact rfl|refine aa (v:=.any) ?_|((refine xz (v:=.any) (g:=?_) (fi:=?_) ?_ ?_);rotate_left 2)|((first|(refine aS (g:=?_) ?_ ?_)|(refine aM (g:=?_) ?_ ?_));rotate_left 1;(focus (simp only[zF,al,hd,hl0,hl1,hl2,q60,q38,q38n,hsn,cT,aR,au,DP,if_true,cL,eU,Lm,List.take_of_length_le,Nat.le_refl,Option.bind_some,List.getElem?_cons_zero,List.drop_succ_cons,List.drop_zero,Bt,Bf,ai,seval,ah]<;>exact rfl)))|((first|apply Ca|apply Cb)<;>intro hb)|refine Ai (by omega) ?_|(apply Ai<;>intro hb)
          all_goals ((refine aC bM (RSt.mk r (out++[c])) [some b0,some (b0+672)] ?_ ?_ ?_ ?_;rotate_left 2;(focus (show b0<=_;omega));(focus (refine⟨?_,?_⟩<;>(try simp only[aX,cT,aR,bi,aY,dE,aJ,Lm,List.length_append,List.length_cons,List.length_nil,ai,seval,ah,ap])<;>(try omega)))))
          all_goals (first|(show r.length<(c::r).length;simp only[List.length_cons];omega)|(refine⟨hr,?_,?_⟩<;>simp only[List.length_append,List.length_cons,List.length_nil]<;>omega)|skip)
  · have hb:(aN s != 0)=true:=by rw[bne_iff_ne];exact hz
    have hv:=Jh hz
    refine bh call148 func148 rfl (by kernel_rfl) rfl ?_;intro b0 hb0;have zF:=Ai results148 ntmps148
    (repeat' first|simp only[ak,ag,zF,al,hb,hv,ai,seval,ah]|exact rfl|refine aa (v:=.any) ?_|(first|(refine ae ?_ (ce s hs _) ?_)|(refine ab ?_ (fun _=>ce s hs _) ?_))|((first|(refine aS (g:=?_) ?_ ?_)|(refine aM (g:=?_) ?_ ?_));rotate_left 1;(focus (simp only[zF,al,hb,hv,ai,seval,ah]<;>exact rfl)))|((first|apply Ca|apply Cb)<;>intro hb)|refine Ai (by omega) ?_|(apply Ai<;>intro hb)|refine Fin.pure ?_ ?_ ?_|simp only[ap])
def S0:∀ n:Nat,n<256->(decide (97<=IntKind.u8.wrap ((BitVec.ofInt IntKind.u8.bits (n:Int) ||| BitVec.ofInt IntKind.u8.bits 32).toNat:Int))&&decide (IntKind.u8.wrap ((BitVec.ofInt IntKind.u8.bits (n:Int) ||| BitVec.ofInt IntKind.u8.bits 32).toNat:Int)<=122))=((decide (97<=n)&&decide (n<=122))||(decide (65<=n)&&decide (n<=90))):=by decide +kernel
def AL:∀ p1 p2 p5 f p6 p7 p8 p9:Bool,(p1=true/\p2=true)\/(p1=true/\p2=false/\p5=true)\/(p1=false/\p5=true)\/(p1=true/\p2=false/\p5=false/\f=true)\/(p1=false/\p5=false/\f=true) \/
  (p1=true/\p2=false/\p5=false/\f=false/\p6=true/\p7=true)\/(p1=true/\p2=false/\p5=false/\f=false/\p6=true/\p7=false/\p8=true)\/(p1=true/\p2=false/\p5=false/\f=false/\p6=true/\p7=false/\p8=false) \/
  (p1=true/\p2=false/\p5=false/\f=false/\p6=false/\p8=true)\/(p1=true/\p2=false/\p5=false/\f=false/\p6=false/\p8=false) \/
  (p1=false/\p5=false/\f=false/\p6=true/\p7=true)\/(p1=false/\p5=false/\f=false/\p6=true/\p7=false/\p8=true)\/(p1=false/\p5=false/\f=false/\p6=true/\p7=false/\p8=false) \/
  (p1=false/\p5=false/\f=false/\p6=false/\p8=true)\/(p1=false/\p5=false/\f=false/\p6=false/\p8=false):=by
 intro p1 p2 p5 f p6 p7 p8 p9;cases p1<;>cases p2<;>cases p5<;>cases f<;>cases p6<;>cases p7<;>cases p8<;>simp
def KN {c:UInt8}{f p1 p2 p5 p6 p7 p8 p9:Bool}(h1:decide (97<=IntKind.u8.wrap ((BitVec.ofInt IntKind.u8.bits (c.toNat:Int) ||| BitVec.ofInt IntKind.u8.bits 32).toNat:Int))=p1)(h2:decide (IntKind.u8.wrap ((BitVec.ofInt IntKind.u8.bits (c.toNat:Int) ||| BitVec.ofInt IntKind.u8.bits 32).toNat:Int)<=122)=p2)
  (h5:decide (c=95)=p5) (h6:decide ((48:Int)<=c.toNat)=p6) (h7:decide ((c.toNat:Int)<=57)=p7) (h8:decide (c=46)=p8) (h9:decide (c=45)=p9):jQ f c=((p1&&p2)||p5||(!f&&((p6&&p7)||p8||p9))):=by
 have e:=S0 c.toNat c.toNat_lt
 rw[h1,h2]at e
 unfold jQ RE
 rw[<- e,<- h5,<- h6,<- h7,<- h8,<- h9]
 have e1:((48:Int)<=c.toNat)=(48<=c.toNat):=propext (by omega)
 have e2:((c.toNat:Int)<=57)=(c.toNat<=57):=propext (by omega)
 simp only[e1,e2]
def yq (c:UInt8)(f:Bool)(nm:Nat):Ev cx 168 nm [.int .u8 c.toNat,.bool f] am.nil (.bool (jQ f c)) []:=by
 have q5:((c.toNat:Int)==95)=decide (c=95):=gE c 95
 have q8:((c.toNat:Int)==46)=decide (c=46):=gE c 46
 have q9:((c.toNat:Int)==45)=decide (c=45):=gE c 45
 generalize h1:decide (97<=IntKind.u8.wrap ((BitVec.ofInt IntKind.u8.bits (c.toNat:Int) ||| BitVec.ofInt IntKind.u8.bits 32).toNat:Int))=p1
 generalize h2:decide (IntKind.u8.wrap ((BitVec.ofInt IntKind.u8.bits (c.toNat:Int) ||| BitVec.ofInt IntKind.u8.bits 32).toNat:Int)<=122)=p2
 generalize h5:decide (c=95)=p5
 generalize h6:decide ((48:Int)<=c.toNat)=p6
 generalize h7:decide ((c.toNat:Int)<=57)=p7
 generalize h8:decide (c=46)=p8
 generalize h9:decide (c=45)=p9
 have he:=KN (f:=f) h1 h2 h5 h6 h7 h8 h9
 rcases AL p1 p2 p5 f p6 p7 p8 p9 with ⟨rfl,rfl⟩|⟨rfl,rfl,rfl⟩|⟨rfl,rfl⟩|⟨rfl,rfl,rfl,rfl⟩|⟨rfl,rfl,rfl⟩|⟨rfl,rfl,rfl,rfl,rfl,rfl⟩|⟨rfl,rfl,rfl,rfl,rfl,rfl,rfl⟩|⟨rfl,rfl,rfl,rfl,rfl,rfl,rfl⟩|⟨rfl,rfl,rfl,rfl,rfl,rfl⟩|⟨rfl,rfl,rfl,rfl,rfl,rfl⟩|⟨rfl,rfl,rfl,rfl,rfl⟩|⟨rfl,rfl,rfl,rfl,rfl,rfl⟩|⟨rfl,rfl,rfl,rfl,rfl,rfl⟩|⟨rfl,rfl,rfl,rfl,rfl⟩|⟨rfl,rfl,rfl,rfl,rfl⟩
 all_goals simp only[Bool.true_and,Bool.false_and,Bool.and_false,Bool.true_or,Bool.or_true,Bool.false_or,Bool.or_false,Bool.and_true,Bt,Bf]at he
 all_goals (
  refine bh call168 func168 rfl (by kernel_rfl) rfl ?_;intro b0 hb0
  (repeat' first|simp only[ak,ag,results168,ntmps168,al,q5,q8,q9,h1,h2,h5,h6,h7,h8,h9,he,ai,seval,ah]|exact rfl|refine aa (v:=.any) ?_|((first|apply Ca|apply Cb)<;>intro hb)|refine Ai (by omega) ?_|(apply Ai<;>intro hb)|refine Fin.pure ?_ ?_ ?_|simp only[ap]))
end Go.Proofs.YtlnlopnpcmahgaaGreatDoor
