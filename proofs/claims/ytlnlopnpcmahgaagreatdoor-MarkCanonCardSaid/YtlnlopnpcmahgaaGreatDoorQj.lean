/-
 Texts joined: XGg,XGh,XGi,XEk.
-/
import Derived.Test.YtlnlopnpcmahgaaGreatDoorQi
import Derived.Test.YtlnlopnpcmahgaaGreatDoorQg
import Derived.Test.YtlnlopnpcmahgaaGreatDoorQf
set_option linter.all false
namespace Go.Proofs.YtlnlopnpcmahgaaGreatDoor
set_option maxRecDepth 100000
set_option maxHeartbeats 32000000
open Go Go.RowKit Vm Go.Lib Tryz
open Vm renaming ba->Ca,bh->Cb
open And renaming intro->Ai
open List renaming length_map->Lm,not_mem_nil->Ln,map_nil->Lo,map_cons->Lc,mem_cons->Lk
open Bool renaming not_false->Bf,not_true->Bt
def ww:qY cx.P 73=true:=by kernel_rfl
def BA (s:List UInt8)(n:Nat)(hl:s.length<=6)(h0:s≠[])(hv:ib 0 s=some n)(nm:Nat):Ev cx 233 nm [.str s,.int .i64 16,.int .i64 32] ap.nil (.tup [.int .u64 n,.val .nilIface]) []:=by
 refine bi call233 func233 rfl (by kernel_rfl) rfl ?_;intro b0 hb0
 (repeat' first|simp only[ak,aj,results233,ntmps233,al,ai,seval,ah]|exact rfl|refine aa (v:=.any) ?_|(first|(refine ad ?_ (Fl s n hl h0 hv _) ?_)|(refine ab ?_ (fun _=>Fl s n hl h0 hv _) ?_))|(refine Ai ww ?_)|((first|apply Ca|apply Cb)<;>intro hb)|refine Ai (by omega) ?_|(apply Ai<;>intro hb)|refine Fin.pure ?_ ?_ ?_|simp only[ao])
def kH:List UInt8:=[48,49,50,51,52,53,54,55,56,57,97,98,99,100,101,102,65,66,67,68,69,70]
def GJ (c:UInt8):qZ kH c.toNat=(nV c).isSome:=by
 have key:∀ n:Fin 256,qZ kH n.val=(nV (UInt8.ofNat n.val)).isSome:=by decide +kernel
 have:=key ⟨c.toNat,c.toNat_lt⟩
 simpa using this
def CT (s:List UInt8):(s.all fun c=>qZ kH c.toNat)=(ib 0 s).isSome:=by
 rw[<- Az]
 unfold xw
 congr 1
 funext c
 exact GJ c
def JH {s:List UInt8} :(dX kH (fc kH s) != []) = !(ib 0 s).isSome:=by
 rw[<- CT]
 cases h:s.all fun c=>qZ kH c.toNat with
 | true=>rw[u9.2 h];rfl
 | false =>
  have:dX kH (fc kH s)≠[]:=fun e=>by rw[u9.1 e]at h;cases h
  simp[this]
def NG (o:Option Nat):V:=.tup [.int .i64 (o.getD 0:Nat),.bool o.isSome]
def ia:NG none = .tup [.int .i64 0,.bool false]:=rfl
def nH (n:Nat):NG (some n) = .tup [.int .i64 n,.bool true]:=rfl
def M6 (s:List UInt8)(hs:s.length<=be)(nm:Nat):Ev cx 214 nm [.str s] ap.nil (NG (pO s)) []:=by
 by_cases h0:s=[]
 ·have hn:pO s=none:=by unfold pO;rw[if_pos (.inl h0)]
  subst h0
  have e0:(([]:List UInt8)==[])=true:=rfl
  rw[hn,ia]
  refine bi call214 func214 rfl (by kernel_rfl) rfl ?_;intro b0 hb0
  (repeat' first|simp only[ak,aj,results214,ntmps214,al,e0,ai,seval,ah]|exact rfl|refine aa (v:=.any) ?_|(refine aa (v:=.any) ?_)|refine aA (by decide +kernel) ?_|((first|apply Ca|apply Cb)<;>intro hb)|refine Ai (by omega) ?_|(apply Ai<;>intro hb)|refine Fin.pure ?_ ?_ ?_|simp only[ao])
 have e0:(s==[])=false:=beq_false_of_ne h0
 by_cases h6:6<s.length
 ·have hn:pO s=none:=by unfold pO;rw[if_pos (.inr (.inl h6))]
  have e1:decide ((6:Int)<(s.length:Int))=true:=cn
  rw[hn,ia]
  refine bi call214 func214 rfl (by kernel_rfl) rfl ?_;intro b0 hb0
  (repeat' first|simp only[ak,aj,results214,ntmps214,al,e0,e1,ai,seval,ah]|exact rfl|refine aa (v:=.any) ?_|(refine aa (v:=.any) ?_)|refine aA (by decide +kernel) ?_|((first|apply Ca|apply Cb)<;>intro hb)|refine Ai (by omega) ?_|(apply Ai<;>intro hb)|refine Fin.pure ?_ ?_ ?_|simp only[ao])
 have e1:decide ((6:Int)<(s.length:Int))=false:=bo
 have e4:0<s.length:=List.length_pos_iff.2 h0
 obtain⟨c,hc⟩:∃ c,s[0]? = some c:=⟨_,List.getElem?_eq_getElem e4⟩
 have e2:((c.toNat:Int)==48)=decide (c=48):=gK c 48
 by_cases h48:c=48
 ·have hn:pO s=none:=by unfold pO;rw[if_pos (.inr (.inr (by rw[List.head?_eq_getElem?,hc,h48])))]
  have e3:decide (c=48)=true:=decide_eq_true h48
  rw[e3]at e2
  rw[hn,ia]
  refine bi call214 func214 rfl (by kernel_rfl) rfl ?_;intro b0 hb0
  (repeat' first|simp only[ak,aj,results214,ntmps214,al,e0,e1,e2,hc,e4,ai,seval,ah]|exact rfl|refine aa (v:=.any) ?_|(refine aa (v:=.any) ?_)|refine aA (by decide +kernel) ?_|((first|apply Ca|apply Cb)<;>intro hb)|refine Ai (by omega) ?_|(apply Ai<;>intro hb)|refine Fin.pure ?_ ?_ ?_|simp only[ao])
 have e3:decide (c=48)=false:=decide_eq_false h48
 rw[e3]at e2
 have hL:pO s=ib 0 s:=by
  unfold pO;rw[if_neg]
  rintro (h|h|h)
  ·exact h0 h
  ·exact h6 h
  ·rw[List.head?_eq_getElem?,hc]at h;cases h;exact h48 rfl
 have htr:=Fk kH s (by decide) (by decide) (by decide) hs
 have hq:=JH (s:=s)
 unfold kH at htr hq
 have hq':(!(dX [48,49,50,51,52,53,54,55,56,57,97,98,99,100,101,102,65,66,67,68,69,70] (fc [48,49,50,51,52,53,54,55,56,57,97,98,99,100,101,102,65,66,67,68,69,70] s)==[])) = !(ib 0 s).isSome:=hq
 rw[hL]
 cases hv:ib 0 s with
 | none =>
  rw[hv]at hq'
  rw[ia]
  refine bi call214 func214 rfl (by kernel_rfl) rfl ?_;intro b0 hb0
  (repeat' first|simp only[ak,aj,results214,ntmps214,al,e0,e1,e2,hc,e4,hq',Option.isSome_none,Bf,ai,seval,ah]|exact rfl|refine aa (v:=.any) ?_|(first|(refine ad ?_ (htr _) ?_)|(refine ab ?_ (fun _=>htr _) ?_))|refine aA (by decide +kernel) ?_|((first|apply Ca|apply Cb)<;>intro hb)|refine Ai (by omega) ?_|(apply Ai<;>intro hb)|refine Fin.pure ?_ ?_ ?_|simp only[ao])
 | some n =>
  rw[hv]at hq'
  have hn6:=yk s 0 n hv
  have hp6:(16:Nat) ^ s.length<=16 ^ 6:=Nat.pow_le_pow_right (by omega) (by omega)
  have hn7:n<16777216:=by simp only[Nat.zero_add,Nat.one_mul]at hn6;exact Nat.lt_of_lt_of_le hn6 hp6
  have hw:IntKind.i64.wrap (n:Int)=(n:Int):=bf
  rw[nH]
  refine bi call214 func214 rfl (by kernel_rfl) rfl ?_;intro b0 hb0
  (repeat' first|simp only[ak,aj,results214,ntmps214,al,e0,e1,e2,hc,e4,hq',hw,Option.isSome_some,Bt,ai,seval,ah]|exact rfl|refine aa (v:=.any) ?_|(first|(refine ad ?_ (htr _) ?_)|(refine ab ?_ (fun _=>htr _) ?_)|(refine ad ?_ (BA s n (by omega) h0 hv _) ?_)|(refine ab ?_ (fun _=>BA s n (by omega) h0 hv _) ?_))|(refine Ai ww ?_)|refine aA (by decide +kernel) ?_|((first|apply Ca|apply Cb)<;>intro hb)|refine Ai (by omega) ?_|(apply Ai<;>intro hb)|refine Fin.pure ?_ ?_ ?_|simp only[ao])
def F4 (s:List UInt8)(hs:s.length<=be)(nm:Nat):Ev cx 215 nm [.str s] ap.nil (NG (oE s)) []:=by
 have h:=Dh s hs
 cases hd:oE s with
 | none =>
  rw[lP hd]at h
  rw[ia]
  refine bi call215 func215 rfl (by kernel_rfl) rfl ?_;intro b0 hb0
  (repeat' first|simp only[ak,aj,results215,ntmps215,al,ai,seval,ah]|exact rfl|refine aa (v:=.any) ?_|(first|(refine ad ?_ (h _) ?_)|(refine ab ?_ (fun _=>h _) ?_))|((first|apply Ca|apply Cb)<;>intro hb)|refine Ai (by omega) ?_|(apply Ai<;>intro hb)|refine Fin.pure ?_ ?_ ?_|simp only[ao])
 | some n =>
  rw[uH hd]at h
  rw[nH]
  refine bi call215 func215 rfl (by kernel_rfl) rfl ?_;intro b0 hb0
  (repeat' first|simp only[ak,aj,results215,ntmps215,al,ai,seval,ah]|exact rfl|refine aa (v:=.any) ?_|(first|(refine ad ?_ (h _) ?_)|(refine ab ?_ (fun _=>h _) ?_))|((first|apply Ca|apply Cb)<;>intro hb)|refine Ai (by omega) ?_|(apply Ai<;>intro hb)|refine Fin.pure ?_ ?_ ?_|simp only[ao])
def yC (s p:List UInt8):V:=if preB s p=true then .tup [.str (s.drop p.length),.bool true] else .tup [.str s,.bool false]
def nc {s p:List UInt8}(h:preB s p=true):yC s p = .tup [.str (s.drop p.length),.bool true]:=by unfold yC;rw[if_pos h]
def qe {s p:List UInt8}(h:preB s p=false):yC s p = .tup [.str s,.bool false]:=by unfold yC;rw[if_neg (by simp[h])]
def Cg (s p:List UInt8)(hs:s.length<=be)(hp:p.length<=be)(nm:Nat):Ev cx 194 nm [.str s,.str p] ap.nil (yC s p) []:=by
 have h:=qX s p hs hp
 unfold be at hs hp
 cases hb:preB s p with
 | true =>
  have hle:p.length<=s.length:=by
   unfold preB at hb
   simp only[Bool.and_eq_true,decide_eq_true_eq]at hb
   exact hb.1
  have hle':(p.length:Int)<=(s.length:Int):=by omega
  rw[nc hb]
  rw[hb]at h
  refine bi call194 func194 rfl (by kernel_rfl) rfl ?_;intro b0 hb0
  (repeat' first|simp only[ak,aj,results194,ntmps194,al,hle,hle',ai,seval,ah]|exact rfl|refine aa (v:=.any) ?_|(first|(refine ad ?_ (h _) ?_)|(refine ab ?_ (fun _=>h _) ?_))|((first|apply Ca|apply Cb)<;>intro hb)|refine Ai (by omega) ?_|(apply Ai<;>intro hb)|refine Fin.pure ?_ ?_ ?_|simp only[ao])
 | false =>
  rw[qe hb]
  rw[hb]at h
  refine bi call194 func194 rfl (by kernel_rfl) rfl ?_;intro b0 hb0
  (repeat' first|simp only[ak,aj,results194,ntmps194,al,ai,seval,ah]|exact rfl|refine aa (v:=.any) ?_|(first|(refine ad ?_ (h _) ?_)|(refine ab ?_ (fun _=>h _) ?_))|((first|apply Ca|apply Cb)<;>intro hb)|refine Ai (by omega) ?_|(apply Ai<;>intro hb)|refine Fin.pure ?_ ?_ ?_|simp only[ao])
def ny (s p:List UInt8)(hs:s.length<=be)(hp:p.length<=be)(nm:Nat):Ev cx 154 nm [.str s,.str p] ap.nil (yC s p) []:=by
 have h:=Cg s p hs hp
 cases hb:preB s p with
 | true =>
  rw[nc hb]at h ⊢
  refine bi call154 func154 rfl (by kernel_rfl) rfl ?_;intro b0 hb0
  (repeat' first|simp only[ak,aj,results154,ntmps154,al,ai,seval,ah]|exact rfl|refine aa (v:=.any) ?_|(first|(refine ad ?_ (h _) ?_)|(refine ab ?_ (fun _=>h _) ?_))|((first|apply Ca|apply Cb)<;>intro hb)|refine Ai (by omega) ?_|(apply Ai<;>intro hb)|refine Fin.pure ?_ ?_ ?_|simp only[ao])
 | false =>
  rw[qe hb]at h ⊢
  refine bi call154 func154 rfl (by kernel_rfl) rfl ?_;intro b0 hb0
  (repeat' first|simp only[ak,aj,results154,ntmps154,al,ai,seval,ah]|exact rfl|refine aa (v:=.any) ?_|(first|(refine ad ?_ (h _) ?_)|(refine ab ?_ (fun _=>h _) ?_))|((first|apply Ca|apply Cb)<;>intro hb)|refine Ai (by omega) ?_|(apply Ai<;>intro hb)|refine Fin.pure ?_ ?_ ?_|simp only[ao])
def kJ:List (V×V):=[(.str [97,109,112],.agg [.str [38]]),(.str [108,116],.agg [.str [60]]),(.str [103,116],.agg [.str [62]]),(.str [113,117,111,116],.agg [.str [34]]),(.str [97,112,111,115],.agg [.str [39]])]
def uC:vO cx.P 247=some (9,240):=by kernel_rfl
def yq:kJ=[(.str [97,109,112],.agg [.str [38]]),(.str [108,116],.agg [.str [60]]),(.str [103,116],.agg [.str [62]]),(.str [113,117,111,116],.agg [.str [34]]),(.str [97,112,111,115],.agg [.str [39]])]:=rfl
def A1 (nm:Nat):Ev cx 213 nm [] ap.nil (.mp nm) [(nm,some (eW kJ))]:=by
 refine bi call213 func213 rfl (by kernel_rfl) rfl ?_;intro b0 hb0
 repeat' first|simp only[ak,aj,results213,ntmps213,al,uC,yq,ai,seval,ah]|exact rfl|refine aa (v:=.any) ?_|(refine iI ?_)|(refine bd ?_)|(refine aV ?_)|(refine jK (y:=?_) (kv:=?_) (xv:=?_) (kvs:=?_) ?_ ?_ ?_ ?_ uC ?_ ?_ ?_ ?_ ?_;rotate_left 4;(iterate 4 (focus (simp only[results213,ntmps213,al,uC,yq,ai,seval,ah]<;>exact rfl)));(focus (kernel_rfl));(iterate 3 (focus (exact rfl))))|((first|apply Ca|apply Cb)<;>intro hb)|refine Ai (by omega) ?_|(apply Ai<;>intro hb)
 all_goals ((refine Fin.give [(b0+16,some 0)] [] ?_ ?_ ?_ ?_ ?_ (fun q hq=>by have hqq:=De (l:=[]) q hq;first|(simp only[aS,tgt,Lc,Lo,Lk,Ln,or_false]at hqq ⊢;omega)|(simp only[aS,tgt,Lc,Lo,Lk,Ln,or_false]at hqq))<;>(try simp only[results213,ntmps213,al,yq,cM,bt,dM,ai,seval,ah])<;>(try simp only[ao])<;>(try omega)))
def oJ (s:List UInt8):(∃ x,dL (.str s) kJ=some (some (.agg [.str x]))/\ce s=some x/\x.length<=1)\/(dL (.str s) kJ=some none/\ce s=if s.head? = some 35 then (if s.tail.head? = some 120 then fm (pO s.tail.tail) else fm (oE s.tail)) else none):=by
 by_cases h1:s=[97,109,112]
 ·subst h1;left;exact⟨_,rfl,wI,by simp⟩
 by_cases h2:s=[108,116]
 ·subst h2;left;exact⟨_,rfl,AY,by simp⟩
 by_cases h3:s=[103,116]
 ·subst h3;left;exact⟨_,rfl,AX,by simp⟩
 by_cases h4:s=[113,117,111,116]
 ·subst h4;left;exact⟨_,rfl,uB,by simp⟩
 by_cases h5:s=[97,112,111,115]
 ·subst h5;left;exact⟨_,rfl,by decide,by simp⟩
 right
 have e1:(s==[97,109,112])=false:=beq_false_of_ne h1
 have e2:(s==[108,116])=false:=beq_false_of_ne h2
 have e3:(s==[103,116])=false:=beq_false_of_ne h3
 have e4:(s==[113,117,111,116])=false:=beq_false_of_ne h4
 have e5:(s==[97,112,111,115])=false:=beq_false_of_ne h5
 refine⟨?_,?_⟩
 ·simp only[yq,dL,kB,e1,e2,e3,e4,e5]
 ·unfold ce;rw[if_neg h1,if_neg h2,if_neg h3,if_neg h4,if_neg h5]
def ei:zeroOf cx.P 240=some (.agg #[.string ⟨#[]⟩]):=by kernel_rfl
def Hr (rest:List UInt8)(y n:Nat):Blk:=⟨2,[[.str rest,.own y 0 n]]⟩
def cV (rest:List UInt8)(y n:Nat):Hr rest y n=⟨2,[[.str rest,.own y 0 n]]⟩:=rfl
def Ht (rest:List UInt8)(hr:rest.length<=1000000)(hc:eg 59 rest=none)(q y:Nat)(out:List UInt8)(M:ap)(nm:Nat)(hqy:q≠y)(hq:M q=some (Hr rest y out.length))(hy:M y=some (rK out))(ho:∀ w,(M w).isSome=true->w∈[q,y])(hqn:q<nm)(hyn:y<nm) :
  Ev cx 186 nm [.ptr q 0 0] M (.bool false) [(q,some (Hr rest y out.length)),(y,some (rK out))]:=by
 have hcv:=oD rest 59 (by unfold be;omega)
 have ev:hU 59 rest = .tup [.str rest,.str [],.bool false]:=by unfold hU;rw[hc]
 rw[ev]at hcv
 rw[cV]at hq ⊢
 refine bi call186 func186 rfl (by kernel_rfl) rfl ?_;intro b0 hb0
 have ly:=aC hb0 hy
 have y0:=aE ly
 have lq:=aC hb0 hq
 have z0:=aE lq
 have n1:=eq_false hqy;have n4:=eq_false (Ne.symm hqy)
 repeat' first|simp only[ak,aj,results186,ntmps186,al,hq,hy,z0,y0,n1,n4,Bf,ai,seval,ah]|exact rfl|refine aa (v:=.any) ?_|(first|(refine ad ?_ (hcv _) ?_)|(refine ab ?_ (fun _=>hcv _) ?_))|((first|(refine aM (g:=?_) ?_ ?_)|(refine aI (g:=?_) ?_ ?_));rotate_left 1;(focus (simp only[results186,ntmps186,al,hq,hy,z0,y0,n1,n4,Bf,ai,seval,ah]<;>exact rfl)))|refine aA (by decide +kernel) ?_|((first|apply Ca|apply Cb)<;>intro hb)|refine Ai (by omega) ?_|(apply Ai<;>intro hb)
 all_goals ((refine Fin.give [(q,none),(y,none)] [] ?_ ?_ ?_ ?_ ?_ (aO ho (by simp[aS,tgt]))<;>(try simp only[results186,ntmps186,al,hq,hy,aT,bj,aY,z0,y0,n1,n4,dM,ai,seval,ah])<;>(try simp only[ao])<;>(try omega)))
def DE (rest a b x:List UInt8)(hr:rest.length<=1000000)(hc:eg 59 rest=some (a,b))(hf:dL (.str a) kJ=some (some (.agg [.str x])))(hx:x.length<=1)(q y:Nat)(out:List UInt8)(hout:out.length<=1000000)(M:ap)(nm:Nat)(hqy:q≠y)(hq:M q=some (Hr rest y out.length))(hy:M y=some (rK out))(ho:∀ w,(M w).isSome=true->w∈[q,y])(hqn:q<nm)(hyn:y<nm) :
  Ev cx 186 nm [.ptr q 0 0] M (.bool true) [(y,none),(q,some (Hr b nm (out++x).length)),(nm,some (rK (out++x)))]:=by
 have hcv:=oD rest 59 (by unfold be;omega)
 have ev:hU 59 rest = .tup [.str a,.str b,.bool true]:=by unfold hU;rw[hc]
 rw[ev]at hcv
 have hmp:out.map aJ++x.map aJ=(out++x).map aJ:=by rw[List.map_append]
 rw[List.length_append]
 rw[cV]at hq ⊢
 refine bi call186 func186 rfl (by kernel_rfl) rfl ?_;intro b0 hb0;have zF:=Ai results186 ntmps186
 have ly:=aC hb0 hy
 have y0:=aE ly
 have lq:=aC hb0 hq
 have z0:=aE lq
 have n1:=eq_false hqy;have n4:=eq_false (Ne.symm hqy)
 repeat' first|simp only[ak,aj,zF,al,hq,hy,hf,hmp,ei,c6,aT,z0,y0,n1,n4,D5,if_true,cS,eX,au,Lm,List.take_of_length_le,Nat.le_refl,Option.bind_some,Option.getD_some,Option.isSome_some,Bt,ai,seval,ah]|exact rfl|refine aa (v:=.any) ?_|(first|(refine ad ?_ (hcv _) ?_)|(refine ab ?_ (fun _=>hcv _) ?_))|(refine gA ?_ (A1 _) ?_ ?_)|(refine jL (y:=?_) (kv:=?_) (kvs:=?_) (q:=?_) ?_ ?_ ?_ uC ?_ ?_ ei ?_ ?_ ?_;rotate_left 4;(iterate 3 (focus (simp only[zF,al,hq,hy,hf,hmp,ei,c6,aT,z0,y0,n1,n4,D5,if_true,cS,eX,au,Lm,List.take_of_length_le,Nat.le_refl,Option.bind_some,Option.getD_some,Option.isSome_some,Bt,ai,seval,ah]<;>exact rfl)));(focus (kernel_rfl));(focus (exact rfl));(focus (simp only[zF,al,hq,hy,hf,hmp,ei,c6,aT,z0,y0,n1,n4,D5,if_true,cS,eX,au,Lm,List.take_of_length_le,Nat.le_refl,Option.bind_some,Option.getD_some,Option.isSome_some,Bt,ai,seval,ah]<;>exact rfl));(focus (intro v hv;cases hv<;>exact rfl)))|(refine bd ?_)|(refine aV ?_)|((first|(refine aM (g:=?_) ?_ ?_)|(refine aI (g:=?_) ?_ ?_));rotate_left 1;(focus (simp only[zF,al,hq,hy,hf,hmp,ei,c6,aT,z0,y0,n1,n4,D5,if_true,cS,eX,au,Lm,List.take_of_length_le,Nat.le_refl,Option.bind_some,Option.getD_some,Option.isSome_some,Bt,ai,seval,ah]<;>exact rfl)))|omega|refine aA (by decide +kernel) ?_|((first|apply Ca|apply Cb)<;>intro hb)|refine Ai (by omega) ?_|(apply Ai<;>intro hb)
 all_goals ((refine Fin.give [(q,none),(b0+528,some 0)] [y] ?_ ?_ ?_ ?_ ?_ (aO ho (by simp[aS,tgt]))<;>(try simp only[zF,al,hq,hy,aT,bj,aY,z0,y0,n1,n4,dM,ai,seval,ah])<;>(try simp only[ao])<;>(try omega)))
def sO {s p:List UInt8} : preB s p=true ↔ ∃ t,s=p++t:=by
 unfold preB
 simp only[Bool.and_eq_true,decide_eq_true_eq,beq_iff_eq]
 constructor
 ·rintro ⟨_,h⟩
  exact⟨s.drop p.length,by conv=>lhs;rw[<- List.take_append_drop p.length s,h]⟩
 ·rintro ⟨t,rfl⟩
  simp
def qJ {a:List UInt8}(hf:dL (.str a) kJ=some none):ce a=if a.head? = some 35 then (if a.tail.head? = some 120 then fm (pO a.tail.tail) else fm (oE a.tail)) else none:=by
 rcases oJ a with ⟨x,h,_⟩|⟨_,h⟩
 ·rw[hf]at h;cases h
 ·exact h
def GW {a:List UInt8}(hf:dL (.str a) kJ=some none)(h:preB a [35,120]=true):ce a=fm (pO (a.drop 2)):=by
 obtain⟨t,rfl⟩:=sO.1 h
 rw[qJ hf];rfl
def GV {a:List UInt8}(hf:dL (.str a) kJ=some none)(h:preB a [35,120]=false)(h2:preB a [35]=true):ce a=fm (oE (a.drop 1)):=by
 obtain⟨t,rfl⟩:=sO.1 h2
 have h1:([35]++t).head? = some 35:=rfl
 rw[qJ hf,if_pos h1,if_neg]
 ·rfl
 ·intro h3
  simp only[List.cons_append,List.nil_append,List.tail_cons]at h3
  cases t with
  | nil=>cases h3
  | cons c t =>
   cases h3
   have:=sO.2 (⟨t,rfl⟩:∃ t',[35]++120::t=[35,120]++t')
   rw[h]at this;cases this
def GX {a:List UInt8}(hf:dL (.str a) kJ=some none)(h2:preB a [35]=false):ce a=none:=by
 rw[qJ hf,if_neg]
 intro h3
 cases a with
 | nil=>cases h3
 | cons c t =>
  cases h3
  have:=sO.2 (⟨t,rfl⟩:∃ t',35::t=[35]++t')
  rw[h2]at this;cases this
def uF:fm none=none:=rfl
def rr {n:Nat}(h:gq (n:Int)=true):fm (some n)=some (encodeRune n):=by simp[fm,h]
def uE {n:Nat}(h:gq (n:Int)=false):fm (some n)=none:=by simp[fm,h]
def KN {n:Int}(h:gq n=true):md [n]=0/\lM [n]=encodeRune n:=by
 have hl:=bk n
 have e:enc [n]=encodeRune n:=by simp[enc]
 have he:md [n]=0:=by unfold md;rw[if_pos (by simp[h]),e,if_neg (by omega)]
 exact⟨he,by unfold lM;rw[if_pos he,e]⟩
def IM:List (List V):=[[.str [35,120],.fn 214 []],[.str [35],.fn 215 []]]
def bI:IM=[[.str [35,120],.fn 214 []],[.str [35],.fn 215 []]]:=rfl
def wX (rest a b:List UInt8)(hr:rest.length<=1000000)(hc:eg 59 rest=some (a,b))(hf:dL (.str a) kJ=some none)(q y:Nat)(out:List UInt8)(hout:out.length<=1000000)(M:ap)(nm:Nat)(hqy:q≠y)(hq:M q=some (Hr rest y out.length))(hy:M y=some (rK out))(ho:∀ w,(M w).isSome=true->w∈[q,y])(hqn:q<nm)(hyn:y<nm)
    (v:V) (eff:List (Nat×Option Blk)) (hve:(ce a=none/\v = .bool false/\eff=[(q,some (Hr rest y out.length)),(y,some (rK out))])\/(∃ x,ce a=some x/\v = .bool true/\eff=[(y,none),(q,some (Hr b nm (out++x).length)),(nm,some (rK (out++x)))])) :
    Ev cx 186 nm [.ptr q 0 0] M v eff:=by
  have hal:a.length<=1000000:=by
    have:=(eH hc).1
    rw[this]at hr;simp at hr;omega
  have hcv:=oD rest 59 (by unfold be;omega)
  have ev:hU 59 rest = .tup [.str a,.str b,.bool true]:=by unfold hU;rw[hc]
  rw[ev]at hcv
  have hp2:=ny a [35,120] (by unfold be;omega) (by decide)
  have hp1:=ny a [35] (by unfold be;omega) (by decide)
  simp only[cV]at hq hve
  refine bi call186 func186 rfl (by kernel_rfl) rfl ?_;intro b0 hb0;have zF:=Ai results186 ntmps186
  have ly:=aC hb0 hy
  have y0:=aE ly
  have lq:=aC hb0 hq
  have z0:=aE lq
  have n1:=eq_false hqy;have n4:=eq_false (Ne.symm hqy)
  repeat' first|simp only[ak,aj,zF,al,hq,hy,hf,ei,c6,aT,z0,y0,n1,n4,Option.getD_none,Option.isSome_none,Bt,ai,seval,ah]|exact rfl|refine aa (v:=.any) ?_|(first|(refine ad ?_ (hcv _) ?_)|(refine ab ?_ (fun _=>hcv _) ?_))|(refine gA ?_ (A1 _) ?_ ?_)|(refine jL (y:=?_) (kv:=?_) (kvs:=?_) (q:=?_) ?_ ?_ ?_ uC ?_ ?_ ei ?_ ?_ ?_;rotate_left 4;(iterate 3 (focus (simp only[zF,al,hq,hy,hf,ei,c6,aT,z0,y0,n1,n4,Option.getD_none,Option.isSome_none,Bt,ai,seval,ah]<;>exact rfl)));(focus (kernel_rfl));(focus (exact rfl));(focus (simp only[zF,al,hq,hy,hf,ei,c6,aT,z0,y0,n1,n4,Option.getD_none,Option.isSome_none,Bt,ai,seval,ah]<;>exact rfl));(focus (intro v hv;cases hv<;>exact rfl)))|(refine bd ?_)|(refine aV ?_)|((first|(refine aM (g:=?_) ?_ ?_)|(refine aI (g:=?_) ?_ ?_));rotate_left 1;(focus (simp only[zF,al,hq,hy,hf,ei,c6,aT,z0,y0,n1,n4,Option.getD_none,Option.isSome_none,Bt,ai,seval,ah]<;>exact rfl)))|omega|refine aA (by decide +kernel) ?_|((first|apply Ca|apply Cb)<;>intro hb)|refine Ai (by omega) ?_|(apply Ai<;>intro hb)
  (refine aR bR (fun x:Nat=>2-x) (fun x=>x<=2/\(0<x->preB a [35,120]=false)/\(1<x->preB a [35]=false)) (b0+16) (fun x=>[(0,.ptr q 0 0),(3,.str a),(4,.str b),(49,.own b0 0 2),(50,.int .i64 2),(51,.int .i64 x)]) (fun x=>[(b0,⟨2,IM⟩),(q,⟨2,[[.str rest,.own y 0 out.length]]⟩),(y,rK out)]) (0) [some (b0+432),some q,some y] ?_ ?_ ?_ ?_;rotate_left 1;(focus (show b0<=_;omega));(focus (refine⟨?_,?_⟩<;>(try simp only[aX,hq,hy,bI,aT,bj,aY,dI,z0,y0,n1,n4,ai,seval,ah,ao])<;>(try omega)));rotate_left 1)
  · exact⟨Nat.zero_le _,fun h=>by omega,fun h=>by omega⟩
  · rintro k ⟨hk,hk1,hk2⟩
    have hdl:∀ j,(a.drop j).length<=be:=fun j=>by rw[List.length_drop];unfold be;omega
    rcases(show k=0\/k=1\/k=2 by omega) with rfl|rfl|rfl
    · have hwk:IntKind.i64.wrap 1=1:=by decide
      cases hb:preB a [35,120] with
      | true =>
        have hp:=hp2
        rw[nc hb]at hp
        simp only[List.length_cons,List.length_nil]at hp
        have hm:=GW hf hb
        have hx:=M6 (a.drop 2) (hdl 2)
        cases hL:pO (a.drop 2) with
        | none =>
          rw[hL,ia]at hx
          rw[hL,uF]at hm
          rcases hve with ⟨_,rfl,rfl⟩|⟨x,h,_⟩
          · repeat' first|simp only[ak,aj,zF,al,hq,hy,bI,aT,z0,y0,n1,n4,bP,Int.ofNat_zero,Int.ofNat_one,Bt,Bf,ai,seval,ah]|exact rfl|refine aa (v:=.any) ?_|(first|(refine ad ?_ (hp _) ?_)|(refine ab ?_ (fun _=>hp _) ?_)|(refine ad ?_ (hx _) ?_)|(refine ab ?_ (fun _=>hx _) ?_))|(refine aa (v:=.any) ?_)|((first|(refine aM (g:=?_) ?_ ?_)|(refine aI (g:=?_) ?_ ?_));rotate_left 1;(focus (simp only[zF,al,hq,hy,bI,aT,z0,y0,n1,n4,bP,Int.ofNat_zero,Int.ofNat_one,Bt,Bf,ai,seval,ah]<;>exact rfl)))|refine aA (by decide +kernel) ?_|((first|apply Ca|apply Cb)<;>intro hb)|refine Ai (by omega) ?_|(apply Ai<;>intro hb)
            all_goals ((refine Fin.give [(q,none),(y,none)] [] ?_ ?_ ?_ ?_ ?_ (aO ho (by simp[aS,tgt]))<;>(try simp only[zF,al,hq,hy,aT,bj,aY,z0,y0,n1,n4,dM,ai,seval,ah])<;>(try simp only[ao])<;>(try omega)))
          · rw[hm]at h;cases h
        | some n =>
          rw[hL,nH]at hx
          rw[hL]at hm
          have hmy:=kD (n:Int)
          cases hmm:gq (n:Int) with
          | false =>
            rw[hmm]at hmy
            rw[uE hmm]at hm
            rcases hve with ⟨_,rfl,rfl⟩|⟨x,h,_⟩
            · repeat' first|simp only[ak,aj,zF,al,hq,hy,bI,aT,z0,y0,n1,n4,bP,Int.ofNat_zero,Int.ofNat_one,Bt,Bf,ai,seval,ah]|exact rfl|refine aa (v:=.any) ?_|(first|(refine ad ?_ (hp _) ?_)|(refine ab ?_ (fun _=>hp _) ?_)|(refine ad ?_ (hx _) ?_)|(refine ab ?_ (fun _=>hx _) ?_)|(refine ad ?_ (hmy _) ?_)|(refine ab ?_ (fun _=>hmy _) ?_))|((first|(refine aM (g:=?_) ?_ ?_)|(refine aI (g:=?_) ?_ ?_));rotate_left 1;(focus (simp only[zF,al,hq,hy,bI,aT,z0,y0,n1,n4,bP,Int.ofNat_zero,Int.ofNat_one,Bt,Bf,ai,seval,ah]<;>exact rfl)))|refine aA (by decide +kernel) ?_|((first|apply Ca|apply Cb)<;>intro hb)|refine Ai (by omega) ?_|(apply Ai<;>intro hb)
              all_goals ((refine Fin.give [(q,none),(y,none)] [] ?_ ?_ ?_ ?_ ?_ (aO ho (by simp[aS,tgt]))<;>(try simp only[zF,al,hq,hy,aT,bj,aY,z0,y0,n1,n4,dM,ai,seval,ah])<;>(try simp only[ao])<;>(try omega)))
            · rw[hm]at h;cases h
          | true =>
            rw[hmm]at hmy
            rw[rr hmm]at hm
            rcases hve with ⟨h,_⟩|⟨x,h,rfl,rfl⟩
            · rw[hm]at h;cases h
            · rw[hm]at h;cases h
              obtain⟨o1,o2⟩:=KN hmm
              have hof:=Pb [(n:Int)] (by simp)
              rw[o1,o2]at hof
              simp only[bP,Lc,Lo]at hof
              have hel:=bk (n:Int)
              have hmp:out.map aJ++(encodeRune (n:Int)).map aJ=(out++encodeRune (n:Int)).map aJ:=by rw[List.map_append]
              rw[List.length_append]
              repeat' first|simp only[ak,aj,zF,al,hq,hy,bI,aT,z0,y0,n1,n4,bP,Int.ofNat_zero,Int.ofNat_one,hmp,D5,if_true,cS,eX,au,Lm,List.take_of_length_le,Nat.le_refl,Option.bind_some,Bt,Bf,ai,seval,ah]|exact rfl|refine aa (v:=.any) ?_|(first|(refine ad ?_ (hp _) ?_)|(refine ab ?_ (fun _=>hp _) ?_)|(refine ad ?_ (hx _) ?_)|(refine ab ?_ (fun _=>hx _) ?_)|(refine ad ?_ (hmy _) ?_)|(refine ab ?_ (fun _=>hmy _) ?_))|((refine bm (xs:=?_) [b0+544] ?_ ?_ ?_ rfl (hof _) ?_);rotate_left 1)|((first|(refine aM (g:=?_) ?_ ?_)|(refine aI (g:=?_) ?_ ?_));rotate_left 1;(focus (simp only[zF,al,hq,hy,bI,aT,z0,y0,n1,n4,bP,Int.ofNat_zero,Int.ofNat_one,hmp,D5,if_true,cS,eX,au,Lm,List.take_of_length_le,Nat.le_refl,Option.bind_some,Bt,Bf,ai,seval,ah]<;>exact rfl)))|omega|refine aA (by decide +kernel) ?_|((first|apply Ca|apply Cb)<;>intro hb)|refine Ai (by omega) ?_|(apply Ai<;>intro hb)
              all_goals ((refine Fin.give [(q,none),(b0+768,some 0)] [y] ?_ ?_ ?_ ?_ ?_ (aO ho (by simp[aS,tgt]))<;>(try simp only[zF,al,hq,hy,aT,bj,aY,z0,y0,n1,n4,dM,ai,seval,ah])<;>(try simp only[ao])<;>(try omega)))
      | false =>
        have hp:=hp2
        rw[qe hb]at hp
        repeat' first|simp only[ak,aj,zF,al,hq,hy,bI,aT,z0,y0,n1,n4,bP,Int.ofNat_zero,Int.ofNat_one,hwk,Bt,Bf,ai,seval,ah]|exact rfl|refine aa (v:=.any) ?_|(first|(refine ad ?_ (hp _) ?_)|(refine ab ?_ (fun _=>hp _) ?_))|((first|(refine aM (g:=?_) ?_ ?_)|(refine aI (g:=?_) ?_ ?_));rotate_left 1;(focus (simp only[zF,al,hq,hy,bI,aT,z0,y0,n1,n4,bP,Int.ofNat_zero,Int.ofNat_one,hwk,Bt,Bf,ai,seval,ah]<;>exact rfl)))|refine aA (by decide +kernel) ?_|((first|apply Ca|apply Cb)<;>intro hb)|refine Ai (by omega) ?_|(apply Ai<;>intro hb)
        all_goals ((refine aD bR (1) [some b0,some q,some y] ?_ ?_ ?_ ?_;rotate_left 2;(focus (show b0<=_;omega));(focus (refine⟨?_,?_⟩<;>(try simp only[aX,hwk,bI,dI,Int.ofNat_one,hq,hy,aT,bj,aY,z0,y0,n1,n4,ai,seval,ah,ao])<;>(try omega)))))
        all_goals (first|omega|exact⟨by omega,fun _=>hb,fun h=>by omega⟩|exact⟨by omega,fun h=>by omega⟩|skip)
    · have hwk:IntKind.i64.wrap 2=2:=by decide
      cases hb:preB a [35] with
      | true =>
        have hp:=hp1
        rw[nc hb]at hp
        simp only[List.length_cons,List.length_nil]at hp
        have hm:=GV hf (hk1 (by omega)) hb
        have hx:=F4 (a.drop 1) (hdl 1)
        cases hL:oE (a.drop 1) with
        | none =>
          rw[hL,ia]at hx
          rw[hL,uF]at hm
          rcases hve with ⟨_,rfl,rfl⟩|⟨x,h,_⟩
          · repeat' first|simp only[ak,aj,zF,al,hq,hy,bI,aT,z0,y0,n1,n4,bP,Int.ofNat_zero,Int.ofNat_one,Bt,Bf,ai,seval,ah]|exact rfl|refine aa (v:=.any) ?_|(first|(refine ad ?_ (hp _) ?_)|(refine ab ?_ (fun _=>hp _) ?_)|(refine ad ?_ (hx _) ?_)|(refine ab ?_ (fun _=>hx _) ?_))|(refine aa (v:=.any) ?_)|((first|(refine aM (g:=?_) ?_ ?_)|(refine aI (g:=?_) ?_ ?_));rotate_left 1;(focus (simp only[zF,al,hq,hy,bI,aT,z0,y0,n1,n4,bP,Int.ofNat_zero,Int.ofNat_one,Bt,Bf,ai,seval,ah]<;>exact rfl)))|refine aA (by decide +kernel) ?_|((first|apply Ca|apply Cb)<;>intro hb)|refine Ai (by omega) ?_|(apply Ai<;>intro hb)
            all_goals ((refine Fin.give [(q,none),(y,none)] [] ?_ ?_ ?_ ?_ ?_ (aO ho (by simp[aS,tgt]))<;>(try simp only[zF,al,hq,hy,aT,bj,aY,z0,y0,n1,n4,dM,ai,seval,ah])<;>(try simp only[ao])<;>(try omega)))
          · rw[hm]at h;cases h
        | some n =>
          rw[hL,nH]at hx
          rw[hL]at hm
          have hmy:=kD (n:Int)
          cases hmm:gq (n:Int) with
          | false =>
            rw[hmm]at hmy
            rw[uE hmm]at hm
            rcases hve with ⟨_,rfl,rfl⟩|⟨x,h,_⟩
            · repeat' first|simp only[ak,aj,zF,al,hq,hy,bI,aT,z0,y0,n1,n4,bP,Int.ofNat_zero,Int.ofNat_one,Bt,Bf,ai,seval,ah]|exact rfl|refine aa (v:=.any) ?_|(first|(refine ad ?_ (hp _) ?_)|(refine ab ?_ (fun _=>hp _) ?_)|(refine ad ?_ (hx _) ?_)|(refine ab ?_ (fun _=>hx _) ?_)|(refine ad ?_ (hmy _) ?_)|(refine ab ?_ (fun _=>hmy _) ?_))|((first|(refine aM (g:=?_) ?_ ?_)|(refine aI (g:=?_) ?_ ?_));rotate_left 1;(focus (simp only[zF,al,hq,hy,bI,aT,z0,y0,n1,n4,bP,Int.ofNat_zero,Int.ofNat_one,Bt,Bf,ai,seval,ah]<;>exact rfl)))|refine aA (by decide +kernel) ?_|((first|apply Ca|apply Cb)<;>intro hb)|refine Ai (by omega) ?_|(apply Ai<;>intro hb)
              all_goals ((refine Fin.give [(q,none),(y,none)] [] ?_ ?_ ?_ ?_ ?_ (aO ho (by simp[aS,tgt]))<;>(try simp only[zF,al,hq,hy,aT,bj,aY,z0,y0,n1,n4,dM,ai,seval,ah])<;>(try simp only[ao])<;>(try omega)))
            · rw[hm]at h;cases h
          | true =>
            rw[hmm]at hmy
            rw[rr hmm]at hm
            rcases hve with ⟨h,_⟩|⟨x,h,rfl,rfl⟩
            · rw[hm]at h;cases h
            · rw[hm]at h;cases h
              obtain⟨o1,o2⟩:=KN hmm
              have hof:=Pb [(n:Int)] (by simp)
              rw[o1,o2]at hof
              simp only[bP,Lc,Lo]at hof
              have hel:=bk (n:Int)
              have hmp:out.map aJ++(encodeRune (n:Int)).map aJ=(out++encodeRune (n:Int)).map aJ:=by rw[List.map_append]
              rw[List.length_append]
              repeat' first|simp only[ak,aj,zF,al,hq,hy,bI,aT,z0,y0,n1,n4,bP,Int.ofNat_zero,Int.ofNat_one,hmp,D5,if_true,cS,eX,au,Lm,List.take_of_length_le,Nat.le_refl,Option.bind_some,Bt,Bf,ai,seval,ah]|exact rfl|refine aa (v:=.any) ?_|(first|(refine ad ?_ (hp _) ?_)|(refine ab ?_ (fun _=>hp _) ?_)|(refine ad ?_ (hx _) ?_)|(refine ab ?_ (fun _=>hx _) ?_)|(refine ad ?_ (hmy _) ?_)|(refine ab ?_ (fun _=>hmy _) ?_))|((refine bm (xs:=?_) [b0+544] ?_ ?_ ?_ rfl (hof _) ?_);rotate_left 1)|((first|(refine aM (g:=?_) ?_ ?_)|(refine aI (g:=?_) ?_ ?_));rotate_left 1;(focus (simp only[zF,al,hq,hy,bI,aT,z0,y0,n1,n4,bP,Int.ofNat_zero,Int.ofNat_one,hmp,D5,if_true,cS,eX,au,Lm,List.take_of_length_le,Nat.le_refl,Option.bind_some,Bt,Bf,ai,seval,ah]<;>exact rfl)))|omega|refine aA (by decide +kernel) ?_|((first|apply Ca|apply Cb)<;>intro hb)|refine Ai (by omega) ?_|(apply Ai<;>intro hb)
              all_goals ((refine Fin.give [(q,none),(b0+768,some 0)] [y] ?_ ?_ ?_ ?_ ?_ (aO ho (by simp[aS,tgt]))<;>(try simp only[zF,al,hq,hy,aT,bj,aY,z0,y0,n1,n4,dM,ai,seval,ah])<;>(try simp only[ao])<;>(try omega)))
      | false =>
        have hp:=hp1
        rw[qe hb]at hp
        repeat' first|simp only[ak,aj,zF,al,hq,hy,bI,aT,z0,y0,n1,n4,bP,Int.ofNat_zero,Int.ofNat_one,hwk,Bt,Bf,ai,seval,ah]|exact rfl|refine aa (v:=.any) ?_|(first|(refine ad ?_ (hp _) ?_)|(refine ab ?_ (fun _=>hp _) ?_))|((first|(refine aM (g:=?_) ?_ ?_)|(refine aI (g:=?_) ?_ ?_));rotate_left 1;(focus (simp only[zF,al,hq,hy,bI,aT,z0,y0,n1,n4,bP,Int.ofNat_zero,Int.ofNat_one,hwk,Bt,Bf,ai,seval,ah]<;>exact rfl)))|refine aA (by decide +kernel) ?_|((first|apply Ca|apply Cb)<;>intro hb)|refine Ai (by omega) ?_|(apply Ai<;>intro hb)
        all_goals ((refine aD bR (2) [some b0,some q,some y] ?_ ?_ ?_ ?_;rotate_left 2;(focus (show b0<=_;omega));(focus (refine⟨?_,?_⟩<;>(try simp only[aX,hwk,bI,dI,Int.ofNat_one,hq,hy,aT,bj,aY,z0,y0,n1,n4,ai,seval,ah,ao])<;>(try omega)))))
        all_goals (first|omega|exact⟨by omega,hk1,fun _=>hb⟩|exact⟨by omega,fun _=>hk1 (by omega),fun _=>hb⟩|exact⟨by omega,fun _=>hb⟩|exact⟨by omega,fun _=>hk1 (by omega)⟩|skip)
    · have hm:=GX hf (hk2 (by omega))
      rcases hve with ⟨_,rfl,rfl⟩|⟨x,h,_⟩
      · repeat' first|simp only[ak,aj,zF,al,hq,hy,bI,aT,z0,y0,n1,n4,bP,Int.ofNat_zero,Int.ofNat_one,Bt,Bf,ai,seval,ah]|exact rfl|refine aa (v:=.any) ?_|((first|(refine aM (g:=?_) ?_ ?_)|(refine aI (g:=?_) ?_ ?_));rotate_left 1;(focus (simp only[zF,al,hq,hy,bI,aT,z0,y0,n1,n4,bP,Int.ofNat_zero,Int.ofNat_one,Bt,Bf,ai,seval,ah]<;>exact rfl)))|refine aA (by decide +kernel) ?_|((first|apply Ca|apply Cb)<;>intro hb)|refine Ai (by omega) ?_|(apply Ai<;>intro hb)
        all_goals ((refine Fin.give [(q,none),(y,none)] [] ?_ ?_ ?_ ?_ ?_ (aO ho (by simp[aS,tgt]))<;>(try simp only[zF,al,hq,hy,aT,bj,aY,z0,y0,n1,n4,dM,ai,seval,ah])<;>(try simp only[ao])<;>(try omega)))
      · rw[hm]at h;cases h
def xK {Q:Post}{st:List Frm}{nm:Nat}{e:Env}{M:ap}{d:Bool}{fs:List (List Nat)}{ops:List Oper}{dst:Option Tmp}{f:Operand}{args:Array Operand}{ats:Array TypeId}{t:TypeId}{pos:String}{af:Array Edge}{gd:Option (Nat×Bool)}{r:List Oper}{i:Nat}{g:FuncId}{fi:List V}{v:V}
  (hf:aw cx.G false e f = .fnb g fi) (h:aK cx Q st nm (e.putD dst (.gd false v)) M d (fs++[[]]) ops r (i+1)):eA cx Q st nm e M d fs false ops ⟨dst,.call ⟨.value f,args,ats⟩,t,pos,af,gd⟩ r i:=by
 unfold eA iE
 refine .inl ?_
 simp only[hf,V.tgt]
 exact⟨[],v,fun h=>(by cases h),h⟩
def yp {a x:List UInt8}(h:ce a=some x):x.length<=4:=by
 have hp:∀ o,fm o=some x->x.length<=4:=fun o h=>by
  cases o with
  | none=>cases h
  | some n =>
   cases hm:gq (n:Int) with
   | true=>rw[rr hm]at h;cases h;exact(bk (n:Int)).2
   | false=>rw[uE hm]at h;cases h
 unfold ce at h
 repeat' split at h
 all_goals (first|(cases h;simp;done)|exact hp _ h|cases h)
def Af (s:List UInt8):Int:=if aN s≠0 then aN s else match bJ s with|none=>80|some _=>0
def NA (s:List UInt8):List UInt8:=if Af s=0 then (bJ s).getD [] else []
def CF (s:List UInt8):V:=.tup [.str (NA s),.int .i64 (Af s)]
def Jy {s:List UInt8}(h:aN s≠0):CF s = .tup [.str [],.int .i64 (aN s)]:=by
 have he:Af s=aN s:=by unfold Af;rw[if_pos h]
 unfold CF NA;rw[he,if_neg h]
def kS {s:List UInt8}(h:aN s=0)(h2:bJ s=none):CF s = .tup [.str [],.int .i64 80]:=by
 have he:Af s=80:=by unfold Af;rw[if_neg (by simp[h]),h2]
 unfold CF NA;rw[he];rfl
def qO {s x:List UInt8}(h:aN s=0)(h2:bJ s=some x):CF s = .tup [.str x,.int .i64 0]:=by
 have he:Af s=0:=by unfold Af;rw[if_neg (by simp[h]),h2]
 unfold CF NA;rw[he,h2];rfl
section
variable (rest a b:List UInt8) (hr:rest.length<=1000000) (hc:eg 59 rest=some (a,b))
include hr hc
def Ld (hm:ce a=none)(q y:Nat)(out:List UInt8)(hout:out.length<=1000000)(M:ap)(nm:Nat)(hqy:q≠y)(hq:M q=some (Hr rest y out.length))(hy:M y=some (rK out))(ho:∀ w,(M w).isSome=true->w∈[q,y])(hqn:q<nm)(hyn:y<nm) :
  Ev cx 186 nm [.ptr q 0 0] M (.bool false) [(q,some (Hr rest y out.length)),(y,some (rK out))]:=by
 rcases oJ a with ⟨x,_,h,_⟩|⟨hf,_⟩
 ·rw[hm]at h;cases h
 ·exact wX rest a b hr hc hf q y out hout M nm hqy hq hy ho hqn hyn _ _ (.inl ⟨hm,rfl,rfl⟩)
def Hu (x:List UInt8)(hm:ce a=some x)(q y:Nat)(out:List UInt8)(hout:out.length<=1000000)(M:ap)(nm:Nat)(hqy:q≠y)(hq:M q=some (Hr rest y out.length))(hy:M y=some (rK out))(ho:∀ w,(M w).isSome=true->w∈[q,y])(hqn:q<nm)(hyn:y<nm) :
  Ev cx 186 nm [.ptr q 0 0] M (.bool true) [(y,none),(q,some (Hr b nm (out++x).length)),(nm,some (rK (out++x)))]:=by
 rcases oJ a with ⟨x',hf,h,hx⟩|⟨hf,_⟩
 ·rw[hm]at h;cases h
  exact DE rest a b x hr hc hf hx q y out hout M nm hqy hq hy ho hqn hyn
 ·exact wX rest a b hr hc hf q y out hout M nm hqy hq hy ho hqn hyn _ _ (.inr ⟨x,hm,rfl,rfl⟩)
end
structure RSt where
 rest:List UInt8
 out:List UInt8
def RSt.inv (s:List UInt8)(x:RSt):Prop:=bJ s=(bJ x.rest).map (x.out ++ ·)/\x.rest.length<=s.length/\x.out.length<=4*(s.length-x.rest.length)
def NZ (o:Option (List UInt8))(a b:List UInt8):(o.map (b ++ ·)).map (a ++ ·)=o.map ((a++b) ++ ·):=by cases o<;>simp
def sG (s:List UInt8)(hs:s.length<=be)(nm:Nat):Ev cx 148 nm [.str s] ap.nil (CF s) []:=by
  by_cases hz:aN s=0
  · have hb:(aN s != 0)=false:=by rw[hz];rfl
    have hlen:=oZ hz
    refine bi call148 func148 rfl (by kernel_rfl) rfl ?_;intro b0 hb0;have zF:=Ai results148 ntmps148
    repeat' first|simp only[ak,aj,zF,al,hb,ai,seval,ah]|exact rfl|refine aa (v:=.any) ?_|(first|(refine ad ?_ (cm s hs _) ?_)|(refine ab ?_ (fun _=>cm s hs _) ?_))|((first|(refine aM (g:=?_) ?_ ?_)|(refine aI (g:=?_) ?_ ?_));rotate_left 1;(focus (simp only[zF,al,hb,ai,seval,ah]<;>exact rfl)))|((first|apply Ca|apply Cb)<;>intro hb)|refine Ai (by omega) ?_|(apply Ai<;>intro hb)
    (refine aR bR (fun x:RSt=>x.rest.length) (fun x=>x.inv s) (b0+16) (fun x=>[(5,.ptr b0 0 0),(6,.fnb 186 [.ptr b0 0 0])]) (fun x=>[(b0,Hr x.rest (b0+1) x.out.length),(b0+1,rK x.out)]) (RSt.mk s []) [some (b0+144),none] ?_ ?_ ?_ ?_;rotate_left 1;(focus (show b0<=_;omega));(focus (refine⟨?_,?_⟩<;>(try simp only[aX,cV,aT,bj,aY,dI,aL,Lo,List.length_nil,ai,seval,ah,ao])<;>(try omega)));rotate_left 1)
    · refine⟨?_,Nat.le_refl _,Nat.zero_le _⟩
      cases bJ s<;>rfl
    · rintro ⟨rest,out⟩ ⟨h1,h2,h3⟩
      simp only at h1 h2 h3
      cases rest with
      | nil =>
        have hd:(([]:List UInt8) != [])=false:=rfl
        have hr:bJ s=some out:=by rw[h1,im];simp
        have hv:=qO hz hr
        have htk:(out.map aJ).take out.length=out.map aJ:=List.take_of_length_le (by simp)
        (repeat' first|simp only[ak,aj,zF,al,hd,hv,htk,cV,aT,Lm,Nat.le_refl,ai,seval,ah]|exact rfl|refine aa (v:=.any) ?_|(refine wo (v:=?_) (bs:=out) ?_ ?_ ?_ ?_ ?_ ?_ ?_;rotate_left 1;(iterate 2 (focus (simp only[zF,al,hd,hv,htk,cV,aT,Lm,Nat.le_refl,ai,seval,ah];done)));(focus (simp only[zF,al,hd,hv,htk,cV,aT,Lm,Nat.le_refl,ai,seval,ah]<;>exact rfl));(focus (exact rfl));(focus (simp only[aj,zF,al,hd,hv,htk,cV,aT,Lm,Nat.le_refl,ai,seval,ah];done));(focus (simp only[zF,al,hd,hv,htk,cV,aT,Lm,Nat.le_refl,ai,seval,ah]<;>exact rfl)))|(refine bd ?_)|(refine aV ?_)|((first|(refine aM (g:=?_) ?_ ?_)|(refine aI (g:=?_) ?_ ?_));rotate_left 1;(focus (simp only[zF,al,hd,hv,htk,cV,aT,Lm,Nat.le_refl,ai,seval,ah]<;>exact rfl)))|((first|apply Ca|apply Cb)<;>intro hb)|refine Ai (by omega) ?_|(apply Ai<;>intro hb)|refine Fin.pure ?_ ?_ ?_|simp only[ao])
      | cons c r =>
        have hd:(!((c::r)==[]))=true:=rfl
        have hl0:0<(c::r).length:=by simp
        have hl1:1<=(c::r).length:=by simp
        have hl2:(1:Int)<=((c::r).length:Int):=by simp only[List.length_cons];omega
        simp only[List.length_cons]at hl0 hl1 hl2 h2 h3
        have q60:((c.toNat:Int)==60)=decide (c=60):=gK c 60
        have q38:((c.toNat:Int)==38)=decide (c=38):=gK c 38
        by_cases c60:c=60
        · have d60:decide (c=60)=true:=decide_eq_true c60
          rw[d60]at q60
          have hr:bJ s=none:=by rw[h1,c60,nd];rfl
          have hv:=kS hz hr
          (repeat' first|simp only[ak,aj,zF,al,hd,hl0,hl1,hl2,hv,q60,cV,aT,List.getElem?_cons_zero,List.drop_succ_cons,List.drop_zero,ai,seval,ah]|exact rfl|refine aa (v:=.any) ?_|((first|(refine aM (g:=?_) ?_ ?_)|(refine aI (g:=?_) ?_ ?_));rotate_left 1;(focus (simp only[zF,al,hd,hl0,hl1,hl2,hv,q60,cV,aT,List.getElem?_cons_zero,List.drop_succ_cons,List.drop_zero,ai,seval,ah]<;>exact rfl)))|((first|apply Ca|apply Cb)<;>intro hb)|refine Ai (by omega) ?_|(apply Ai<;>intro hb)|refine Fin.pure ?_ ?_ ?_|simp only[ao])
        have d60:decide (c=60)=false:=decide_eq_false c60
        rw[d60]at q60
        by_cases c38:c=38
        · have d38:decide (c=38)=true:=decide_eq_true c38
          rw[d38]at q38
          subst c38
          cases hc:eg 59 r with
          | none =>
            have hr:bJ s=none:=by rw[h1,jX hc];rfl
            have hv:=kS hz hr
            have href:=Ht r (by omega) hc b0 (b0+1) out
            (repeat' first|simp only[ak,aj,zF,al,hd,hl0,hl1,hl2,hv,q60,q38,cV,aT,List.getElem?_cons_zero,List.drop_succ_cons,List.drop_zero,Bf,ai,seval,ah]|exact rfl|refine aa (v:=.any) ?_|((refine mu (fi:=?_) ?_ ?_ [b0,b0+1] (href _ _ (by omega) ?_ ?_ ag (by omega) (by omega)) ?_ ?_);rotate_left 1)|((first|(refine aM (g:=?_) ?_ ?_)|(refine aI (g:=?_) ?_ ?_));rotate_left 1;(focus (simp only[zF,al,hd,hl0,hl1,hl2,hv,q60,q38,cV,aT,List.getElem?_cons_zero,List.drop_succ_cons,List.drop_zero,Bf,ai,seval,ah]<;>exact rfl)))|((first|apply Ca|apply Cb)<;>intro hb)|refine Ai (by omega) ?_|(apply Ai<;>intro hb)|refine Fin.pure ?_ ?_ ?_|simp only[ao])
          | some p =>
            obtain⟨a,b⟩:=p
            have hcl:=tD hc
            cases hm:ce a with
            | none =>
              have hr:bJ s=none:=by rw[h1,lc hc hm];rfl
              have hv:=kS hz hr
              have href:=Ld r a b (by omega) hc hm b0 (b0+1) out (by omega)
              (repeat' first|simp only[ak,aj,zF,al,hd,hl0,hl1,hl2,hv,q60,q38,cV,aT,List.getElem?_cons_zero,List.drop_succ_cons,List.drop_zero,Bf,ai,seval,ah]|exact rfl|refine aa (v:=.any) ?_|((refine mu (fi:=?_) ?_ ?_ [b0,b0+1] (href _ _ (by omega) ?_ ?_ ag (by omega) (by omega)) ?_ ?_);rotate_left 1)|((first|(refine aM (g:=?_) ?_ ?_)|(refine aI (g:=?_) ?_ ?_));rotate_left 1;(focus (simp only[zF,al,hd,hl0,hl1,hl2,hv,q60,q38,cV,aT,List.getElem?_cons_zero,List.drop_succ_cons,List.drop_zero,Bf,ai,seval,ah]<;>exact rfl)))|((first|apply Ca|apply Cb)<;>intro hb)|refine Ai (by omega) ?_|(apply Ai<;>intro hb)|refine Fin.pure ?_ ?_ ?_|simp only[ao])
            | some x =>
              have hxl:=yp hm
              have hr:bJ s=(bJ b).map ((out++x) ++ ·):=by rw[h1,jB hc hm,NZ]
              have href:=Hu r a b (by omega) hc x hm b0 (b0+1) out (by omega)
              have q38n:(((38:UInt8).toNat:Int) != 38)=false:=rfl
              repeat' first|simp only[ak,aj,zF,al,hd,hl0,hl1,hl2,q60,q38,q38n,cV,aT,au,List.getElem?_cons_zero,List.drop_succ_cons,List.drop_zero,Bt,ai,seval,ah]|exact rfl|refine aa (v:=.any) ?_|((refine mu (fi:=?_) ?_ ?_ [b0,b0+1] (href _ _ (by omega) ?_ ?_ ag (by omega) (by omega)) ?_ ?_);rotate_left 1)|((first|(refine aM (g:=?_) ?_ ?_)|(refine aI (g:=?_) ?_ ?_));rotate_left 1;(focus (simp only[zF,al,hd,hl0,hl1,hl2,q60,q38,q38n,cV,aT,au,List.getElem?_cons_zero,List.drop_succ_cons,List.drop_zero,Bt,ai,seval,ah]<;>exact rfl)))|((first|apply Ca|apply Cb)<;>intro hb)|refine Ai (by omega) ?_|(apply Ai<;>intro hb)
              all_goals ((refine aD bR (RSt.mk b (out++x)) [some b0,some (b0+448)] ?_ ?_ ?_ ?_;rotate_left 2;(focus (show b0<=_;omega));(focus (refine⟨?_,?_⟩<;>(try simp only[aX,cV,aT,bj,aY,dI,aL,Lm,ai,seval,ah,ao])<;>(try omega)))))
              all_goals (first|(show b.length<(38::r).length;simp only[List.length_cons];omega)|(refine⟨hr,?_,?_⟩<;>simp only[List.length_append]<;>omega)|skip)
        · have d38:decide (c=38)=false:=decide_eq_false c38
          rw[d38]at q38
          have q38n:((c.toNat:Int) != 38)=true:=by unfold bne;rw[q38];rfl
          have hr:bJ s=(bJ r).map ((out++[c]) ++ ·):=by rw[h1,eR c60 c38];cases bJ r<;>simp
          have hsn:out.map aJ++[[V.int .u8 c.toNat]]=(out++[c]).map aJ:=by rw[List.map_append];rfl
          repeat' first|simp only[ak,aj,zF,al,hd,hl0,hl1,hl2,q60,q38,q38n,hsn,cV,aT,au,D5,if_true,cS,eX,Lm,List.take_of_length_le,Nat.le_refl,Option.bind_some,List.getElem?_cons_zero,List.drop_succ_cons,List.drop_zero,Bt,Bf,ai,seval,ah]|exact rfl|refine aa (v:=.any) ?_|((refine xK (v:=.any) (g:=?_) (fi:=?_) ?_ ?_);rotate_left 2)|((first|(refine aM (g:=?_) ?_ ?_)|(refine aI (g:=?_) ?_ ?_));rotate_left 1;(focus (simp only[zF,al,hd,hl0,hl1,hl2,q60,q38,q38n,hsn,cV,aT,au,D5,if_true,cS,eX,Lm,List.take_of_length_le,Nat.le_refl,Option.bind_some,List.getElem?_cons_zero,List.drop_succ_cons,List.drop_zero,Bt,Bf,ai,seval,ah]<;>exact rfl)))|((first|apply Ca|apply Cb)<;>intro hb)|refine Ai (by omega) ?_|(apply Ai<;>intro hb)
          all_goals ((refine aD bR (RSt.mk r (out++[c])) [some b0,some (b0+672)] ?_ ?_ ?_ ?_;rotate_left 2;(focus (show b0<=_;omega));(focus (refine⟨?_,?_⟩<;>(try simp only[aX,cV,aT,bj,aY,dI,aL,Lm,List.length_append,List.length_cons,List.length_nil,ai,seval,ah,ao])<;>(try omega)))))
          all_goals (first|(show r.length<(c::r).length;simp only[List.length_cons];omega)|(refine⟨hr,?_,?_⟩<;>simp only[List.length_append,List.length_cons,List.length_nil]<;>omega)|skip)
  · have hb:(aN s != 0)=true:=by rw[bne_iff_ne];exact hz
    have hv:=Jy hz
    refine bi call148 func148 rfl (by kernel_rfl) rfl ?_;intro b0 hb0;have zF:=Ai results148 ntmps148
    (repeat' first|simp only[ak,aj,zF,al,hb,hv,ai,seval,ah]|exact rfl|refine aa (v:=.any) ?_|(first|(refine ad ?_ (cm s hs _) ?_)|(refine ab ?_ (fun _=>cm s hs _) ?_))|((first|(refine aM (g:=?_) ?_ ?_)|(refine aI (g:=?_) ?_ ?_));rotate_left 1;(focus (simp only[zF,al,hb,hv,ai,seval,ah]<;>exact rfl)))|((first|apply Ca|apply Cb)<;>intro hb)|refine Ai (by omega) ?_|(apply Ai<;>intro hb)|refine Fin.pure ?_ ?_ ?_|simp only[ao])
def SV:∀ n:Nat,n<256->(decide (97<=IntKind.u8.wrap ((BitVec.ofInt IntKind.u8.bits (n:Int) ||| BitVec.ofInt IntKind.u8.bits 32).toNat:Int))&&decide (IntKind.u8.wrap ((BitVec.ofInt IntKind.u8.bits (n:Int) ||| BitVec.ofInt IntKind.u8.bits 32).toNat:Int)<=122))=((decide (97<=n)&&decide (n<=122))||(decide (65<=n)&&decide (n<=90))):=by decide +kernel
def A6:∀ p1 p2 p5 f p6 p7 p8 p9:Bool,(p1=true/\p2=true)\/(p1=true/\p2=false/\p5=true)\/(p1=false/\p5=true)\/(p1=true/\p2=false/\p5=false/\f=true)\/(p1=false/\p5=false/\f=true) \/
  (p1=true/\p2=false/\p5=false/\f=false/\p6=true/\p7=true)\/(p1=true/\p2=false/\p5=false/\f=false/\p6=true/\p7=false/\p8=true)\/(p1=true/\p2=false/\p5=false/\f=false/\p6=true/\p7=false/\p8=false) \/
  (p1=true/\p2=false/\p5=false/\f=false/\p6=false/\p8=true)\/(p1=true/\p2=false/\p5=false/\f=false/\p6=false/\p8=false) \/
  (p1=false/\p5=false/\f=false/\p6=true/\p7=true)\/(p1=false/\p5=false/\f=false/\p6=true/\p7=false/\p8=true)\/(p1=false/\p5=false/\f=false/\p6=true/\p7=false/\p8=false) \/
  (p1=false/\p5=false/\f=false/\p6=false/\p8=true)\/(p1=false/\p5=false/\f=false/\p6=false/\p8=false):=by
 intro p1 p2 p5 f p6 p7 p8 p9;cases p1<;>cases p2<;>cases p5<;>cases f<;>cases p6<;>cases p7<;>cases p8<;>simp
def K0 {c:UInt8}{f p1 p2 p5 p6 p7 p8 p9:Bool}(h1:decide (97<=IntKind.u8.wrap ((BitVec.ofInt IntKind.u8.bits (c.toNat:Int) ||| BitVec.ofInt IntKind.u8.bits 32).toNat:Int))=p1)(h2:decide (IntKind.u8.wrap ((BitVec.ofInt IntKind.u8.bits (c.toNat:Int) ||| BitVec.ofInt IntKind.u8.bits 32).toNat:Int)<=122)=p2)
  (h5:decide (c=95)=p5) (h6:decide ((48:Int)<=c.toNat)=p6) (h7:decide ((c.toNat:Int)<=57)=p7) (h8:decide (c=46)=p8) (h9:decide (c=45)=p9):gX f c=((p1&&p2)||p5||(!f&&((p6&&p7)||p8||p9))):=by
 have e:=SV c.toNat c.toNat_lt
 rw[h1,h2]at e
 unfold gX RG
 rw[<- e,<- h5,<- h6,<- h7,<- h8,<- h9]
 have e1:((48:Int)<=c.toNat)=(48<=c.toNat):=propext (by omega)
 have e2:((c.toNat:Int)<=57)=(c.toNat<=57):=propext (by omega)
 simp only[e1,e2]
def yB (c:UInt8)(f:Bool)(nm:Nat):Ev cx 168 nm [.int .u8 c.toNat,.bool f] ap.nil (.bool (gX f c)) []:=by
 have q5:((c.toNat:Int)==95)=decide (c=95):=gK c 95
 have q8:((c.toNat:Int)==46)=decide (c=46):=gK c 46
 have q9:((c.toNat:Int)==45)=decide (c=45):=gK c 45
 generalize h1:decide (97<=IntKind.u8.wrap ((BitVec.ofInt IntKind.u8.bits (c.toNat:Int) ||| BitVec.ofInt IntKind.u8.bits 32).toNat:Int))=p1
 generalize h2:decide (IntKind.u8.wrap ((BitVec.ofInt IntKind.u8.bits (c.toNat:Int) ||| BitVec.ofInt IntKind.u8.bits 32).toNat:Int)<=122)=p2
 generalize h5:decide (c=95)=p5
 generalize h6:decide ((48:Int)<=c.toNat)=p6
 generalize h7:decide ((c.toNat:Int)<=57)=p7
 generalize h8:decide (c=46)=p8
 generalize h9:decide (c=45)=p9
 have he:=K0 (f:=f) h1 h2 h5 h6 h7 h8 h9
 rcases A6 p1 p2 p5 f p6 p7 p8 p9 with ⟨rfl,rfl⟩|⟨rfl,rfl,rfl⟩|⟨rfl,rfl⟩|⟨rfl,rfl,rfl,rfl⟩|⟨rfl,rfl,rfl⟩|⟨rfl,rfl,rfl,rfl,rfl,rfl⟩|⟨rfl,rfl,rfl,rfl,rfl,rfl,rfl⟩|⟨rfl,rfl,rfl,rfl,rfl,rfl,rfl⟩|⟨rfl,rfl,rfl,rfl,rfl,rfl⟩|⟨rfl,rfl,rfl,rfl,rfl,rfl⟩|⟨rfl,rfl,rfl,rfl,rfl⟩|⟨rfl,rfl,rfl,rfl,rfl,rfl⟩|⟨rfl,rfl,rfl,rfl,rfl,rfl⟩|⟨rfl,rfl,rfl,rfl,rfl⟩|⟨rfl,rfl,rfl,rfl,rfl⟩
 all_goals simp only[Bool.true_and,Bool.false_and,Bool.and_false,Bool.true_or,Bool.or_true,Bool.false_or,Bool.or_false,Bool.and_true,Bt,Bf]at he
 all_goals (
  refine bi call168 func168 rfl (by kernel_rfl) rfl ?_;intro b0 hb0
  (repeat' first|simp only[ak,aj,results168,ntmps168,al,q5,q8,q9,h1,h2,h5,h6,h7,h8,h9,he,ai,seval,ah]|exact rfl|refine aa (v:=.any) ?_|((first|apply Ca|apply Cb)<;>intro hb)|refine Ai (by omega) ?_|(apply Ai<;>intro hb)|refine Fin.pure ?_ ?_ ?_|simp only[ao]))
end Go.Proofs.YtlnlopnpcmahgaaGreatDoor
