/-
 Texts joined: XGe,XEu,XUt,XNb,XGf.
-/
import Derived.Test.YtlnlopnpcmahgaaGreatDoorQg
import Derived.Test.YtlnlopnpcmahgaaGreatDoorQh
import Derived.Test.YtlnlopnpcmahgaaGreatDoorQf
set_option linter.all false
namespace Go.Proofs.YtlnlopnpcmahgaaGreatDoor
set_option maxRecDepth 100000
set_option maxHeartbeats 32000000
open Go Go.RowKit Vm Go.Lib Tryz
open Vm renaming ba->Ca,bh->Cb
open And renaming intro->Ai
open List renaming length_map->Lm,not_mem_nil->Ln,map_nil->Lo,map_cons->Lc,mem_cons->Lk
open Bool renaming not_false->Bf,not_true->Bt
def Io (y:Int):IntKind.u8.wrap ((BitVec.ofInt IntKind.u8.bits (IntKind.u8.wrap y) &&& BitVec.ofInt IntKind.u8.bits 63).toNat:Int)=y % 64:=by
 have key:∀ n:Fin 256,IntKind.u8.wrap ((BitVec.ofInt IntKind.u8.bits (n.val:Int) &&& BitVec.ofInt IntKind.u8.bits 63).toNat:Int)=(n.val:Int) % 64:=by decide +kernel
 have h:=key ⟨(y % 256).toNat,by omega⟩
 have e:((y % 256).toNat:Int)=y % 256:=by omega
 simp only[e]at h
 rw[IntKind.wrap_u8 y,h];omega
def Ra {h n:Int}(hh:(h=128/\n<64)\/(h=192/\n<32)\/(h=224/\n<16)\/(h=240/\n<8))(h0:0<=n):IntKind.u8.wrap ((BitVec.ofInt IntKind.u8.bits h ||| BitVec.ofInt IntKind.u8.bits n).toNat:Int)=h+n:=by
 have k1:∀ n:Fin 64,IntKind.u8.wrap ((BitVec.ofInt IntKind.u8.bits 128 ||| BitVec.ofInt IntKind.u8.bits (n.val:Int)).toNat:Int)=128+(n.val:Int):=by decide +kernel
 have k2:∀ n:Fin 32,IntKind.u8.wrap ((BitVec.ofInt IntKind.u8.bits 192 ||| BitVec.ofInt IntKind.u8.bits (n.val:Int)).toNat:Int)=192+(n.val:Int):=by decide +kernel
 have k3:∀ n:Fin 16,IntKind.u8.wrap ((BitVec.ofInt IntKind.u8.bits 224 ||| BitVec.ofInt IntKind.u8.bits (n.val:Int)).toNat:Int)=224+(n.val:Int):=by decide +kernel
 have k4:∀ n:Fin 8,IntKind.u8.wrap ((BitVec.ofInt IntKind.u8.bits 240 ||| BitVec.ofInt IntKind.u8.bits (n.val:Int)).toNat:Int)=240+(n.val:Int):=by decide +kernel
 have e:(n.toNat:Int)=n:=by omega
 rcases hh with ⟨rfl,h1⟩|⟨rfl,h1⟩|⟨rfl,h1⟩|⟨rfl,h1⟩
 ·have:=k1 ⟨n.toNat,by omega⟩;simpa only[e] using this
 ·have:=k2 ⟨n.toNat,by omega⟩;simpa only[e] using this
 ·have:=k3 ⟨n.toNat,by omega⟩;simpa only[e] using this
 ·have:=k4 ⟨n.toNat,by omega⟩;simpa only[e] using this
def pk (bs:List UInt8)(z:Int)(rows:List (List V))(h:(encodeRune z).map aJ=rows):bs.map aJ++rows=(bs++encodeRune z).map aJ:=by rw[<- h,List.map_append]
def aT (bs:List UInt8):rK bs = @Blk.mk 1 (bs.map aJ) (.typed 5):=rfl
def Ll (z:Int)(hm:gq z=true)(h0:128<=z)(y:Nat)(bs:List UInt8)(hbs:bs.length<=1000000)(M:ap)(nm:Nat)(hy:M y=some (rK bs))(ho:∀ w,(M w).isSome=true->w∈[y])(hyn:y<nm):Ev cx 251 nm [.own y 0 bs.length,.int .i32 z] M (.own nm 0 (bs.length+(encodeRune z).length)) [(y,none),(nm,some (rK (bs++encodeRune z)))]:=by
 have hr:=fj hm
 have hmz:=(gg z).1 hm
 have hw:IntKind.u32.wrap z=z:=IntWalk.u32_in _ (by omega)
 have s6:z.fdiv (2 ^ min 6 IntKind.i32.bits)=z / 64:=Int.fdiv_eq_ediv_of_nonneg z (b:=64) (by omega)
 have s12:z.fdiv (2 ^ min 12 IntKind.i32.bits)=z / 4096:=Int.fdiv_eq_ediv_of_nonneg z (b:=4096) (by omega)
 have s18:z.fdiv (2 ^ min 18 IntKind.i32.bits)=z / 262144:=Int.fdiv_eq_ediv_of_nonneg z (b:=262144) (by omega)
 have o1:=Ra (h:=128) (n:=z % 64) (.inl ⟨rfl,by omega⟩) (by omega)
 have o2:=Ra (h:=128) (n:=z / 64 % 64) (.inl ⟨rfl,by omega⟩) (by omega)
 have o3:=Ra (h:=128) (n:=z / 4096 % 64) (.inl ⟨rfl,by omega⟩) (by omega)
 have a1:=Io z
 have a2:=Io (z / 64)
 have a3:=Io (z / 4096)
 by_cases c1:z<=2047
 ·have d1:decide (z<=2047)=true:=decide_eq_true c1
  have w6:IntKind.u8.wrap (z / 64)=z / 64:=IntWalk.u8_in _ (by omega)
  have o4:=Ra (h:=192) (n:=z / 64) (.inr (.inl ⟨rfl,by omega⟩)) (by omega)
  have he:=Sf h0 c1
  have hl:(encodeRune z).length=2:=by simpa using congrArg List.length he
  have hrw:=pk bs z _ he
  rw[hl]
  refine bi call251 func251 rfl (by kernel_rfl) rfl ?_;intro b0 hb0
  have ly:=aC hb0 hy
  have y0:=aE ly
  repeat' first|simp only[ak,aj,results251,ntmps251,al,hw,d1,s6,w6,a1,a2,a3,o1,o2,o3,o4,hy,hrw,aT,y0,Lm,List.take_of_length_le,Nat.le_refl,D5,if_true,cS,eX,Option.bind_some,ai,seval,ah]|exact rfl|refine aa (v:=.any) ?_|((first|apply Ca|apply Cb)<;>intro hb)|refine Ai (by omega) ?_|(apply Ai<;>intro hb)
  all_goals ((refine Fin.give [(b0+272,some 0)] [y] ?_ ?_ ?_ ?_ ?_ (aO ho (by simp[aS,tgt]))<;>(try simp only[results251,ntmps251,al,hw,hy,aT,bj,aY,y0,dM,ai,seval,ah])<;>(try simp only[ao])<;>(try omega)))
 have d1:decide (z<=2047)=false:=decide_eq_false c1
 by_cases c2:z<=65535
 ·have d3:decide (z<=65535)=true:=decide_eq_true c2
  have w12:IntKind.u8.wrap (z / 4096)=z / 4096:=IntWalk.u8_in _ (by omega)
  have o4:=Ra (h:=224) (n:=z / 4096) (.inr (.inr (.inl ⟨rfl,by omega⟩))) (by omega)
  have he:=Sg (z:=z) (by omega)
  have hl:(encodeRune z).length=3:=by simpa using congrArg List.length he
  have hrw:=pk bs z _ he
  rw[hl]
  have hs:(decide (z<55296)=true)\/(decide (z<55296)=false/\decide (57343<z)=true):=by
   by_cases h:z<55296
   ·exact .inl (decide_eq_true h)
   ·exact .inr ⟨decide_eq_false h,cn⟩
  rcases hs with d4|⟨d4,d5⟩
  ·refine bi call251 func251 rfl (by kernel_rfl) rfl ?_;intro b0 hb0
   have ly:=aC hb0 hy
   have y0:=aE ly
   repeat' first|simp only[ak,aj,results251,ntmps251,al,hw,d1,d3,d4,s6,s12,w12,a1,a2,a3,o1,o2,o3,o4,hy,hrw,aT,y0,Lm,List.take_of_length_le,Nat.le_refl,D5,if_true,cS,eX,Option.bind_some,ai,seval,ah]|exact rfl|refine aa (v:=.any) ?_|((first|apply Ca|apply Cb)<;>intro hb)|refine Ai (by omega) ?_|(apply Ai<;>intro hb)
   all_goals ((refine Fin.give [(b0+400,some 0)] [y] ?_ ?_ ?_ ?_ ?_ (aO ho (by simp[aS,tgt]))<;>(try simp only[results251,ntmps251,al,hw,hy,aT,bj,aY,y0,dM,ai,seval,ah])<;>(try simp only[ao])<;>(try omega)))
  ·refine bi call251 func251 rfl (by kernel_rfl) rfl ?_;intro b0 hb0
   have ly:=aC hb0 hy
   have y0:=aE ly
   repeat' first|simp only[ak,aj,results251,ntmps251,al,hw,d1,d3,d4,d5,s6,s12,w12,a1,a2,a3,o1,o2,o3,o4,hy,hrw,aT,y0,Lm,List.take_of_length_le,Nat.le_refl,D5,if_true,cS,eX,Option.bind_some,ai,seval,ah]|exact rfl|refine aa (v:=.any) ?_|((first|apply Ca|apply Cb)<;>intro hb)|refine Ai (by omega) ?_|(apply Ai<;>intro hb)
   all_goals ((refine Fin.give [(b0+512,some 0)] [y] ?_ ?_ ?_ ?_ ?_ (aO ho (by simp[aS,tgt]))<;>(try simp only[results251,ntmps251,al,hw,hy,aT,bj,aY,y0,dM,ai,seval,ah])<;>(try simp only[ao])<;>(try omega)))
 ·have d3:decide (z<=65535)=false:=decide_eq_false c2
  have d4:decide (z<55296)=false:=bo
  have d5:decide (57343<z)=true:=cn
  have d6:decide (65535<z)=true:=cn
  have d7:decide (z<=1114111)=true:=cn
  have w18:IntKind.u8.wrap (z / 262144)=z / 262144:=IntWalk.u8_in _ (by omega)
  have o4:=Ra (h:=240) (n:=z / 262144) (.inr (.inr (.inr ⟨rfl,by omega⟩))) (by omega)
  have he:=Sh (z:=z) (by omega) (by omega)
  have hl:(encodeRune z).length=4:=by simpa using congrArg List.length he
  have hrw:=pk bs z _ he
  rw[hl]
  refine bi call251 func251 rfl (by kernel_rfl) rfl ?_;intro b0 hb0
  have ly:=aC hb0 hy
  have y0:=aE ly
  repeat' first|simp only[ak,aj,results251,ntmps251,al,hw,d1,d3,d4,d5,d6,d7,s6,s12,s18,w18,a1,a2,a3,o1,o2,o3,o4,hy,hrw,aT,y0,Lm,List.take_of_length_le,Nat.le_refl,D5,if_true,cS,eX,Option.bind_some,ai,seval,ah]|exact rfl|refine aa (v:=.any) ?_|((first|apply Ca|apply Cb)<;>intro hb)|refine Ai (by omega) ?_|(apply Ai<;>intro hb)
  all_goals ((refine Fin.give [(b0+704,some 0)] [y] ?_ ?_ ?_ ?_ ?_ (aO ho (by simp[aS,tgt]))<;>(try simp only[results251,ntmps251,al,hw,hy,aT,bj,aY,y0,dM,ai,seval,ah])<;>(try simp only[ao])<;>(try omega)))
def I2 {z:Int}(h0:0<=z)(h1:z<=127):(encodeRune z).length=1:=by simpa using congrArg List.length (Rq h0 h1)
def E8 (z:Int)(hm:gq z=true)(y:Nat)(bs:List UInt8)(hbs:bs.length<=1000000)(M:ap)(nm:Nat)(hy:M y=some (rK bs))(ho:∀ w,(M w).isSome=true->w∈[y])(hyn:y<nm):Ev cx 236 nm [.own y 0 bs.length,.int .i32 z] M (.own nm 0 (bs.length+(encodeRune z).length)) [(y,none),(nm,some (rK (bs++encodeRune z)))]:=by
 have hmz:=(gg z).1 hm
 have hr:=fj hm
 have hw:IntKind.u32.wrap z=z:=IntWalk.u32_in _ (by omega)
 by_cases c1:z<=127
 ·have d1:decide (z<=127)=true:=decide_eq_true c1
  have w8:IntKind.u8.wrap z=z:=IntWalk.u8_in _ (by omega)
  have he:=Rq hr.1 c1
  have hrw:=pk bs z _ he
  rw[I2 hr.1 c1]
  refine bi call236 func236 rfl (by kernel_rfl) rfl ?_;intro b0 hb0
  have ly:=aC hb0 hy
  have y0:=aE ly
  repeat' first|simp only[ak,aj,results236,ntmps236,al,hw,d1,w8,hy,hrw,aT,y0,Lm,List.take_of_length_le,Nat.le_refl,D5,if_true,cS,eX,Option.bind_some,ai,seval,ah]|exact rfl|refine aa (v:=.any) ?_|((first|apply Ca|apply Cb)<;>intro hb)|refine Ai (by omega) ?_|(apply Ai<;>intro hb)
  all_goals ((refine Fin.give [(b0+128,some 0)] [y] ?_ ?_ ?_ ?_ ?_ (aO ho (by simp[aS,tgt]))<;>(try simp only[results236,ntmps236,al,hw,hy,aT,bj,aY,y0,dM,ai,seval,ah])<;>(try simp only[ao])<;>(try omega)))
 ·have d1:decide (z<=127)=false:=decide_eq_false c1
  refine bi call236 func236 rfl (by kernel_rfl) rfl ?_;intro b0 hb0
  have ly:=aC hb0 hy
  have y0:=aE ly
  repeat' first|simp only[ak,aj,results236,ntmps236,al,hw,d1,hy,y0,au,ai,seval,ah]|exact rfl|refine aa (v:=.any) ?_|(refine ac ?_ [y] (Ll z hm (by omega) y bs hbs _ _ ?_ ag (by omega)) ?_ ?_)|((first|apply Ca|apply Cb)<;>intro hb)|refine Ai (by omega) ?_|(apply Ai<;>intro hb)
  all_goals ((refine Fin.give [(b0+96,some 0)] [y] ?_ ?_ ?_ ?_ ?_ (aO ho (by simp[aS,tgt]))<;>(try simp only[results236,ntmps236,al,hw,hy,aT,bj,aY,y0,dM,ai,seval,ah])<;>(try simp only[ao])<;>(try omega)))
def wv (s:List UInt8)(c:UInt8)(M:ap)(nm:Nat):Ev cx 212 nm [.str s,.int .u8 c.toNat] M (.int .i64 (indexByte s c)) [] :=
 Ev.indexByte func212 (by kernel_rfl) (by kernel_rfl) (by kernel_rfl) (by kernel_rfl) s c M nm
def nI (s:List UInt8)(c:UInt8)(nm:Nat):Ev cx 185 nm [.str s,.int .u8 c.toNat] ap.nil (.int .i64 (indexByte s c)) []:=by
 refine bi call185 func185 rfl (by kernel_rfl) rfl ?_;intro b0 hb0
 (repeat' first|simp only[ak,aj,results185,ntmps185,al,ai,seval,ah]|exact rfl|refine aa (v:=.any) ?_|(first|(refine ad ?_ (wv s c _ _) ?_)|(refine ab ?_ (fun _=>wv s c _ _) ?_))|((first|apply Ca|apply Cb)<;>intro hb)|refine Ai (by omega) ?_|(apply Ai<;>intro hb)|refine Fin.pure ?_ ?_ ?_|simp only[ao])
def jx (s:List UInt8)(d:UInt8)(nm:Nat):Ev cx 220 nm [.str s,.str [d]] ap.nil (.int .i64 (indexByte s d)) []:=by
 by_cases h:[d]=s
 ·subst h
  have e:indexByte [d] d=0:=by simp[indexByte]
  have e1:([d]==[d])=true:=by simp
  refine bi call220 func220 rfl (by kernel_rfl) rfl ?_;intro b0 hb0
  (repeat' first|simp only[ak,aj,results220,ntmps220,al,e,e1,ai,seval,ah]|exact rfl|refine aa (v:=.any) ?_|(first|(refine ad ?_ (nI [d] d _) ?_)|(refine ab ?_ (fun _=>nI [d] d _) ?_))|((first|apply Ca|apply Cb)<;>intro hb)|refine Ai (by omega) ?_|(apply Ai<;>intro hb)|refine Fin.pure ?_ ?_ ?_|simp only[ao])
 ·have e1:([d]==s)=false:=beq_false_of_ne h
  refine bi call220 func220 rfl (by kernel_rfl) rfl ?_;intro b0 hb0
  (repeat' first|simp only[ak,aj,results220,ntmps220,al,e1,ai,seval,ah]|exact rfl|refine aa (v:=.any) ?_|(first|(refine ad ?_ (nI s d _) ?_)|(refine ab ?_ (fun _=>nI s d _) ?_))|((first|apply Ca|apply Cb)<;>intro hb)|refine Ai (by omega) ?_|(apply Ai<;>intro hb)|refine Fin.pure ?_ ?_ ?_|simp only[ao])
def hU (d:UInt8)(s:List UInt8):V:=match eg d s with
 | none=>.tup [.str s,.str [],.bool false]
 | some (a,b)=>.tup [.str a,.str b,.bool true]
def M4 (s:List UInt8)(d:UInt8)(hs:s.length<=be)(nm:Nat):Ev cx 203 nm [.str s,.str [d]] ap.nil (hU d s) []:=by
 unfold be at hs
 cases hc:eg d s with
 | none =>
  have e:indexByte s d = -1:=iQ.2 hc
  have ev:hU d s = .tup [.str s,.str [],.bool false]:=by unfold hU;rw[hc]
  rw[ev]
  refine bi call203 func203 rfl (by kernel_rfl) rfl ?_;intro b0 hb0
  (repeat' first|simp only[ak,aj,results203,ntmps203,al,ai,seval,ah]|exact rfl|refine aa (v:=.any) ?_|(first|(refine ad ?_ ((by have:=jx s d;rw[e]at this;exact this _)) ?_)|(refine ab ?_ (fun _=>(by have:=jx s d;rw[e]at this;exact this _)) ?_))|refine aA (by decide +kernel) ?_|((first|apply Ca|apply Cb)<;>intro hb)|refine Ai (by omega) ?_|(apply Ai<;>intro hb)|refine Fin.pure ?_ ?_ ?_|simp only[ao])
 | some p =>
  obtain⟨a,b⟩:=p
  obtain⟨e,e1,e2,e3⟩:=ko hc
  have ev:hU d s = .tup [.str a,.str b,.bool true]:=by unfold hU;rw[hc]
  have h1:(a.length:Int)<=s.length:=by omega
  have h2:IntKind.i64.wrap ((a.length:Int)+1)=((a.length+1:Nat):Int):=bf
  have h3:((a.length+1:Nat):Int)<=s.length:=by omega
  have h4:a.length<=s.length:=by omega
  have h5:a.length+1<=s.length:=by omega
  rw[ev]
  refine bi call203 func203 rfl (by kernel_rfl) rfl ?_;intro b0 hb0
  (repeat' first|simp only[ak,aj,results203,ntmps203,al,h1,h2,h3,h4,h5,e1,e2,ai,seval,ah]|exact rfl|refine aa (v:=.any) ?_|(first|(refine ad ?_ ((by have:=jx s d;rw[e]at this;exact this _)) ?_)|(refine ab ?_ (fun _=>(by have:=jx s d;rw[e]at this;exact this _)) ?_))|refine aA (by decide +kernel) ?_|((first|apply Ca|apply Cb)<;>intro hb)|refine Ai (by omega) ?_|(apply Ai<;>intro hb)|refine Fin.pure ?_ ?_ ?_|simp only[ao])
def oD (s:List UInt8)(d:UInt8)(hs:s.length<=be)(nm:Nat):Ev cx 172 nm [.str s,.str [d]] ap.nil (hU d s) []:=by
 have hev:=M4 s d hs
 cases hc:eg d s with
 | none =>
  have ev:hU d s = .tup [.str s,.str [],.bool false]:=by unfold hU;rw[hc]
  rw[ev]at hev ⊢
  refine bi call172 func172 rfl (by kernel_rfl) rfl ?_;intro b0 hb0
  (repeat' first|simp only[ak,aj,results172,ntmps172,al,ai,seval,ah]|exact rfl|refine aa (v:=.any) ?_|(first|(refine ad ?_ (hev _) ?_)|(refine ab ?_ (fun _=>hev _) ?_))|((first|apply Ca|apply Cb)<;>intro hb)|refine Ai (by omega) ?_|(apply Ai<;>intro hb)|refine Fin.pure ?_ ?_ ?_|simp only[ao])
 | some p =>
  have ev:hU d s = .tup [.str p.1,.str p.2,.bool true]:=by unfold hU;rw[hc]
  rw[ev]at hev ⊢
  refine bi call172 func172 rfl (by kernel_rfl) rfl ?_;intro b0 hb0
  (repeat' first|simp only[ak,aj,results172,ntmps172,al,ai,seval,ah]|exact rfl|refine aa (v:=.any) ?_|(first|(refine ad ?_ (hev _) ?_)|(refine ab ?_ (fun _=>hev _) ?_))|((first|apply Ca|apply Cb)<;>intro hb)|refine Ai (by omega) ?_|(apply Ai<;>intro hb)|refine Fin.pure ?_ ?_ ?_|simp only[ao])
def qZ (cs:List UInt8)(n:Nat):Bool:=cs.any fun c=>c.toNat==n
def eo (cs:List UInt8):List V:=(List.range 256).map fun i=>.bool (qZ cs i)
def db (cs:List UInt8):(eo cs).length=256:=by simp[eo]
def Fy (cs:List UInt8)(c:UInt8):(eo cs)[c.toNat]? = some (.bool (qZ cs c.toNat)):=by
 unfold eo
 rw[List.getElem?_map,List.getElem?_range c.toNat_lt];rfl
def FA (cs:List UInt8)(c:UInt8):(eo cs).set c.toNat (.bool true)=eo (cs++[c]):=by
 refine List.ext_getElem? fun i=>?_
 rw[List.getElem?_set]
 unfold eo
 rw[Lm,List.length_range,List.getElem?_map,List.getElem?_map]
 by_cases hi:i<256
 ·rw[List.getElem?_range hi]
  by_cases e:c.toNat=i
  ·subst e;simp[qZ,hi]
  ·simp[qZ,e]
 ·rw[List.getElem?_eq_none (by simpa using hi)]
  by_cases e:c.toNat=i
  ·subst e;exact absurd c.toNat_lt hi
  ·simp[e]
def cZ (cs:List UInt8):plainL (eo cs)=true:=by
 rw[uD,List.all_eq_true]
 intro v hv
 obtain⟨i,_,rfl⟩:=List.mem_map.1 hv
 rfl
def xF (cs:List UInt8):(eo cs).take 256=eo cs:=List.take_of_length_le (by rw[db];omega)
def xD (cs:List UInt8):(eo cs).drop 256=[]:=List.drop_of_length_le (by rw[db];omega)
def BZ (cs:List UInt8):(eo cs).all V.one=true:=by
 rw[List.all_eq_true]
 intro v hv
 obtain⟨i,_,rfl⟩:=List.mem_map.1 hv
 rfl
def Cy (O:List (Nat×Nat))(M:ap)(cs:List UInt8):finL O M (eo cs)=eo cs:=(finL_plain O M _ (cZ cs)).1
def tU (O:List (Nat×Nat))(M:ap)(cs:List UInt8):finLOk O M (eo cs)=True:=eq_true (finL_plain O M _ (cZ cs)).2
def C5 (cs:List UInt8):leL (eo cs) (eo cs)=True:=eq_true (leL_refl _)
def k8 (cs:List UInt8):plainLL [eo cs]=true:=by simp[plainLL,cZ]
def xE:([V.bool false,V.bool false,V.bool false,V.bool false,V.bool false,V.bool false,V.bool false,V.bool false,V.bool false,V.bool false,V.bool false,V.bool false,V.bool false,V.bool false,V.bool false,V.bool false,V.bool false,V.bool false,V.bool false,V.bool false,V.bool false,V.bool false,V.bool false,V.bool false,V.bool false,V.bool false,V.bool false,V.bool false,V.bool false,V.bool false,V.bool false,V.bool false,V.bool false,V.bool false,V.bool false,V.bool false,V.bool false,V.bool false,V.bool false,V.bool false,V.bool false,V.bool false,V.bool false,V.bool false,V.bool false,V.bool false,V.bool false,V.bool false,V.bool false,V.bool false,V.bool false,V.bool false,V.bool false,V.bool false,V.bool false,V.bool false,V.bool false,V.bool false,V.bool false,V.bool false,V.bool false,V.bool false,V.bool false,V.bool false,V.bool false,V.bool false,V.bool false,V.bool false,V.bool false,V.bool false,V.bool false,V.bool false,V.bool false,V.bool false,V.bool false,V.bool false,V.bool false,V.bool false,V.bool false,V.bool false,V.bool false,V.bool false,V.bool false,V.bool false,V.bool false,V.bool false,V.bool false,V.bool false,V.bool false,V.bool false,V.bool false,V.bool false,V.bool false,V.bool false,V.bool false,V.bool false,V.bool false,V.bool false,V.bool false,V.bool false,V.bool false,V.bool false,V.bool false,V.bool false,V.bool false,V.bool false,V.bool false,V.bool false,V.bool false,V.bool false,V.bool false,V.bool false,V.bool false,V.bool false,V.bool false,V.bool false,V.bool false,V.bool false,V.bool false,V.bool false,V.bool false,V.bool false,V.bool false,V.bool false,V.bool false,V.bool false,V.bool false,V.bool false,V.bool false,V.bool false,V.bool false,V.bool false,V.bool false,V.bool false,V.bool false,V.bool false,V.bool false,V.bool false,V.bool false,V.bool false,V.bool false,V.bool false,V.bool false,V.bool false,V.bool false,V.bool false,V.bool false,V.bool false,V.bool false,V.bool false,V.bool false,V.bool false,V.bool false,V.bool false,V.bool false,V.bool false,V.bool false,V.bool false,V.bool false,V.bool false,V.bool false,V.bool false,V.bool false,V.bool false,V.bool false,V.bool false,V.bool false,V.bool false,V.bool false,V.bool false,V.bool false,V.bool false,V.bool false,V.bool false,V.bool false,V.bool false,V.bool false,V.bool false,V.bool false,V.bool false,V.bool false,V.bool false,V.bool false,V.bool false,V.bool false,V.bool false,V.bool false,V.bool false,V.bool false,V.bool false,V.bool false,V.bool false,V.bool false,V.bool false,V.bool false,V.bool false,V.bool false,V.bool false,V.bool false,V.bool false,V.bool false,V.bool false,V.bool false,V.bool false,V.bool false,V.bool false,V.bool false,V.bool false,V.bool false,V.bool false,V.bool false,V.bool false,V.bool false,V.bool false,V.bool false,V.bool false,V.bool false,V.bool false,V.bool false,V.bool false,V.bool false,V.bool false,V.bool false,V.bool false,V.bool false,V.bool false,V.bool false,V.bool false,V.bool false,V.bool false,V.bool false,V.bool false,V.bool false,V.bool false,V.bool false,V.bool false,V.bool false,V.bool false,V.bool false,V.bool false,V.bool false,V.bool false,V.bool false,V.bool false,V.bool false,V.bool false,V.bool false,V.bool false,V.bool false,V.bool false,V.bool false,V.bool false,V.bool false,V.bool false,V.bool false,V.bool false]:List V)=eo []:=rfl
def pn (cs:List UInt8)(h:∀ c∈cs,c.toNat<128)(hl:cs.length<=100)(nm:Nat):Ev cx 189 nm [.str cs] ap.nil (.tup [.agg (eo cs),.bool true]) []:=by
 refine bi call189 func189 rfl (by kernel_rfl) rfl ?_;intro b0 hb0
 repeat' first|simp only[ak,aj,results189,ntmps189,al,xE,db,ai,seval,ah]|exact rfl|refine aa (v:=.any) ?_|((first|apply Ca|apply Cb)<;>intro hb)|refine Ai (by omega) ?_|(apply Ai<;>intro hb)
 (refine aR bR (fun x:Nat=>cs.length-x) (fun x=>x<=cs.length) (b0+16) (fun x=>[(0,.str cs),(2,.ptr b0 0 0),(4,.int .i64 x)]) (fun x=>[(b0,⟨256,[eo (cs.take x)]⟩)]) (0) [some b0] ?_ ?_ ?_ ?_;rotate_left 1;(focus (show b0<=_;omega));(focus (refine⟨?_,?_⟩<;>(try simp only[aX,cZ,k8,xE,db,List.take_zero,ai,seval,ah,ao])<;>(try omega)));rotate_left 1)
 ·exact Nat.zero_le _
 ·intro k hk
  by_cases hlt:k<cs.length
  ·obtain⟨c,hc⟩:∃ c,cs[k]? = some c:=⟨_,List.getElem?_eq_getElem hlt⟩
   have hd:decide (k<cs.length)=true:=decide_eq_true hlt
   have hwk:IntKind.i64.wrap ((k:Int)+1)=((k+1:Nat):Int):=bf
   have h128:=h c (List.mem_of_getElem? hc)
   have hd2:decide ((128:Int)<=(c.toNat:Int))=false:=bo
   have h256:c.toNat<256:=c.toNat_lt
   have hset:=FA (cs.take k) c
   have htk:cs.take k++[c]=cs.take (k+1):=by
    obtain⟨hk',rfl⟩:=List.getElem?_eq_some_iff.1 hc
    rw[List.take_succ_eq_append_getElem hk']
   rw[htk]at hset
   repeat' first|simp only[ak,aj,results189,ntmps189,al,hc,hd,hd2,hlt,h256,hset,db,ai,seval,ah]|exact rfl|refine aa (v:=.any) ?_|((first|apply Ca|apply Cb)<;>intro hb)|refine Ai (by omega) ?_|(apply Ai<;>intro hb)
   all_goals ((refine aD bR (k+1) [some b0] ?_ ?_ ?_ ?_;rotate_left 2;(focus (show b0<=_;omega));(focus (refine⟨?_,?_⟩<;>(try simp only[aX,cZ,k8,hset,hwk,ai,seval,ah,ao])<;>(try omega)))))
   all_goals (first|(show cs.length-(k+1)<cs.length-k;omega)|(show k+1<=cs.length;omega)|skip)
  ·have hke:k=cs.length:=by omega
   subst hke
   have hd:decide (cs.length<cs.length)=false:=bo
   have htk:cs.take cs.length=cs:=List.take_length
   (repeat' first|simp only[ak,aj,results189,ntmps189,al,hd,htk,xF,xD,BZ,Cy,tU,C5,db,k8,cZ,ai,seval,ah]|exact rfl|refine aa (v:=.any) ?_|((first|apply Ca|apply Cb)<;>intro hb)|refine Ai (by omega) ?_|(apply Ai<;>intro hb)|refine Fin.pure ?_ ?_ ?_|simp only[ao])
def zi (cs:List UInt8)(c:UInt8)(nm:Nat):Ev cx 217 nm [.rp (eo cs),.int .u8 c.toNat] ap.nil (.bool (qZ cs c.toNat)) []:=by
 have h256:c.toNat<256:=c.toNat_lt
 have hg:(List.drop c.toNat (eo cs))[0]? = some (.bool (qZ cs c.toNat)):=by rw[List.getElem?_drop,Nat.add_zero];exact Fy cs c
 have hl:0<(List.drop c.toNat (eo cs)).length:=by rw[List.length_drop,db];omega
 refine bi call217 func217 rfl (by kernel_rfl) rfl ?_;intro b0 hb0
 (repeat' first|simp only[ak,aj,results217,ntmps217,al,h256,hg,hl,db,ai,seval,ah]|exact rfl|refine aa (v:=.any) ?_|((first|apply Ca|apply Cb)<;>intro hb)|refine Ai (by omega) ?_|(apply Ai<;>intro hb)|refine Fin.pure ?_ ?_ ?_|simp only[ao])
def dX (cs:List UInt8):List UInt8->List UInt8
 | []=>[]
 | c::s=>if qZ cs c.toNat=true then dX cs s else c::s
def fc (cs:List UInt8)(s:List UInt8):List UInt8:=(dX cs s.reverse).reverse
def pe (cs:List UInt8):∀(s:List UInt8),∃ k,k<=s.length/\dX cs s=s.drop k/\(∀ i c,i<k->s[i]? = some c->qZ cs c.toNat=true)/\(∀ c,s[k]? = some c->qZ cs c.toNat=false)
 | []=>⟨0,by simp,rfl,fun i c h=>by omega,fun c h=>by simp at h⟩
 | c::s=>by
  unfold dX
  by_cases h:qZ cs c.toNat=true
  ·rw[if_pos h]
   obtain⟨k,h1,h2,h3,h4⟩:=pe cs s
   refine⟨k+1,by simp;omega,by rw[h2];rfl,fun i d hi hd=>?_,fun d hd=>h4 d (by simpa using hd)⟩
   cases i with
   | zero=>simp at hd;subst hd;exact h
   | succ i=>exact h3 i d (by omega) (by simpa using hd)
  ·rw[if_neg h]
   refine⟨0,by simp,rfl,fun i d hi=>by omega,fun d hd=>?_⟩
   simp at hd;subst hd
   simpa using h
def xh {cs s:List UInt8} : dX cs s=[]↔s.all (fun c=>qZ cs c.toNat)=true:=by
 induction s with
 | nil=>simp[dX]
 | cons c s ih =>
  unfold dX
  by_cases h:qZ cs c.toNat=true
  ·rw[if_pos h,ih];simp[h]
  ·rw[if_neg h];simp[h]
def yV (cs s:List UInt8):(dX cs s).length<=s.length:=by
 obtain⟨k,h1,h2,_⟩:=pe cs s
 rw[h2];simp
def yX (cs s:List UInt8):(fc cs s).length<=s.length:=by
 unfold fc;have:=yV cs s.reverse;simpa using this
def oq {cs:List UInt8}{c:UInt8}(s:List UInt8)(h:qZ cs c.toNat=true):dX cs (c::s)=dX cs s:=by rw[dX,if_pos h]
def nk {cs:List UInt8}{c:UInt8}(s:List UInt8)(h:qZ cs c.toNat=false):dX cs (c::s)=c::s:=by rw[dX,if_neg (by simp[h])]
def vZ {cs:List UInt8}{c:UInt8}(s:List UInt8)(h:qZ cs c.toNat=true):fc cs (s++[c])=fc cs s:=by unfold fc;rw[List.reverse_append];simp only[List.reverse_cons,List.reverse_nil,List.nil_append,List.cons_append];rw[oq _ h]
def u7 {cs:List UInt8}{c:UInt8}(s:List UInt8)(h:qZ cs c.toNat=false):fc cs (s++[c])=s++[c]:=by unfold fc;rw[List.reverse_append];simp only[List.reverse_cons,List.reverse_nil,List.nil_append,List.cons_append];rw[nk _ h];simp
def u9 {cs s:List UInt8} : dX cs (fc cs s)=[]↔s.all (fun c=>qZ cs c.toNat)=true:=by
 constructor
 ·intro h
  have h1:=xh.1 h
  unfold fc at h1
  obtain⟨k,hk,hd,hi,ho⟩:=pe cs s.reverse
  rw[List.all_reverse,hd]at h1
  rw[<- List.all_reverse,List.all_eq_true]
  intro c hc
  obtain⟨i,hi2⟩:=List.mem_iff_getElem?.1 hc
  by_cases hik:i<k
  ·exact hi i c hik hi2
  ·refine List.all_eq_true.1 h1 c ?_
   refine List.mem_iff_getElem?.2 ⟨i-k,?_⟩
   rw[List.getElem?_drop,show k+(i-k)=i by omega];exact hi2
 ·intro h
  have:fc cs s=[]:=by
   unfold fc
   rw[xh.2 (by rw[List.all_reverse];exact h)];rfl
  rw[this];rfl
def se (cs s:List UInt8)(hs:s.length<=be)(nm:Nat):Ev cx 190 nm [.str s,.rp (eo cs)] ap.nil (.str (dX cs s)) []:=by
 unfold be at hs
 refine bi call190 func190 rfl (by kernel_rfl) rfl ?_;intro b0 hb0;have zF:=Ai results190 ntmps190
 repeat' first|simp only[ak,aj,zF,al,cZ,ai,seval,ah]|exact rfl|refine aa (v:=.any) ?_|((first|apply Ca|apply Cb)<;>intro hb)|refine Ai (by omega) ?_|(apply Ai<;>intro hb)
 (refine aR bR (fun x:List UInt8=>x.length) (fun x=>x.length<=s.length/\dX cs s=dX cs x) (b0+16) (fun x=>[(0,.str x),(1,.rp (eo cs))]) (fun x=>[]) (s) [] ?_ ?_ ?_ ?_;rotate_left 1;(focus (show b0<=_;omega));(focus (refine⟨?_,?_⟩<;>(try simp only[aX,cZ,ai,seval,ah,ao])<;>(try omega)));rotate_left 1)
 ·exact⟨Nat.le_refl _,rfl⟩
 ·rintro x ⟨h1,h2⟩
  cases x with
  | nil =>
   have hz:dX cs s=[]:=h2
   have hd:decide ((0:Int)<0)=false:=rfl
   (repeat' first|simp only[ak,aj,zF,al,hz,hd,Nat.lt_irrefl,Int.lt_irrefl,ai,seval,ah]|exact rfl|refine aa (v:=.any) ?_|((first|apply Ca|apply Cb)<;>intro hb)|refine Ai (by omega) ?_|(apply Ai<;>intro hb)|refine Fin.pure ?_ ?_ ?_|simp only[ao])
  | cons c x =>
   have hd:decide ((0:Int)<(((c::x).length:Nat):Int))=true:=decide_eq_true (by simp only[List.length_cons];omega)
   have hl:0<(c::x).length:=by simp
   have h1':(1:Int)<=(((c::x).length:Nat):Int):=by simp only[List.length_cons];omega
   have h1'':1<=(c::x).length:=by simp
   have hh:=zi cs c
   simp only[List.length_cons]at hd hl h1' h1''
   cases hb:qZ cs c.toNat with
   | true =>
    rw[hb]at hh
    repeat' first|simp only[ak,aj,zF,al,cZ,hd,hl,h1',h1'',Bt,ai,seval,ah]|exact rfl|refine aa (v:=.any) ?_|(first|(refine ad ?_ (hh _) ?_)|(refine ab ?_ (fun _=>hh _) ?_))|((first|apply Ca|apply Cb)<;>intro hb)|refine Ai (by omega) ?_|(apply Ai<;>intro hb)
    all_goals ((refine aD bR (x) [] ?_ ?_ ?_ ?_;rotate_left 2;(focus (show b0<=_;omega));(focus (refine⟨?_,?_⟩<;>(try simp only[aX,cZ,ai,seval,ah,ao])<;>(try omega)))))
    all_goals (first|(show x.length<(c::x).length;simp;done)|(refine⟨by simp at h1;omega,?_⟩;rw[h2,oq _ hb])|skip)
   | false =>
    rw[hb]at hh
    have hz:dX cs s=c::x:=by rw[h2,nk _ hb]
    (repeat' first|simp only[ak,aj,zF,al,cZ,hd,hl,h1',h1'',hz,Bf,ai,seval,ah]|exact rfl|refine aa (v:=.any) ?_|(first|(refine ad ?_ (hh _) ?_)|(refine ab ?_ (fun _=>hh _) ?_))|((first|apply Ca|apply Cb)<;>intro hb)|refine Ai (by omega) ?_|(apply Ai<;>intro hb)|refine Fin.pure ?_ ?_ ?_|simp only[ao])
def yY (cs s:List UInt8)(hs:s.length<=be)(nm:Nat):Ev cx 191 nm [.str s,.rp (eo cs)] ap.nil (.str (fc cs s)) []:=by
 unfold be at hs
 refine bi call191 func191 rfl (by kernel_rfl) rfl ?_;intro b0 hb0;have zF:=Ai results191 ntmps191
 repeat' first|simp only[ak,aj,zF,al,cZ,ai,seval,ah]|exact rfl|refine aa (v:=.any) ?_|((first|apply Ca|apply Cb)<;>intro hb)|refine Ai (by omega) ?_|(apply Ai<;>intro hb)
 (refine aR bR (fun x:List UInt8=>x.length) (fun x=>x.length<=s.length/\fc cs s=fc cs x) (b0+16) (fun x=>[(0,.str x),(1,.rp (eo cs))]) (fun x=>[]) (s) [] ?_ ?_ ?_ ?_;rotate_left 1;(focus (show b0<=_;omega));(focus (refine⟨?_,?_⟩<;>(try simp only[aX,cZ,ai,seval,ah,ao])<;>(try omega)));rotate_left 1)
 ·exact⟨Nat.le_refl _,rfl⟩
 ·rintro x ⟨h1,h2⟩
  by_cases hne:x=[]
  ·subst hne
   have hz:fc cs s=[]:=h2
   (repeat' first|simp only[ak,aj,zF,al,hz,Nat.lt_irrefl,Int.lt_irrefl,ai,seval,ah]|exact rfl|refine aa (v:=.any) ?_|((first|apply Ca|apply Cb)<;>intro hb)|refine Ai (by omega) ?_|(apply Ai<;>intro hb)|refine Fin.pure ?_ ?_ ?_|simp only[ao])
  ·obtain⟨y,c,rfl⟩:∃ y c,x=y++[c]:=⟨x.dropLast,x.getLast hne,(List.dropLast_concat_getLast hne).symm⟩
   have hlen:(y++[c]).length=y.length+1:=by simp
   have hd:decide ((0:Int)<((y.length+1:Nat):Int))=true:=cn
   have hw:IntKind.i64.wrap (((y.length+1:Nat):Int)-1)=(y.length:Int):=by rw[y3 (by simp at h1;omega) (by simp at h1;omega)];omega
   have hw2:IntKind.i64.wrap ((y.length:Int)+1-1)=(y.length:Int):=by rw[y3 (by simp at h1;omega) (by simp at h1;omega)];omega
   have hg:(y++[c])[y.length]? = some c:=by simp
   have hl1:y.length<y.length+1:=by omega
   have hl2:(y.length:Int)<=((y.length+1:Nat):Int):=by omega
   have hl3:y.length<=y.length+1:=by omega
   have htk:(y++[c]).take y.length=y:=by simp
   have hh:=zi cs c
   cases hb:qZ cs c.toNat with
   | true =>
    rw[hb]at hh
    repeat' first|simp only[ak,aj,zF,al,cZ,hlen,hd,hw,hw2,hg,hl1,hl2,hl3,htk,Bt,ai,seval,ah]|exact rfl|refine aa (v:=.any) ?_|(first|(refine ad ?_ (hh _) ?_)|(refine ab ?_ (fun _=>hh _) ?_))|((first|apply Ca|apply Cb)<;>intro hb)|refine Ai (by omega) ?_|(apply Ai<;>intro hb)
    all_goals ((refine aD bR (y) [] ?_ ?_ ?_ ?_;rotate_left 2;(focus (show b0<=_;omega));(focus (refine⟨?_,?_⟩<;>(try simp only[aX,cZ,htk,ai,seval,ah,ao])<;>(try omega)))))
    all_goals (first|(show y.length<(y++[c]).length;simp only[List.length_append,List.length_singleton];omega)|omega|(refine⟨by simp at h1;omega,?_⟩;rw[h2,vZ _ hb])|skip)
   | false =>
    rw[hb]at hh
    have hz:fc cs s=y++[c]:=by rw[h2,u7 _ hb]
    (repeat' first|simp only[ak,aj,zF,al,cZ,hlen,hd,hw,hw2,hg,hl1,hl2,hl3,hz,Bf,ai,seval,ah]|exact rfl|refine aa (v:=.any) ?_|(first|(refine ad ?_ (hh _) ?_)|(refine ab ?_ (fun _=>hh _) ?_))|((first|apply Ca|apply Cb)<;>intro hb)|refine Ai (by omega) ?_|(apply Ai<;>intro hb)|refine Fin.pure ?_ ?_ ?_|simp only[ao])
def Fk (cs s:List UInt8)(h:∀ c∈cs,c.toNat<128)(hl:cs.length<=100)(h2:2<=cs.length)(hs:s.length<=be)(nm:Nat):Ev cx 151 nm [.str s,.str cs] ap.nil (.str (dX cs (fc cs s))) []:=by
 have hcs:(cs==[])=false:=beq_false_of_ne (by intro e;subst e;simp at h2)
 by_cases h0:s=[]
 ·subst h0
  have e0:(([]:List UInt8)==[])=true:=rfl
  have e1:dX cs (fc cs [])=[]:=rfl
  refine bi call151 func151 rfl (by kernel_rfl) rfl ?_;intro b0 hb0
  (repeat' first|simp only[ak,aj,results151,ntmps151,al,e0,e1,ai,seval,ah]|exact rfl|refine aa (v:=.any) ?_|refine aA (by decide +kernel) ?_|((first|apply Ca|apply Cb)<;>intro hb)|refine Ai (by omega) ?_|(apply Ai<;>intro hb)|refine Fin.pure ?_ ?_ ?_|simp only[ao])
 ·have e0:(s==[])=false:=beq_false_of_ne h0
  have e2:((cs.length:Int)==1)=false:=beq_false_of_ne (by omega)
  have hsr:(fc cs s).length<=be:=Nat.le_trans (yX cs s) hs
  refine bi call151 func151 rfl (by kernel_rfl) rfl ?_;intro b0 hb0
  (repeat' first|simp only[ak,aj,results151,ntmps151,al,e0,hcs,e2,xE,xF,xD,BZ,Cy,tU,C5,db,cZ,k8,ai,seval,ah]|exact rfl|refine aa (v:=.any) ?_|(first|(refine ad ?_ (pn cs h hl _) ?_)|(refine ab ?_ (fun _=>pn cs h hl _) ?_))|((refine bm (xs:=?_) [b0+320] ?_ ?_ ?_ rfl (yY cs s hs _) ?_);rotate_left 1)|((refine bm (xs:=?_) [b0+320] ?_ ?_ ?_ rfl (se cs (fc cs s) hsr _) ?_);rotate_left 1)|omega|refine aA (by decide +kernel) ?_|((first|apply Ca|apply Cb)<;>intro hb)|refine Ai (by omega) ?_|(apply Ai<;>intro hb)|refine Fin.pure ?_ ?_ ?_|simp only[ao])
def gf:List UInt8:=[32,9,10,13]
def FP (c:UInt8):qZ gf c.toNat=fS c:=by
 have key:∀ n:Fin 256,qZ gf n.val=fS (UInt8.ofNat n.val):=by decide +kernel
 have:=key ⟨c.toNat,c.toNat_lt⟩
 simpa using this
def xi:∀ s:List UInt8,dX gf s=s.dropWhile fS
 | []=>rfl
 | c::s=>by
  rw[dX,FP,List.dropWhile_cons,xi s]
def yW (cs s:List UInt8)(h:∀ c∈cs,c.toNat<128)(hl:cs.length<=100)(h2:2<=cs.length)(hs:s.length<=be)(nm:Nat):Ev cx 208 nm [.str s,.str cs] ap.nil (.str (dX cs s)) []:=by
 have hcs:(cs==[])=false:=beq_false_of_ne (by intro e;subst e;simp at h2)
 by_cases h0:s=[]
 ·subst h0
  have e0:(([]:List UInt8)==[])=true:=rfl
  have e1:dX cs []=[]:=rfl
  refine bi call208 func208 rfl (by kernel_rfl) rfl ?_;intro b0 hb0
  (repeat' first|simp only[ak,aj,results208,ntmps208,al,e0,e1,ai,seval,ah]|exact rfl|refine aa (v:=.any) ?_|((first|apply Ca|apply Cb)<;>intro hb)|refine Ai (by omega) ?_|(apply Ai<;>intro hb)|refine Fin.pure ?_ ?_ ?_|simp only[ao])
 ·have e0:(s==[])=false:=beq_false_of_ne h0
  have e2:((cs.length:Int)==1)=false:=beq_false_of_ne (by omega)
  refine bi call208 func208 rfl (by kernel_rfl) rfl ?_;intro b0 hb0
  (repeat' first|simp only[ak,aj,results208,ntmps208,al,e0,hcs,e2,xE,xF,xD,BZ,Cy,tU,C5,db,cZ,k8,ai,seval,ah]|exact rfl|refine aa (v:=.any) ?_|(first|(refine ad ?_ (pn cs h hl _) ?_)|(refine ab ?_ (fun _=>pn cs h hl _) ?_))|((refine bm (xs:=?_) [b0+320] ?_ ?_ ?_ rfl (se cs s hs _) ?_);rotate_left 1)|omega|((first|apply Ca|apply Cb)<;>intro hb)|refine Ai (by omega) ?_|(apply Ai<;>intro hb)|refine Fin.pure ?_ ?_ ?_|simp only[ao])
def pP (s:List UInt8)(c:UInt8)(nm:Nat):Ev cx 147 nm [.str s,.int .u8 c.toNat] ap.nil (.int .i64 (indexByte s c)) []:=by
 refine bi call147 func147 rfl (by kernel_rfl) rfl ?_;intro b0 hb0
 (repeat' first|simp only[ak,aj,results147,ntmps147,al,ai,seval,ah]|exact rfl|refine aa (v:=.any) ?_|(first|(refine ad ?_ (nI s c _) ?_)|(refine ab ?_ (fun _=>nI s c _) ?_))|((first|apply Ca|apply Cb)<;>intro hb)|refine Ai (by omega) ?_|(apply Ai<;>intro hb)|refine Fin.pure ?_ ?_ ?_|simp only[ao])
def I1 {z:Int}(h0:128<=z)(hm:gq z=true):∃(l:List UInt8) (c:UInt8),(Utf8.encode z).data.toList=l++[c]/\128<=c.toNat/\1<=l.length/\l.length<=3:=by
 have hz:=(gg z).1 hm
 have hv:Utf8.valid z=true:=by unfold Utf8.valid;simp;omega
 have mm:∀ n:Nat,128<=(UInt8.ofNat (128+n % 64)).toNat:=fun n=>by simp;omega
 unfold Utf8.encode
 simp only[hv,if_true]
 rw[if_neg (by omega)]
 split
 ·exact⟨[_],_,rfl,mm _,by simp,by simp⟩
 ·split
  ·exact⟨[_,_],_,rfl,mm _,by simp,by simp⟩
  ·exact⟨[_,_,_],_,rfl,mm _,by simp,by simp⟩
def Pl {c:UInt8}(h:128<=c.toNat):∀ k,c ∉ gf.drop k:=by
 intro k hc
 have h1:=List.mem_of_mem_drop hc
 unfold gf at h1
 simp only[Lk,Ln,or_false]at h1
 rcases h1 with rfl|rfl|rfl|rfl<;>exact absurd h (by decide)
def JJ {d:UInt8}{s:List UInt8}(h:d ∉ s):indexByte s d = -1:=iQ.2 (hH.2 h)
def JI (z:Int):Int:=if z<128 then indexByte gf (UInt8.ofNat z.toNat) else -1
def uj (z:Int)(hm:gq z=true)(nm:Nat):Ev cx 232 nm [.str [32,9,10,13],.int .i32 z] ap.nil (.int .i64 (JI z)) []:=by
 have hz:=(gg z).1 hm
 have hr:=fj hm
 have d0:decide (0<=z)=true:=decide_eq_true hr.1
 by_cases c1:z<128
 ·have d1:decide (z<128)=true:=decide_eq_true c1
  have hw:IntKind.u8.wrap z=((UInt8.ofNat z.toNat).toNat:Int):=by rw[IntWalk.u8_in _ (by omega)];simp;omega
  have hi:=pP gf (UInt8.ofNat z.toNat)
  have hx:JI z=indexByte gf (UInt8.ofNat z.toNat):=if_pos c1
  rw[hx]
  unfold gf at hi ⊢
  generalize UInt8.ofNat z.toNat=g at hw hi
  refine bi call232 func232 rfl (by kernel_rfl) rfl ?_;intro b0 hb0;have zF:=Ai results232 ntmps232
  (repeat' first|simp only[ak,aj,zF,al,d0,d1,hw,ai,seval,ah]|exact rfl|refine aa (v:=.any) ?_|(first|(refine ad ?_ (hi _) ?_)|(refine ab ?_ (fun _=>hi _) ?_))|refine aA (by decide +kernel) ?_|((first|apply Ca|apply Cb)<;>intro hb)|refine Ai (by omega) ?_|(apply Ai<;>intro hb)|refine Fin.pure ?_ ?_ ?_|simp only[ao])
 have d1:decide (z<128)=false:=decide_eq_false c1
 have hx:JI z = -1:=if_neg c1
 rw[hx]
 by_cases c2:z=65533
 ·subst c2
  refine bi call232 func232 rfl (by kernel_rfl) rfl ?_;intro b0 hb0;have zF:=Ai results232 ntmps232
  repeat' first|simp only[ak,aj,zF,al,d0,d1,ai,seval,ah]|exact rfl|refine aa (v:=.any) ?_|(refine nD (s:=?_) ?_ ?_ ?_;rotate_left 1;(iterate 2 (focus (simp only[zF,al,d0,d1,ai,seval,ah]<;>exact rfl))))|(refine bd ?_)|(refine aV ?_)|refine aA (by decide +kernel) ?_|((first|apply Ca|apply Cb)<;>intro hb)|refine Ai (by omega) ?_|(apply Ai<;>intro hb)
  (refine aR bR (fun x:Nat=>4-x) (fun x=>x<=4) (b0+16) (fun x=>[(175,.ptr b0 0 0)]) (fun x=>[(b0,kV [32,9,10,13] x)]) (0) [some (b0+192)] ?_ ?_ ?_ ?_;rotate_left 1;(focus (show b0<=_;omega));(focus (refine⟨?_,?_⟩<;>(try simp only[aX,gc,ek,ai,seval,ah,ao])<;>(try omega)));rotate_left 1)
  ·exact Nat.zero_le _
  ·intro p hp
   by_cases hlt:p<4
   ·have hd:p<([32,9,10,13]:List UInt8).length:=hlt
    have hrn:bn [32,9,10,13] p=((([32,9,10,13]:List UInt8)[p]?.getD 0).toNat,1)/\((([32,9,10,13]:List UInt8)[p]?.getD 0).toNat:Int)≠65533:=by
     rcases(show p=0\/p=1\/p=2\/p=3 by omega) with rfl|rfl|rfl|rfl<;>decide +kernel
    obtain⟨hr1,hr2⟩:=hrn
    have hr3:(bn [32,9,10,13] p).2=1:=by rw[hr1]
    have hq:(((bn [32,9,10,13] p).1:Int)==65533)=false:=by rw[hr1];exact beq_false_of_ne hr2
    repeat' first|simp only[ak,aj,zF,al,hd,hlt,hq,hr3,List.length_cons,List.length_nil,ai,seval,ah]|exact rfl|refine aa (v:=.any) ?_|(refine iJ (s:=?_) (y:=?_) (p:=?_) ?_ ?_ ?_ ?_;rotate_left 3;(iterate 2 (focus (simp only[zF,al,hd,hlt,hq,hr3,List.length_cons,List.length_nil,ai,seval,ah]<;>exact rfl)));(focus (simp only[zF,al,hd,hlt,hq,hr3,List.length_cons,List.length_nil,ai,seval,ah]<;>omega)))|(refine bd ?_)|(refine aV ?_)|refine aA (by decide +kernel) ?_|refine Ai (by omega) ?_
    all_goals ((refine aD bR (p+1) [some b0] ?_ ?_ ?_ ?_;rotate_left 2;(focus (show b0<=_;omega));(focus (refine⟨?_,?_⟩<;>(try simp only[aX,gc,ek,hr3,ai,seval,ah,ao])<;>(try omega)))))
    all_goals (first|(show 4-(p+1)<4-p;omega)|(show p+1<=4;omega)|skip)
   ·have hpe:p=4:=by omega
    subst hpe
    (repeat' first|simp only[ak,aj,zF,al,List.length_cons,List.length_nil,ai,seval,ah]|exact rfl|refine aa (v:=.any) ?_|(refine pF (s:=?_) (y:=?_) (p:=?_) ?_ ?_ ?_ ?_;rotate_left 3;(iterate 2 (focus (simp only[zF,al,List.length_cons,List.length_nil,ai,seval,ah]<;>exact rfl)));(focus (simp only[zF,al,List.length_cons,List.length_nil,ai,seval,ah]<;>omega)))|(refine bd ?_)|(refine aV ?_)|refine aA (by decide +kernel) ?_|((first|apply Ca|apply Cb)<;>intro hb)|refine Ai (by omega) ?_|(apply Ai<;>intro hb)|refine Fin.pure ?_ ?_ ?_|simp only[ao])
 ·have d2:(z==65533)=false:=beq_false_of_ne c2
  have hv:pg z=true:=by
   unfold pg
   simp only[Bool.or_eq_true,Bool.and_eq_true,decide_eq_true_eq];omega
  have hve:=ve z
  rw[hv]at hve
  obtain⟨l,c,h1,h2,h3,h4⟩:=I1 (by omega) hm
  have hll:(l++[c]).length=l.length+1:=by simp
  have hgl:(l++[c])[l.length]? = some c:=by simp
  have hw1:IntKind.i64.wrap (((l.length+1:Nat):Int)-1)=(l.length:Int):=by rw[bf];omega
  have hw2:IntKind.i64.wrap ((l.length:Int)+1-1)=(l.length:Int):=by rw[bf];omega
  refine bi call232 func232 rfl (by kernel_rfl) rfl ?_;intro b0 hb0;have zF:=Ai results232 ntmps232
  repeat' first|simp only[ak,aj,zF,al,d0,d1,d2,h1,hll,hw1,hw2,Bt,ai,seval,ah]|exact rfl|refine aa (v:=.any) ?_|(first|(refine ad ?_ (hve _) ?_)|(refine ab ?_ (fun _=>hve _) ?_))|refine aA (by decide +kernel) ?_|((first|apply Ca|apply Cb)<;>intro hb)|refine Ai (by omega) ?_|(apply Ai<;>intro hb)
  (refine aR bR (fun x:Nat=>x) (fun _=>True) (b0+16) (fun x=>[(0,.str [32,9,10,13]),(7,.str (l++[c])),(8,.int .i64 l.length),(9,.int .i64 l.length)]) (fun x=>[]) (0) [] ?_ ?_ ?_ ?_;rotate_left 1;(focus (show b0<=_;omega));(focus (refine⟨?_,?_⟩<;>(try simp only[aX,h1,ai,seval,ah,ao])<;>(try omega)));rotate_left 1)
  ·trivial
  ·intro x _
   have hlt4:decide ((l.length:Int)<4)=true:=cn
   have hlt4':decide (l.length<4)=true:=cn
   have hl4:l.length<4:=by omega
   obtain⟨d,hd⟩:∃ d,([32,9,10,13]:List UInt8)[l.length]? = some d:=⟨_,List.getElem?_eq_getElem (by simp;omega)⟩
   have hdc:(!((d.toNat:Int)==(c.toNat:Int)))=true:=by
    have hda:d.toNat<128:=by
     have:=List.mem_of_getElem? hd
     simp only[Lk,Ln,or_false]at this
     rcases this with rfl|rfl|rfl|rfl<;>decide
    rw[beq_false_of_ne (by omega)];rfl
   have hdc':((d.toNat:Int) !=(c.toNat:Int))=true:=hdc
   have hw3:IntKind.i64.wrap ((l.length:Int)+1)=((l.length+1:Nat):Int):=bf
   have hs1:((l.length+1:Nat):Int)<=4:=by omega
   have hs2:l.length+1<=4:=by omega
   have hs3:l.length<l.length+1:=by omega
   have hix:=pP (([32,9,10,13]:List UInt8).drop (l.length+1)) c
   have hi0:indexByte (([32,9,10,13]:List UInt8).drop (l.length+1)) c = -1:=JJ (Pl h2 (l.length+1))
   rw[hi0]at hix
   (repeat' first|simp only[ak,aj,zF,al,hll,hgl,hlt4,hlt4',hl4,hd,hdc,hdc',hw3,hs1,hs2,hs3,List.length_cons,List.length_nil,ai,seval,ah]|exact rfl|refine aa (v:=.any) ?_|(first|(refine ad ?_ (hix _) ?_)|(refine ab ?_ (fun _=>hix _) ?_))|refine aA (by decide +kernel) ?_|refine Ai (by omega) ?_|refine Fin.pure ?_ ?_ ?_|simp only[ao])
def mq (z:Int):Bool:=decide (z=32\/z=9\/z=10\/z=13)
def CU {z:Int}(hm:gq z=true):decide (0<=JI z)=mq z:=by
 have hr:=fj hm
 unfold JI mq
 by_cases c1:z<128
 ·rw[if_pos c1]
  have key:∀ n:Fin 128,decide (0<=indexByte gf (UInt8.ofNat n.val))=decide (n.val=32\/n.val=9\/n.val=10\/n.val=13):=by decide +kernel
  have:=key ⟨z.toNat,by omega⟩
  rw[this]
  rw[decide_eq_decide]
  simp only;omega
 ·rw[if_neg c1]
  rw[decide_eq_decide];omega
def CS (z:Int)(hm:gq z=true)(nm:Nat):Ev cx 211 nm [.str [32,9,10,13],.int .i32 z] ap.nil (.bool (mq z)) []:=by
 have h:=CU hm
 refine bi call211 func211 rfl (by kernel_rfl) rfl ?_;intro b0 hb0
 (repeat' first|simp only[ak,aj,results211,ntmps211,al,h,ai,seval,ah]|exact rfl|refine aa (v:=.any) ?_|(first|(refine ad ?_ (uj z hm _) ?_)|(refine ab ?_ (fun _=>uj z hm _) ?_))|((first|apply Ca|apply Cb)<;>intro hb)|refine Ai (by omega) ?_|(apply Ai<;>intro hb)|refine Fin.pure ?_ ?_ ?_|simp only[ao])
def gD (z:Int):Int:=if mq z=true then 32 else z
def ED (z:Int)(hm:gq z=true)(nm:Nat):Ev cx 210 nm [.int .i32 z] ap.nil (.int .i32 (gD z)) []:=by
 have h:=CS z hm
 unfold gD
 generalize mq z=b at h ⊢
 cases b<;>(
  refine bi call210 func210 rfl (by kernel_rfl) rfl ?_;intro b0 hb0
  (repeat' first|simp only[ak,aj,results210,ntmps210,al,if_true,Bool.false_eq_true,if_false,ai,seval,ah]|exact rfl|refine aa (v:=.any) ?_|(first|(refine ad ?_ (h _) ?_)|(refine ab ?_ (fun _=>h _) ?_))|((first|apply Ca|apply Cb)<;>intro hb)|refine Ai (by omega) ?_|(apply Ai<;>intro hb)|refine Fin.pure ?_ ?_ ?_|simp only[ao]))
def Qt (z:Int)(hm:gq z=false)(q y:Nat)(bs:List UInt8)(M:ap)(nm:Nat)(hqy:q≠y)(hq:M q=some ⟨1,[[.own y 0 bs.length]]⟩)(hy:M y=some (rK bs))(ho:∀ w,(M w).isSome=true->w∈[q,y])(hqn:q<nm)(hyn:y<nm):Ev cx 235 nm [.int .i64 z,.ptr q 0 0] M (.bool false) [(q,some ⟨1,[[.own y 0 bs.length]]⟩),(y,some (rK bs))]:=by
 have hmay:=kD z
 rw[hm]at hmay
 refine bi call235 func235 rfl (by kernel_rfl) rfl ?_;intro b0 hb0
 have ly:=aC hb0 hy
 have y0:=aE ly
 have lq:=aC hb0 hq
 have z0:=aE lq
 have n1:=eq_false hqy;have n4:=eq_false (Ne.symm hqy)
 repeat' first|simp only[ak,aj,results235,ntmps235,al,Bf,ai,seval,ah]|exact rfl|refine aa (v:=.any) ?_|(first|(refine ad ?_ (hmay _) ?_)|(refine ab ?_ (fun _=>hmay _) ?_))|((first|apply Ca|apply Cb)<;>intro hb)|refine Ai (by omega) ?_|(apply Ai<;>intro hb)
 all_goals ((refine Fin.give [(q,none),(y,none)] [] ?_ ?_ ?_ ?_ ?_ (aO ho (by simp[aS,tgt]))<;>(try simp only[results235,ntmps235,al,hq,hy,aT,bj,aY,z0,y0,n1,n4,dM,ai,seval,ah])<;>(try simp only[ao])<;>(try omega)))
def Of (z:Int)(hm:gq z=true)(q y:Nat)(bs:List UInt8)(hbs:bs.length<=1000000)(M:ap)(nm:Nat)(hqy:q≠y)(hq:M q=some ⟨1,[[.own y 0 bs.length]]⟩)(hy:M y=some (rK bs))(ho:∀ w,(M w).isSome=true->w∈[q,y])(hqn:q<nm)(hyn:y<nm):Ev cx 235 nm [.int .i64 z,.ptr q 0 0] M (.bool true) [(y,none),(q,some ⟨1,[[.own nm 0 (bs.length+(encodeRune z).length)]]⟩),(nm,some (rK (bs++encodeRune z)))]:=by
 have hmay:=kD z
 rw[hm]at hmay
 have hmz:=(gg z).1 hm
 have hw:IntKind.i32.wrap z=z:=IntWalk.i32_in _ (by omega)
 refine bi call235 func235 rfl (by kernel_rfl) rfl ?_;intro b0 hb0
 have ly:=aC hb0 hy
 have y0:=aE ly
 have lq:=aC hb0 hq
 have z0:=aE lq
 have n1:=eq_false hqy;have n4:=eq_false (Ne.symm hqy)
 repeat' first|simp only[ak,aj,results235,ntmps235,al,hw,hq,hy,z0,y0,n1,n4,au,Bt,ai,seval,ah]|exact rfl|refine aa (v:=.any) ?_|(first|(refine ad ?_ (hmay _) ?_)|(refine ab ?_ (fun _=>hmay _) ?_))|(refine ac ?_ [y] (E8 z hm y bs hbs _ _ ?_ ag (by omega)) ?_ ?_)|((first|apply Ca|apply Cb)<;>intro hb)|refine Ai (by omega) ?_|(apply Ai<;>intro hb)
 all_goals ((refine Fin.give [(q,none),(b0+112,some 0)] [y] ?_ ?_ ?_ ?_ ?_ (aO ho (by simp[aS,tgt]))<;>(try simp only[results235,ntmps235,al,hq,hy,aT,bj,aY,z0,y0,n1,n4,dM,ai,seval,ah])<;>(try simp only[ao])<;>(try omega)))
def vz {zs:List Int}{k:Nat}{z:Int}(h:zs[k]? = some z):enc (zs.take (k+1))=enc (zs.take k)++encodeRune z:=by
 obtain⟨hk,rfl⟩:=List.getElem?_eq_some_iff.1 h
 rw[List.take_succ_eq_append_getElem hk,I3]
def Pb (zs:List Int)(hl:zs.length<=100000)(nm:Nat):Ev cx 216 nm [.sl false 1 (zs.map bP)] ap.nil (.tup [.str (lM zs),.int .i64 (md zs)]) []:=by
 refine bi call216 func216 rfl (by kernel_rfl) rfl ?_;intro b0 hb0;have zF:=Ai results216 ntmps216
 repeat' first|simp only[ak,aj,zF,al,eY,Lm,ai,seval,ah]|exact rfl|refine aa (v:=.any) ?_|((first|(refine aM (g:=?_) ?_ ?_)|(refine aI (g:=?_) ?_ ?_));rotate_left 1;(focus (simp only[zF,al,eY,Lm,ai,seval,ah]<;>exact rfl)))|((first|apply Ca|apply Cb)<;>intro hb)|refine Ai (by omega) ?_|(apply Ai<;>intro hb)
 (refine aR bR (fun x:Nat=>zs.length-x) (fun x=>x<=zs.length/\(zs.take x).all gq=true) (b0+16) (fun x=>[(4,.ptr b0 0 0),(5,.fn 235 [.ptr b0 0 0]),(9,.sl false 1 (zs.map bP)),(10,.int .i64 zs.length),(11,.int .i64 x)]) (fun x=>[(b0,⟨1,[[.own (b0+1) 0 (enc (zs.take x)).length]]⟩),(b0+1,rK (enc (zs.take x)))]) (0) [some (b0+32),none] ?_ ?_ ?_ ?_;rotate_left 1;(focus (show b0<=_;omega));(focus (refine⟨?_,?_⟩<;>(try simp only[aX,eY,aT,bj,aY,dI,aL,List.take_zero,Lo,List.length_nil,Lm,show enc []=[] from rfl,ai,seval,ah,ao])<;>(try omega)));rotate_left 1)
 ·exact⟨Nat.zero_le _,rfl⟩
 ·rintro k ⟨hk,hall⟩
  have hel:=Co (zs.take k)
  have hkl:(zs.take k).length=k:=by rw[List.length_take];omega
  by_cases hlt:k<zs.length
  ·obtain⟨z,hz⟩:∃ z,zs[k]? = some z:=⟨_,List.getElem?_eq_getElem hlt⟩
   have hh:(zs.map bP)[k]? = some (bP z):=by rw[List.getElem?_map,hz];rfl
   have hd:decide (k<zs.length)=true:=decide_eq_true hlt
   have hwk:IntKind.i64.wrap ((k:Int)+1)=((k+1:Nat):Int):=bf
   have hgd:zs.getD k 0=z:=by rw[List.getD_eq_getElem?_getD,hz];rfl
   cases hm:gq z with
   | false =>
    have he:md zs=50:=Hc hlt (by rw[hgd];exact hm)
    have ht:lM zs=[]:=by unfold lM;rw[he];rfl
    (repeat' first|simp only[ak,aj,zF,al,hh,hd,hlt,he,ht,bP,Lm,Bf,ai,seval,ah]|exact rfl|refine aa (v:=.any) ?_|((refine cE (caps:=?_) ?_ ?_ [b0,b0+1] (Qt z hm b0 (b0+1) (enc (zs.take k)) _ _ (by omega) ?_ ?_ ag (by omega) (by omega)) ?_ ?_);rotate_left 1)|((first|(refine aM (g:=?_) ?_ ?_)|(refine aI (g:=?_) ?_ ?_));rotate_left 1;(focus (simp only[zF,al,hh,hd,hlt,he,ht,bP,Lm,Bf,ai,seval,ah]<;>exact rfl)))|((first|apply Ca|apply Cb)<;>intro hb)|refine Ai (by omega) ?_|(apply Ai<;>intro hb)|refine Fin.pure ?_ ?_ ?_|simp only[ao])
   | true =>
    have hnx:=vz hz
    have hnl:(enc (zs.take k)).length+(encodeRune z).length=(enc (zs.take (k+1))).length:=by rw[hnx,List.length_append]
    have has:=zb hlt hall (by rw[hgd];exact hm)
    repeat' first|simp only[ak,aj,zF,al,hh,hd,hlt,bP,au,Lm,Bt,ai,seval,ah]|exact rfl|refine aa (v:=.any) ?_|((refine cE (caps:=?_) ?_ ?_ [b0,b0+1] (Of z hm b0 (b0+1) (enc (zs.take k)) (by omega) _ _ (by omega) ?_ ?_ ag (by omega) (by omega)) ?_ ?_);rotate_left 1)|((first|(refine aM (g:=?_) ?_ ?_)|(refine aI (g:=?_) ?_ ?_));rotate_left 1;(focus (simp only[zF,al,hh,hd,hlt,bP,au,Lm,Bt,ai,seval,ah]<;>exact rfl)))|((first|apply Ca|apply Cb)<;>intro hb)|refine Ai (by omega) ?_|(apply Ai<;>intro hb)
    all_goals ((refine aD bR (k+1) [some b0,some (b0+112)] ?_ ?_ ?_ ?_;rotate_left 2;(focus (show b0<=_;omega));(focus (refine⟨?_,?_⟩<;>(try simp only[aX,eY,hwk,hnx.symm,hnl,aT,bj,aY,dI,aL,Lm,ai,seval,ah,ao])<;>(try omega)))))
    all_goals (first|(show zs.length-(k+1)<zs.length-k;omega)|exact⟨hlt,has⟩|skip)
  ·have hke:k=zs.length:=by omega
   subst hke
   rw[List.take_length]at hall hel
   have hd:decide (zs.length<zs.length)=false:=bo
   by_cases hb:16384<(enc zs).length
   ·have he:md zs=4:=by unfold md;rw[if_pos hall,if_pos hb]
    have ht:lM zs=[]:=by unfold lM;rw[he];rfl
    have hd2:decide ((16384:Int)<((enc zs).length:Int))=true:=cn
    (repeat' first|simp only[ak,aj,zF,al,hd,hd2,he,ht,List.take_length,Lm,ai,seval,ah]|exact rfl|refine aa (v:=.any) ?_|((first|(refine aM (g:=?_) ?_ ?_)|(refine aI (g:=?_) ?_ ?_));rotate_left 1;(focus (simp only[zF,al,hd,hd2,he,ht,List.take_length,Lm,ai,seval,ah]<;>exact rfl)))|((first|apply Ca|apply Cb)<;>intro hb)|refine Ai (by omega) ?_|(apply Ai<;>intro hb)|refine Fin.pure ?_ ?_ ?_|simp only[ao])
   ·have he:md zs=0:=by unfold md;rw[if_pos hall,if_neg hb]
    have ht:lM zs=enc zs:=by unfold lM;rw[he];rfl
    have hd2:decide ((16384:Int)<((enc zs).length:Int))=false:=bo
    have htk:((enc zs).map aJ).take (enc zs).length=(enc zs).map aJ:=List.take_of_length_le (by simp)
    (repeat' first|simp only[ak,aj,zF,al,hd,hd2,he,ht,htk,aT,List.take_length,Lm,Nat.le_refl,ai,seval,ah]|exact rfl|refine aa (v:=.any) ?_|(refine wo (v:=?_) (bs:=enc zs) ?_ ?_ ?_ ?_ ?_ ?_ ?_;rotate_left 1;(iterate 2 (focus (simp only[zF,al,hd,hd2,he,ht,htk,aT,List.take_length,Lm,Nat.le_refl,ai,seval,ah];done)));(focus (simp only[zF,al,hd,hd2,he,ht,htk,aT,List.take_length,Lm,Nat.le_refl,ai,seval,ah]<;>exact rfl));(focus (exact rfl));(focus (simp only[aj,zF,al,hd,hd2,he,ht,htk,aT,List.take_length,Lm,Nat.le_refl,ai,seval,ah];done));(focus (simp only[zF,al,hd,hd2,he,ht,htk,aT,List.take_length,Lm,Nat.le_refl,ai,seval,ah]<;>exact rfl)))|(refine bd ?_)|(refine aV ?_)|((first|(refine aM (g:=?_) ?_ ?_)|(refine aI (g:=?_) ?_ ?_));rotate_left 1;(focus (simp only[zF,al,hd,hd2,he,ht,htk,aT,List.take_length,Lm,Nat.le_refl,ai,seval,ah]<;>exact rfl)))|((first|apply Ca|apply Cb)<;>intro hb)|refine Ai (by omega) ?_|(apply Ai<;>intro hb)|refine Fin.pure ?_ ?_ ?_|simp only[ao])
end Go.Proofs.YtlnlopnpcmahgaaGreatDoor
