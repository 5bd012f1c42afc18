/-
 Texts joined: XGe,XEu,XUt,XNb,XGf.
-/
import Derived.Test.YtlnlopnpcmahgaaGreatDoorQg
import Derived.Test.YtlnlopnpcmahgaaGreatDoorQh
import Derived.Test.YtlnlopnpcmahgaaGreatDoorQf
set_option linter.all false
namespace Go.Proofs.YtlnlopnpcmahgaaGreatDoor
set_option maxRecDepth 100000
set_option maxHeartbeats 32000000
open Go Go.RowKit Vm Go.Lib Tryz
open Vm renaming aW->Ca,bf->Cb
open And renaming intro->Ai
open List renaming length_map->Lm,not_mem_nil->Ln,map_nil->Lo,map_cons->Lc,mem_cons->Lk
open Bool renaming not_false->Bf,not_true->Bt
def H1 (y:Int):IntKind.u8.wrap ((BitVec.ofInt IntKind.u8.bits (IntKind.u8.wrap y) &&& BitVec.ofInt IntKind.u8.bits 63).toNat:Int)=y % 64:=by
 have key:∀ n:Fin 256,IntKind.u8.wrap ((BitVec.ofInt IntKind.u8.bits (n.val:Int) &&& BitVec.ofInt IntKind.u8.bits 63).toNat:Int)=(n.val:Int) % 64:=by decide +kernel
 have h:=key ⟨(y % 256).toNat,by omega⟩
 have e:((y % 256).toNat:Int)=y % 256:=by omega
 simp only[e]at h
 rw[IntKind.wrap_u8 y,h];omega
def Q5 {h n:Int}(hh:(h=128/\n<64)\/(h=192/\n<32)\/(h=224/\n<16)\/(h=240/\n<8))(h0:0<=n):IntKind.u8.wrap ((BitVec.ofInt IntKind.u8.bits h ||| BitVec.ofInt IntKind.u8.bits n).toNat:Int)=h+n:=by
 have k1:∀ n:Fin 64,IntKind.u8.wrap ((BitVec.ofInt IntKind.u8.bits 128 ||| BitVec.ofInt IntKind.u8.bits (n.val:Int)).toNat:Int)=128+(n.val:Int):=by decide +kernel
 have k2:∀ n:Fin 32,IntKind.u8.wrap ((BitVec.ofInt IntKind.u8.bits 192 ||| BitVec.ofInt IntKind.u8.bits (n.val:Int)).toNat:Int)=192+(n.val:Int):=by decide +kernel
 have k3:∀ n:Fin 16,IntKind.u8.wrap ((BitVec.ofInt IntKind.u8.bits 224 ||| BitVec.ofInt IntKind.u8.bits (n.val:Int)).toNat:Int)=224+(n.val:Int):=by decide +kernel
 have k4:∀ n:Fin 8,IntKind.u8.wrap ((BitVec.ofInt IntKind.u8.bits 240 ||| BitVec.ofInt IntKind.u8.bits (n.val:Int)).toNat:Int)=240+(n.val:Int):=by decide +kernel
 have e:(n.toNat:Int)=n:=by omega
 rcases hh with ⟨rfl,h1⟩|⟨rfl,h1⟩|⟨rfl,h1⟩|⟨rfl,h1⟩
 ·have:=k1 ⟨n.toNat,by omega⟩;simpa only[e] using this
 ·have:=k2 ⟨n.toNat,by omega⟩;simpa only[e] using this
 ·have:=k3 ⟨n.toNat,by omega⟩;simpa only[e] using this
 ·have:=k4 ⟨n.toNat,by omega⟩;simpa only[e] using this
def pq (bs:List UInt8)(z:Int)(rows:List (List V))(h:(encodeRune z).map aI=rows):bs.map aI++rows=(bs++encodeRune z).map aI:=by rw[<- h,List.map_append]
def aR (bs:List UInt8):rK bs = @Blk.mk 1 (bs.map aI) (.typed 5):=rfl
def K6 (z:Int)(hm:gV z=true)(h0:128<=z)(y:Nat)(bs:List UInt8)(hbs:bs.length<=1000000)(M:am)(nm:Nat)(hy:M y=some (rK bs))(ho:∀ w,(M w).isSome=true->w∈[y])(hyn:y<nm):Ev cx 251 nm [.own y 0 bs.length,.int .i32 z] M (.own nm 0 (bs.length+(encodeRune z).length)) [(y,none),(nm,some (rK (bs++encodeRune z)))]:=by
 have hr:=fF hm
 have hmz:=(fW z).1 hm
 have hw:IntKind.u32.wrap z=z:=IntWalk.u32_in _ (by omega)
 have s6:z.fdiv (2 ^ min 6 IntKind.i32.bits)=z / 64:=Int.fdiv_eq_ediv_of_nonneg z (b:=64) (by omega)
 have s12:z.fdiv (2 ^ min 12 IntKind.i32.bits)=z / 4096:=Int.fdiv_eq_ediv_of_nonneg z (b:=4096) (by omega)
 have s18:z.fdiv (2 ^ min 18 IntKind.i32.bits)=z / 262144:=Int.fdiv_eq_ediv_of_nonneg z (b:=262144) (by omega)
 have o1:=Q5 (h:=128) (n:=z % 64) (.inl ⟨rfl,by omega⟩) (by omega)
 have o2:=Q5 (h:=128) (n:=z / 64 % 64) (.inl ⟨rfl,by omega⟩) (by omega)
 have o3:=Q5 (h:=128) (n:=z / 4096 % 64) (.inl ⟨rfl,by omega⟩) (by omega)
 have a1:=H1 z
 have a2:=H1 (z / 64)
 have a3:=H1 (z / 4096)
 by_cases c1:z<=2047
 ·have d1:decide (z<=2047)=true:=decide_eq_true c1
  have w6:IntKind.u8.wrap (z / 64)=z / 64:=IntWalk.u8_in _ (by omega)
  have o4:=Q5 (h:=192) (n:=z / 64) (.inr (.inl ⟨rfl,by omega⟩)) (by omega)
  have he:=Sd h0 c1
  have hl:(encodeRune z).length=2:=by simpa using congrArg List.length he
  have hrw:=pq bs z _ he
  rw[hl]
  refine bh call251 func251 rfl (by kernel_rfl) rfl ?_;intro b0 hb0
  have ly:=aB hb0 hy
  have y0:=aD ly
  repeat' first|simp only[ak,ag,results251,ntmps251,al,hw,d1,s6,w6,a1,a2,a3,o1,o2,o3,o4,hy,hrw,aR,y0,Lm,List.take_of_length_le,Nat.le_refl,DP,if_true,cL,eU,Option.bind_some,ai,seval,ah]|exact rfl|refine aa (v:=.any) ?_|((first|apply Ca|apply Cb)<;>intro hb)|refine Ai (by omega) ?_|(apply Ai<;>intro hb)
  all_goals ((refine Fin.give [(b0+272,some 0)] [y] ?_ ?_ ?_ ?_ ?_ (aL ho (by simp[aP,tgt]))<;>(try simp only[results251,ntmps251,al,hw,hy,aR,bi,aY,y0,dx,ai,seval,ah])<;>(try simp only[ap])<;>(try omega)))
 have d1:decide (z<=2047)=false:=decide_eq_false c1
 by_cases c2:z<=65535
 ·have d3:decide (z<=65535)=true:=decide_eq_true c2
  have w12:IntKind.u8.wrap (z / 4096)=z / 4096:=IntWalk.u8_in _ (by omega)
  have o4:=Q5 (h:=224) (n:=z / 4096) (.inr (.inr (.inl ⟨rfl,by omega⟩))) (by omega)
  have he:=Se (z:=z) (by omega)
  have hl:(encodeRune z).length=3:=by simpa using congrArg List.length he
  have hrw:=pq bs z _ he
  rw[hl]
  have hs:(decide (z<55296)=true)\/(decide (z<55296)=false/\decide (57343<z)=true):=by
   by_cases h:z<55296
   ·exact .inl (decide_eq_true h)
   ·exact .inr ⟨decide_eq_false h,bR⟩
  rcases hs with d4|⟨d4,d5⟩
  ·refine bh call251 func251 rfl (by kernel_rfl) rfl ?_;intro b0 hb0
   have ly:=aB hb0 hy
   have y0:=aD ly
   repeat' first|simp only[ak,ag,results251,ntmps251,al,hw,d1,d3,d4,s6,s12,w12,a1,a2,a3,o1,o2,o3,o4,hy,hrw,aR,y0,Lm,List.take_of_length_le,Nat.le_refl,DP,if_true,cL,eU,Option.bind_some,ai,seval,ah]|exact rfl|refine aa (v:=.any) ?_|((first|apply Ca|apply Cb)<;>intro hb)|refine Ai (by omega) ?_|(apply Ai<;>intro hb)
   all_goals ((refine Fin.give [(b0+400,some 0)] [y] ?_ ?_ ?_ ?_ ?_ (aL ho (by simp[aP,tgt]))<;>(try simp only[results251,ntmps251,al,hw,hy,aR,bi,aY,y0,dx,ai,seval,ah])<;>(try simp only[ap])<;>(try omega)))
  ·refine bh call251 func251 rfl (by kernel_rfl) rfl ?_;intro b0 hb0
   have ly:=aB hb0 hy
   have y0:=aD ly
   repeat' first|simp only[ak,ag,results251,ntmps251,al,hw,d1,d3,d4,d5,s6,s12,w12,a1,a2,a3,o1,o2,o3,o4,hy,hrw,aR,y0,Lm,List.take_of_length_le,Nat.le_refl,DP,if_true,cL,eU,Option.bind_some,ai,seval,ah]|exact rfl|refine aa (v:=.any) ?_|((first|apply Ca|apply Cb)<;>intro hb)|refine Ai (by omega) ?_|(apply Ai<;>intro hb)
   all_goals ((refine Fin.give [(b0+512,some 0)] [y] ?_ ?_ ?_ ?_ ?_ (aL ho (by simp[aP,tgt]))<;>(try simp only[results251,ntmps251,al,hw,hy,aR,bi,aY,y0,dx,ai,seval,ah])<;>(try simp only[ap])<;>(try omega)))
 ·have d3:decide (z<=65535)=false:=decide_eq_false c2
  have d4:decide (z<55296)=false:=bm
  have d5:decide (57343<z)=true:=bR
  have d6:decide (65535<z)=true:=bR
  have d7:decide (z<=1114111)=true:=bR
  have w18:IntKind.u8.wrap (z / 262144)=z / 262144:=IntWalk.u8_in _ (by omega)
  have o4:=Q5 (h:=240) (n:=z / 262144) (.inr (.inr (.inr ⟨rfl,by omega⟩))) (by omega)
  have he:=Sf (z:=z) (by omega) (by omega)
  have hl:(encodeRune z).length=4:=by simpa using congrArg List.length he
  have hrw:=pq bs z _ he
  rw[hl]
  refine bh call251 func251 rfl (by kernel_rfl) rfl ?_;intro b0 hb0
  have ly:=aB hb0 hy
  have y0:=aD ly
  repeat' first|simp only[ak,ag,results251,ntmps251,al,hw,d1,d3,d4,d5,d6,d7,s6,s12,s18,w18,a1,a2,a3,o1,o2,o3,o4,hy,hrw,aR,y0,Lm,List.take_of_length_le,Nat.le_refl,DP,if_true,cL,eU,Option.bind_some,ai,seval,ah]|exact rfl|refine aa (v:=.any) ?_|((first|apply Ca|apply Cb)<;>intro hb)|refine Ai (by omega) ?_|(apply Ai<;>intro hb)
  all_goals ((refine Fin.give [(b0+704,some 0)] [y] ?_ ?_ ?_ ?_ ?_ (aL ho (by simp[aP,tgt]))<;>(try simp only[results251,ntmps251,al,hw,hy,aR,bi,aY,y0,dx,ai,seval,ah])<;>(try simp only[ap])<;>(try omega)))
def IK {z:Int}(h0:0<=z)(h1:z<=127):(encodeRune z).length=1:=by simpa using congrArg List.length (Ro h0 h1)
def ES (z:Int)(hm:gV z=true)(y:Nat)(bs:List UInt8)(hbs:bs.length<=1000000)(M:am)(nm:Nat)(hy:M y=some (rK bs))(ho:∀ w,(M w).isSome=true->w∈[y])(hyn:y<nm):Ev cx 236 nm [.own y 0 bs.length,.int .i32 z] M (.own nm 0 (bs.length+(encodeRune z).length)) [(y,none),(nm,some (rK (bs++encodeRune z)))]:=by
 have hmz:=(fW z).1 hm
 have hr:=fF hm
 have hw:IntKind.u32.wrap z=z:=IntWalk.u32_in _ (by omega)
 by_cases c1:z<=127
 ·have d1:decide (z<=127)=true:=decide_eq_true c1
  have w8:IntKind.u8.wrap z=z:=IntWalk.u8_in _ (by omega)
  have he:=Ro hr.1 c1
  have hrw:=pq bs z _ he
  rw[IK hr.1 c1]
  refine bh call236 func236 rfl (by kernel_rfl) rfl ?_;intro b0 hb0
  have ly:=aB hb0 hy
  have y0:=aD ly
  repeat' first|simp only[ak,ag,results236,ntmps236,al,hw,d1,w8,hy,hrw,aR,y0,Lm,List.take_of_length_le,Nat.le_refl,DP,if_true,cL,eU,Option.bind_some,ai,seval,ah]|exact rfl|refine aa (v:=.any) ?_|((first|apply Ca|apply Cb)<;>intro hb)|refine Ai (by omega) ?_|(apply Ai<;>intro hb)
  all_goals ((refine Fin.give [(b0+128,some 0)] [y] ?_ ?_ ?_ ?_ ?_ (aL ho (by simp[aP,tgt]))<;>(try simp only[results236,ntmps236,al,hw,hy,aR,bi,aY,y0,dx,ai,seval,ah])<;>(try simp only[ap])<;>(try omega)))
 ·have d1:decide (z<=127)=false:=decide_eq_false c1
  refine bh call236 func236 rfl (by kernel_rfl) rfl ?_;intro b0 hb0
  have ly:=aB hb0 hy
  have y0:=aD ly
  repeat' first|simp only[ak,ag,results236,ntmps236,al,hw,d1,hy,y0,au,ai,seval,ah]|exact rfl|refine aa (v:=.any) ?_|(refine ac ?_ [y] (K6 z hm (by omega) y bs hbs _ _ ?_ aj (by omega)) ?_ ?_)|((first|apply Ca|apply Cb)<;>intro hb)|refine Ai (by omega) ?_|(apply Ai<;>intro hb)
  all_goals ((refine Fin.give [(b0+96,some 0)] [y] ?_ ?_ ?_ ?_ ?_ (aL ho (by simp[aP,tgt]))<;>(try simp only[results236,ntmps236,al,hw,hy,aR,bi,aY,y0,dx,ai,seval,ah])<;>(try simp only[ap])<;>(try omega)))
def wl (s:List UInt8)(c:UInt8)(M:am)(nm:Nat):Ev cx 212 nm [.str s,.int .u8 c.toNat] M (.int .i64 (indexByte s c)) [] :=
 Ev.indexByte func212 (by kernel_rfl) (by kernel_rfl) (by kernel_rfl) (by kernel_rfl) s c M nm
def nO (s:List UInt8)(c:UInt8)(nm:Nat):Ev cx 185 nm [.str s,.int .u8 c.toNat] am.nil (.int .i64 (indexByte s c)) []:=by
 refine bh call185 func185 rfl (by kernel_rfl) rfl ?_;intro b0 hb0
 (repeat' first|simp only[ak,ag,results185,ntmps185,al,ai,seval,ah]|exact rfl|refine aa (v:=.any) ?_|(first|(refine ae ?_ (wl s c _ _) ?_)|(refine ab ?_ (fun _=>wl s c _ _) ?_))|((first|apply Ca|apply Cb)<;>intro hb)|refine Ai (by omega) ?_|(apply Ai<;>intro hb)|refine Fin.pure ?_ ?_ ?_|simp only[ap])
def jq (s:List UInt8)(d:UInt8)(nm:Nat):Ev cx 220 nm [.str s,.str [d]] am.nil (.int .i64 (indexByte s d)) []:=by
 by_cases h:[d]=s
 ·subst h
  have e:indexByte [d] d=0:=by simp[indexByte]
  have e1:([d]==[d])=true:=by simp
  refine bh call220 func220 rfl (by kernel_rfl) rfl ?_;intro b0 hb0
  (repeat' first|simp only[ak,ag,results220,ntmps220,al,e,e1,ai,seval,ah]|exact rfl|refine aa (v:=.any) ?_|(first|(refine ae ?_ (nO [d] d _) ?_)|(refine ab ?_ (fun _=>nO [d] d _) ?_))|((first|apply Ca|apply Cb)<;>intro hb)|refine Ai (by omega) ?_|(apply Ai<;>intro hb)|refine Fin.pure ?_ ?_ ?_|simp only[ap])
 ·have e1:([d]==s)=false:=beq_false_of_ne h
  refine bh call220 func220 rfl (by kernel_rfl) rfl ?_;intro b0 hb0
  (repeat' first|simp only[ak,ag,results220,ntmps220,al,e1,ai,seval,ah]|exact rfl|refine aa (v:=.any) ?_|(first|(refine ae ?_ (nO s d _) ?_)|(refine ab ?_ (fun _=>nO s d _) ?_))|((first|apply Ca|apply Cb)<;>intro hb)|refine Ai (by omega) ?_|(apply Ai<;>intro hb)|refine Fin.pure ?_ ?_ ?_|simp only[ap])
def gZ (d:UInt8)(s:List UInt8):V:=match ep d s with
 | none=>.tup [.str s,.str [],.bool false]
 | some (a,b)=>.tup [.str a,.str b,.bool true]
def MN (s:List UInt8)(d:UInt8)(hs:s.length<=bc)(nm:Nat):Ev cx 203 nm [.str s,.str [d]] am.nil (gZ d s) []:=by
 unfold bc at hs
 cases hc:ep d s with
 | none =>
  have e:indexByte s d = -1:=iG.2 hc
  have ev:gZ d s = .tup [.str s,.str [],.bool false]:=by unfold gZ;rw[hc]
  rw[ev]
  refine bh call203 func203 rfl (by kernel_rfl) rfl ?_;intro b0 hb0
  (repeat' first|simp only[ak,ag,results203,ntmps203,al,ai,seval,ah]|exact rfl|refine aa (v:=.any) ?_|(first|(refine ae ?_ ((by have:=jq s d;rw[e]at this;exact this _)) ?_)|(refine ab ?_ (fun _=>(by have:=jq s d;rw[e]at this;exact this _)) ?_))|refine az (by decide +kernel) ?_|((first|apply Ca|apply Cb)<;>intro hb)|refine Ai (by omega) ?_|(apply Ai<;>intro hb)|refine Fin.pure ?_ ?_ ?_|simp only[ap])
 | some p =>
  obtain⟨a,b⟩:=p
  obtain⟨e,e1,e2,e3⟩:=j8 hc
  have ev:gZ d s = .tup [.str a,.str b,.bool true]:=by unfold gZ;rw[hc]
  have h1:(a.length:Int)<=s.length:=by omega
  have h2:IntKind.i64.wrap ((a.length:Int)+1)=((a.length+1:Nat):Int):=bd
  have h3:((a.length+1:Nat):Int)<=s.length:=by omega
  have h4:a.length<=s.length:=by omega
  have h5:a.length+1<=s.length:=by omega
  rw[ev]
  refine bh call203 func203 rfl (by kernel_rfl) rfl ?_;intro b0 hb0
  (repeat' first|simp only[ak,ag,results203,ntmps203,al,h1,h2,h3,h4,h5,e1,e2,ai,seval,ah]|exact rfl|refine aa (v:=.any) ?_|(first|(refine ae ?_ ((by have:=jq s d;rw[e]at this;exact this _)) ?_)|(refine ab ?_ (fun _=>(by have:=jq s d;rw[e]at this;exact this _)) ?_))|refine az (by decide +kernel) ?_|((first|apply Ca|apply Cb)<;>intro hb)|refine Ai (by omega) ?_|(apply Ai<;>intro hb)|refine Fin.pure ?_ ?_ ?_|simp only[ap])
def oL (s:List UInt8)(d:UInt8)(hs:s.length<=bc)(nm:Nat):Ev cx 172 nm [.str s,.str [d]] am.nil (gZ d s) []:=by
 have hev:=MN s d hs
 cases hc:ep d s with
 | none =>
  have ev:gZ d s = .tup [.str s,.str [],.bool false]:=by unfold gZ;rw[hc]
  rw[ev]at hev ⊢
  refine bh call172 func172 rfl (by kernel_rfl) rfl ?_;intro b0 hb0
  (repeat' first|simp only[ak,ag,results172,ntmps172,al,ai,seval,ah]|exact rfl|refine aa (v:=.any) ?_|(first|(refine ae ?_ (hev _) ?_)|(refine ab ?_ (fun _=>hev _) ?_))|((first|apply Ca|apply Cb)<;>intro hb)|refine Ai (by omega) ?_|(apply Ai<;>intro hb)|refine Fin.pure ?_ ?_ ?_|simp only[ap])
 | some p =>
  have ev:gZ d s = .tup [.str p.1,.str p.2,.bool true]:=by unfold gZ;rw[hc]
  rw[ev]at hev ⊢
  refine bh call172 func172 rfl (by kernel_rfl) rfl ?_;intro b0 hb0
  (repeat' first|simp only[ak,ag,results172,ntmps172,al,ai,seval,ah]|exact rfl|refine aa (v:=.any) ?_|(first|(refine ae ?_ (hev _) ?_)|(refine ab ?_ (fun _=>hev _) ?_))|((first|apply Ca|apply Cb)<;>intro hb)|refine Ai (by omega) ?_|(apply Ai<;>intro hb)|refine Fin.pure ?_ ?_ ?_|simp only[ap])
def qX (cs:List UInt8)(n:Nat):Bool:=cs.any fun c=>c.toNat==n
def ek (cs:List UInt8):List V:=(List.range 256).map fun i=>.bool (qX cs i)
def c8 (cs:List UInt8):(ek cs).length=256:=by simp[ek]
def Ff (cs:List UInt8)(c:UInt8):(ek cs)[c.toNat]? = some (.bool (qX cs c.toNat)):=by
 unfold ek
 rw[List.getElem?_map,List.getElem?_range c.toNat_lt];rfl
def Fg (cs:List UInt8)(c:UInt8):(ek cs).set c.toNat (.bool true)=ek (cs++[c]):=by
 refine List.ext_getElem? fun i=>?_
 rw[List.getElem?_set]
 unfold ek
 rw[Lm,List.length_range,List.getElem?_map,List.getElem?_map]
 by_cases hi:i<256
 ·rw[List.getElem?_range hi]
  by_cases e:c.toNat=i
  ·subst e;simp[qX,hi]
  ·simp[qX,e]
 ·rw[List.getElem?_eq_none (by simpa using hi)]
  by_cases e:c.toNat=i
  ·subst e;exact absurd c.toNat_lt hi
  ·simp[e]
def cY (cs:List UInt8):plainL (ek cs)=true:=by
 rw[uv,List.all_eq_true]
 intro v hv
 obtain⟨i,_,rfl⟩:=List.mem_map.1 hv
 rfl
def xq (cs:List UInt8):(ek cs).take 256=ek cs:=List.take_of_length_le (by rw[c8];omega)
def xo (cs:List UInt8):(ek cs).drop 256=[]:=List.drop_of_length_le (by rw[c8];omega)
def BF (cs:List UInt8):(ek cs).all V.one=true:=by
 rw[List.all_eq_true]
 intro v hv
 obtain⟨i,_,rfl⟩:=List.mem_map.1 hv
 rfl
def Ck (O:List (Nat×Nat))(M:am)(cs:List UInt8):finL O M (ek cs)=ek cs:=(finL_plain O M _ (cY cs)).1
def tN (O:List (Nat×Nat))(M:am)(cs:List UInt8):finLOk O M (ek cs)=True:=eq_true (finL_plain O M _ (cY cs)).2
def CS (cs:List UInt8):leL (ek cs) (ek cs)=True:=eq_true (leL_refl _)
def kW (cs:List UInt8):plainLL [ek cs]=true:=by simp[plainLL,cY]
def xp:([V.bool false,V.bool false,V.bool false,V.bool false,V.bool false,V.bool false,V.bool false,V.bool false,V.bool false,V.bool false,V.bool false,V.bool false,V.bool false,V.bool false,V.bool false,V.bool false,V.bool false,V.bool false,V.bool false,V.bool false,V.bool false,V.bool false,V.bool false,V.bool false,V.bool false,V.bool false,V.bool false,V.bool false,V.bool false,V.bool false,V.bool false,V.bool false,V.bool false,V.bool false,V.bool false,V.bool false,V.bool false,V.bool false,V.bool false,V.bool false,V.bool false,V.bool false,V.bool false,V.bool false,V.bool false,V.bool false,V.bool false,V.bool false,V.bool false,V.bool false,V.bool false,V.bool false,V.bool false,V.bool false,V.bool false,V.bool false,V.bool false,V.bool false,V.bool false,V.bool false,V.bool false,V.bool false,V.bool false,V.bool false,V.bool false,V.bool false,V.bool false,V.bool false,V.bool false,V.bool false,V.bool false,V.bool false,V.bool false,V.bool false,V.bool false,V.bool false,V.bool false,V.bool false,V.bool false,V.bool false,V.bool false,V.bool false,V.bool false,V.bool false,V.bool false,V.bool false,V.bool false,V.bool false,V.bool false,V.bool false,V.bool false,V.bool false,V.bool false,V.bool false,V.bool false,V.bool false,V.bool false,V.bool false,V.bool false,V.bool false,V.bool false,V.bool false,V.bool false,V.bool false,V.bool false,V.bool false,V.bool false,V.bool false,V.bool false,V.bool false,V.bool false,V.bool false,V.bool false,V.bool false,V.bool false,V.bool false,V.bool false,V.bool false,V.bool false,V.bool false,V.bool false,V.bool false,V.bool false,V.bool false,V.bool false,V.bool false,V.bool false,V.bool false,V.bool false,V.bool false,V.bool false,V.bool false,V.bool false,V.bool false,V.bool false,V.bool false,V.bool false,V.bool false,V.bool false,V.bool false,V.bool false,V.bool false,V.bool false,V.bool false,V.bool false,V.bool false,V.bool false,V.bool false,V.bool false,V.bool false,V.bool false,V.bool false,V.bool false,V.bool false,V.bool false,V.bool false,V.bool false,V.bool false,V.bool false,V.bool false,V.bool false,V.bool false,V.bool false,V.bool false,V.bool false,V.bool false,V.bool false,V.bool false,V.bool false,V.bool false,V.bool false,V.bool false,V.bool false,V.bool false,V.bool false,V.bool false,V.bool false,V.bool false,V.bool false,V.bool false,V.bool false,V.bool false,V.bool false,V.bool false,V.bool false,V.bool false,V.bool false,V.bool false,V.bool false,V.bool false,V.bool false,V.bool false,V.bool false,V.bool false,V.bool false,V.bool false,V.bool false,V.bool false,V.bool false,V.bool false,V.bool false,V.bool false,V.bool false,V.bool false,V.bool false,V.bool false,V.bool false,V.bool false,V.bool false,V.bool false,V.bool false,V.bool false,V.bool false,V.bool false,V.bool false,V.bool false,V.bool false,V.bool false,V.bool false,V.bool false,V.bool false,V.bool false,V.bool false,V.bool false,V.bool false,V.bool false,V.bool false,V.bool false,V.bool false,V.bool false,V.bool false,V.bool false,V.bool false,V.bool false,V.bool false,V.bool false,V.bool false,V.bool false,V.bool false,V.bool false,V.bool false,V.bool false,V.bool false,V.bool false,V.bool false,V.bool false,V.bool false,V.bool false,V.bool false,V.bool false,V.bool false,V.bool false,V.bool false,V.bool false,V.bool false,V.bool false]:List V)=ek []:=rfl
def pu (cs:List UInt8)(h:∀ c∈cs,c.toNat<128)(hl:cs.length<=100)(nm:Nat):Ev cx 189 nm [.str cs] am.nil (.tup [.agg (ek cs),.bool true]) []:=by
 refine bh call189 func189 rfl (by kernel_rfl) rfl ?_;intro b0 hb0
 repeat' first|simp only[ak,ag,results189,ntmps189,al,xp,c8,ai,seval,ah]|exact rfl|refine aa (v:=.any) ?_|((first|apply Ca|apply Cb)<;>intro hb)|refine Ai (by omega) ?_|(apply Ai<;>intro hb)
 (refine aQ bM (fun x:Nat=>cs.length-x) (fun x=>x<=cs.length) (b0+16) (fun x=>[(0,.str cs),(2,.ptr b0 0 0),(4,.int .i64 x)]) (fun x=>[(b0,⟨256,[ek (cs.take x)]⟩)]) (0) [some b0] ?_ ?_ ?_ ?_;rotate_left 1;(focus (show b0<=_;omega));(focus (refine⟨?_,?_⟩<;>(try simp only[aX,cY,kW,xp,c8,List.take_zero,ai,seval,ah,ap])<;>(try omega)));rotate_left 1)
 ·exact Nat.zero_le _
 ·intro k hk
  by_cases hlt:k<cs.length
  ·obtain⟨c,hc⟩:∃ c,cs[k]? = some c:=⟨_,List.getElem?_eq_getElem hlt⟩
   have hd:decide (k<cs.length)=true:=decide_eq_true hlt
   have hwk:IntKind.i64.wrap ((k:Int)+1)=((k+1:Nat):Int):=bd
   have h128:=h c (List.mem_of_getElem? hc)
   have hd2:decide ((128:Int)<=(c.toNat:Int))=false:=bm
   have h256:c.toNat<256:=c.toNat_lt
   have hset:=Fg (cs.take k) c
   have htk:cs.take k++[c]=cs.take (k+1):=by
    obtain⟨hk',rfl⟩:=List.getElem?_eq_some_iff.1 hc
    rw[List.take_succ_eq_append_getElem hk']
   rw[htk]at hset
   repeat' first|simp only[ak,ag,results189,ntmps189,al,hc,hd,hd2,hlt,h256,hset,c8,ai,seval,ah]|exact rfl|refine aa (v:=.any) ?_|((first|apply Ca|apply Cb)<;>intro hb)|refine Ai (by omega) ?_|(apply Ai<;>intro hb)
   all_goals ((refine aC bM (k+1) [some b0] ?_ ?_ ?_ ?_;rotate_left 2;(focus (show b0<=_;omega));(focus (refine⟨?_,?_⟩<;>(try simp only[aX,cY,kW,hset,hwk,ai,seval,ah,ap])<;>(try omega)))))
   all_goals (first|(show cs.length-(k+1)<cs.length-k;omega)|(show k+1<=cs.length;omega)|skip)
  ·have hke:k=cs.length:=by omega
   subst hke
   have hd:decide (cs.length<cs.length)=false:=bm
   have htk:cs.take cs.length=cs:=List.take_length
   (repeat' first|simp only[ak,ag,results189,ntmps189,al,hd,htk,xq,xo,BF,Ck,tN,CS,c8,kW,cY,ai,seval,ah]|exact rfl|refine aa (v:=.any) ?_|((first|apply Ca|apply Cb)<;>intro hb)|refine Ai (by omega) ?_|(apply Ai<;>intro hb)|refine Fin.pure ?_ ?_ ?_|simp only[ap])
def y7 (cs:List UInt8)(c:UInt8)(nm:Nat):Ev cx 217 nm [.rp (ek cs),.int .u8 c.toNat] am.nil (.bool (qX cs c.toNat)) []:=by
 have h256:c.toNat<256:=c.toNat_lt
 have hg:(List.drop c.toNat (ek cs))[0]? = some (.bool (qX cs c.toNat)):=by rw[List.getElem?_drop,Nat.add_zero];exact Ff cs c
 have hl:0<(List.drop c.toNat (ek cs)).length:=by rw[List.length_drop,c8];omega
 refine bh call217 func217 rfl (by kernel_rfl) rfl ?_;intro b0 hb0
 (repeat' first|simp only[ak,ag,results217,ntmps217,al,h256,hg,hl,c8,ai,seval,ah]|exact rfl|refine aa (v:=.any) ?_|((first|apply Ca|apply Cb)<;>intro hb)|refine Ai (by omega) ?_|(apply Ai<;>intro hb)|refine Fin.pure ?_ ?_ ?_|simp only[ap])
def dU (cs:List UInt8):List UInt8->List UInt8
 | []=>[]
 | c::s=>if qX cs c.toNat=true then dU cs s else c::s
def e8 (cs:List UInt8)(s:List UInt8):List UInt8:=(dU cs s.reverse).reverse
def pm (cs:List UInt8):∀(s:List UInt8),∃ k,k<=s.length/\dU cs s=s.drop k/\(∀ i c,i<k->s[i]? = some c->qX cs c.toNat=true)/\(∀ c,s[k]? = some c->qX cs c.toNat=false)
 | []=>⟨0,by simp,rfl,fun i c h=>by omega,fun c h=>by simp at h⟩
 | c::s=>by
  unfold dU
  by_cases h:qX cs c.toNat=true
  ·rw[if_pos h]
   obtain⟨k,h1,h2,h3,h4⟩:=pm cs s
   refine⟨k+1,by simp;omega,by rw[h2];rfl,fun i d hi hd=>?_,fun d hd=>h4 d (by simpa using hd)⟩
   cases i with
   | zero=>simp at hd;subst hd;exact h
   | succ i=>exact h3 i d (by omega) (by simpa using hd)
  ·rw[if_neg h]
   refine⟨0,by simp,rfl,fun i d hi=>by omega,fun d hd=>?_⟩
   simp at hd;subst hd
   simpa using h
def wX {cs s:List UInt8} : dU cs s=[]↔s.all (fun c=>qX cs c.toNat)=true:=by
 induction s with
 | nil=>simp[dU]
 | cons c s ih =>
  unfold dU
  by_cases h:qX cs c.toNat=true
  ·rw[if_pos h,ih];simp[h]
  ·rw[if_neg h];simp[h]
def yM (cs s:List UInt8):(dU cs s).length<=s.length:=by
 obtain⟨k,h1,h2,_⟩:=pm cs s
 rw[h2];simp
def yO (cs s:List UInt8):(e8 cs s).length<=s.length:=by
 unfold e8;have:=yM cs s.reverse;simpa using this
def oD {cs:List UInt8}{c:UInt8}(s:List UInt8)(h:qX cs c.toNat=true):dU cs (c::s)=dU cs s:=by rw[dU,if_pos h]
def nv {cs:List UInt8}{c:UInt8}(s:List UInt8)(h:qX cs c.toNat=false):dU cs (c::s)=c::s:=by rw[dU,if_neg (by simp[h])]
def vO {cs:List UInt8}{c:UInt8}(s:List UInt8)(h:qX cs c.toNat=true):e8 cs (s++[c])=e8 cs s:=by unfold e8;rw[List.reverse_append];simp only[List.reverse_cons,List.reverse_nil,List.nil_append,List.cons_append];rw[oD _ h]
def uV {cs:List UInt8}{c:UInt8}(s:List UInt8)(h:qX cs c.toNat=false):e8 cs (s++[c])=s++[c]:=by unfold e8;rw[List.reverse_append];simp only[List.reverse_cons,List.reverse_nil,List.nil_append,List.cons_append];rw[nv _ h];simp
def uW {cs s:List UInt8} : dU cs (e8 cs s)=[]↔s.all (fun c=>qX cs c.toNat)=true:=by
 constructor
 ·intro h
  have h1:=wX.1 h
  unfold e8 at h1
  obtain⟨k,hk,hd,hi,ho⟩:=pm cs s.reverse
  rw[List.all_reverse,hd]at h1
  rw[<- List.all_reverse,List.all_eq_true]
  intro c hc
  obtain⟨i,hi2⟩:=List.mem_iff_getElem?.1 hc
  by_cases hik:i<k
  ·exact hi i c hik hi2
  ·refine List.all_eq_true.1 h1 c ?_
   refine List.mem_iff_getElem?.2 ⟨i-k,?_⟩
   rw[List.getElem?_drop,show k+(i-k)=i by omega];exact hi2
 ·intro h
  have:e8 cs s=[]:=by
   unfold e8
   rw[wX.2 (by rw[List.all_reverse];exact h)];rfl
  rw[this];rfl
def r8 (cs s:List UInt8)(hs:s.length<=bc)(nm:Nat):Ev cx 190 nm [.str s,.rp (ek cs)] am.nil (.str (dU cs s)) []:=by
 unfold bc at hs
 refine bh call190 func190 rfl (by kernel_rfl) rfl ?_;intro b0 hb0;have zF:=Ai results190 ntmps190
 repeat' first|simp only[ak,ag,zF,al,cY,ai,seval,ah]|exact rfl|refine aa (v:=.any) ?_|((first|apply Ca|apply Cb)<;>intro hb)|refine Ai (by omega) ?_|(apply Ai<;>intro hb)
 (refine aQ bM (fun x:List UInt8=>x.length) (fun x=>x.length<=s.length/\dU cs s=dU cs x) (b0+16) (fun x=>[(0,.str x),(1,.rp (ek cs))]) (fun x=>[]) (s) [] ?_ ?_ ?_ ?_;rotate_left 1;(focus (show b0<=_;omega));(focus (refine⟨?_,?_⟩<;>(try simp only[aX,cY,ai,seval,ah,ap])<;>(try omega)));rotate_left 1)
 ·exact⟨Nat.le_refl _,rfl⟩
 ·rintro x ⟨h1,h2⟩
  cases x with
  | nil =>
   have hz:dU cs s=[]:=h2
   have hd:decide ((0:Int)<0)=false:=rfl
   (repeat' first|simp only[ak,ag,zF,al,hz,hd,Nat.lt_irrefl,Int.lt_irrefl,ai,seval,ah]|exact rfl|refine aa (v:=.any) ?_|((first|apply Ca|apply Cb)<;>intro hb)|refine Ai (by omega) ?_|(apply Ai<;>intro hb)|refine Fin.pure ?_ ?_ ?_|simp only[ap])
  | cons c x =>
   have hd:decide ((0:Int)<(((c::x).length:Nat):Int))=true:=decide_eq_true (by simp only[List.length_cons];omega)
   have hl:0<(c::x).length:=by simp
   have h1':(1:Int)<=(((c::x).length:Nat):Int):=by simp only[List.length_cons];omega
   have h1'':1<=(c::x).length:=by simp
   have hh:=y7 cs c
   simp only[List.length_cons]at hd hl h1' h1''
   cases hb:qX cs c.toNat with
   | true =>
    rw[hb]at hh
    repeat' first|simp only[ak,ag,zF,al,cY,hd,hl,h1',h1'',Bt,ai,seval,ah]|exact rfl|refine aa (v:=.any) ?_|(first|(refine ae ?_ (hh _) ?_)|(refine ab ?_ (fun _=>hh _) ?_))|((first|apply Ca|apply Cb)<;>intro hb)|refine Ai (by omega) ?_|(apply Ai<;>intro hb)
    all_goals ((refine aC bM (x) [] ?_ ?_ ?_ ?_;rotate_left 2;(focus (show b0<=_;omega));(focus (refine⟨?_,?_⟩<;>(try simp only[aX,cY,ai,seval,ah,ap])<;>(try omega)))))
    all_goals (first|(show x.length<(c::x).length;simp;done)|(refine⟨by simp at h1;omega,?_⟩;rw[h2,oD _ hb])|skip)
   | false =>
    rw[hb]at hh
    have hz:dU cs s=c::x:=by rw[h2,nv _ hb]
    (repeat' first|simp only[ak,ag,zF,al,cY,hd,hl,h1',h1'',hz,Bf,ai,seval,ah]|exact rfl|refine aa (v:=.any) ?_|(first|(refine ae ?_ (hh _) ?_)|(refine ab ?_ (fun _=>hh _) ?_))|((first|apply Ca|apply Cb)<;>intro hb)|refine Ai (by omega) ?_|(apply Ai<;>intro hb)|refine Fin.pure ?_ ?_ ?_|simp only[ap])
def yP (cs s:List UInt8)(hs:s.length<=bc)(nm:Nat):Ev cx 191 nm [.str s,.rp (ek cs)] am.nil (.str (e8 cs s)) []:=by
 unfold bc at hs
 refine bh call191 func191 rfl (by kernel_rfl) rfl ?_;intro b0 hb0;have zF:=Ai results191 ntmps191
 repeat' first|simp only[ak,ag,zF,al,cY,ai,seval,ah]|exact rfl|refine aa (v:=.any) ?_|((first|apply Ca|apply Cb)<;>intro hb)|refine Ai (by omega) ?_|(apply Ai<;>intro hb)
 (refine aQ bM (fun x:List UInt8=>x.length) (fun x=>x.length<=s.length/\e8 cs s=e8 cs x) (b0+16) (fun x=>[(0,.str x),(1,.rp (ek cs))]) (fun x=>[]) (s) [] ?_ ?_ ?_ ?_;rotate_left 1;(focus (show b0<=_;omega));(focus (refine⟨?_,?_⟩<;>(try simp only[aX,cY,ai,seval,ah,ap])<;>(try omega)));rotate_left 1)
 ·exact⟨Nat.le_refl _,rfl⟩
 ·rintro x ⟨h1,h2⟩
  by_cases hne:x=[]
  ·subst hne
   have hz:e8 cs s=[]:=h2
   (repeat' first|simp only[ak,ag,zF,al,hz,Nat.lt_irrefl,Int.lt_irrefl,ai,seval,ah]|exact rfl|refine aa (v:=.any) ?_|((first|apply Ca|apply Cb)<;>intro hb)|refine Ai (by omega) ?_|(apply Ai<;>intro hb)|refine Fin.pure ?_ ?_ ?_|simp only[ap])
  ·obtain⟨y,c,rfl⟩:∃ y c,x=y++[c]:=⟨x.dropLast,x.getLast hne,(List.dropLast_concat_getLast hne).symm⟩
   have hlen:(y++[c]).length=y.length+1:=by simp
   have hd:decide ((0:Int)<((y.length+1:Nat):Int))=true:=bR
   have hw:IntKind.i64.wrap (((y.length+1:Nat):Int)-1)=(y.length:Int):=by rw[yR (by simp at h1;omega) (by simp at h1;omega)];omega
   have hw2:IntKind.i64.wrap ((y.length:Int)+1-1)=(y.length:Int):=by rw[yR (by simp at h1;omega) (by simp at h1;omega)];omega
   have hg:(y++[c])[y.length]? = some c:=by simp
   have hl1:y.length<y.length+1:=by omega
   have hl2:(y.length:Int)<=((y.length+1:Nat):Int):=by omega
   have hl3:y.length<=y.length+1:=by omega
   have htk:(y++[c]).take y.length=y:=by simp
   have hh:=y7 cs c
   cases hb:qX cs c.toNat with
   | true =>
    rw[hb]at hh
    repeat' first|simp only[ak,ag,zF,al,cY,hlen,hd,hw,hw2,hg,hl1,hl2,hl3,htk,Bt,ai,seval,ah]|exact rfl|refine aa (v:=.any) ?_|(first|(refine ae ?_ (hh _) ?_)|(refine ab ?_ (fun _=>hh _) ?_))|((first|apply Ca|apply Cb)<;>intro hb)|refine Ai (by omega) ?_|(apply Ai<;>intro hb)
    all_goals ((refine aC bM (y) [] ?_ ?_ ?_ ?_;rotate_left 2;(focus (show b0<=_;omega));(focus (refine⟨?_,?_⟩<;>(try simp only[aX,cY,htk,ai,seval,ah,ap])<;>(try omega)))))
    all_goals (first|(show y.length<(y++[c]).length;simp only[List.length_append,List.length_singleton];omega)|omega|(refine⟨by simp at h1;omega,?_⟩;rw[h2,vO _ hb])|skip)
   | false =>
    rw[hb]at hh
    have hz:e8 cs s=y++[c]:=by rw[h2,uV _ hb]
    (repeat' first|simp only[ak,ag,zF,al,cY,hlen,hd,hw,hw2,hg,hl1,hl2,hl3,hz,Bf,ai,seval,ah]|exact rfl|refine aa (v:=.any) ?_|(first|(refine ae ?_ (hh _) ?_)|(refine ab ?_ (fun _=>hh _) ?_))|((first|apply Ca|apply Cb)<;>intro hb)|refine Ai (by omega) ?_|(apply Ai<;>intro hb)|refine Fin.pure ?_ ?_ ?_|simp only[ap])
def E3 (cs s:List UInt8)(h:∀ c∈cs,c.toNat<128)(hl:cs.length<=100)(h2:2<=cs.length)(hs:s.length<=bc)(nm:Nat):Ev cx 151 nm [.str s,.str cs] am.nil (.str (dU cs (e8 cs s))) []:=by
 have hcs:(cs==[])=false:=beq_false_of_ne (by intro e;subst e;simp at h2)
 by_cases h0:s=[]
 ·subst h0
  have e0:(([]:List UInt8)==[])=true:=rfl
  have e1:dU cs (e8 cs [])=[]:=rfl
  refine bh call151 func151 rfl (by kernel_rfl) rfl ?_;intro b0 hb0
  (repeat' first|simp only[ak,ag,results151,ntmps151,al,e0,e1,ai,seval,ah]|exact rfl|refine aa (v:=.any) ?_|refine az (by decide +kernel) ?_|((first|apply Ca|apply Cb)<;>intro hb)|refine Ai (by omega) ?_|(apply Ai<;>intro hb)|refine Fin.pure ?_ ?_ ?_|simp only[ap])
 ·have e0:(s==[])=false:=beq_false_of_ne h0
  have e2:((cs.length:Int)==1)=false:=beq_false_of_ne (by omega)
  have hsr:(e8 cs s).length<=bc:=Nat.le_trans (yO cs s) hs
  refine bh call151 func151 rfl (by kernel_rfl) rfl ?_;intro b0 hb0
  (repeat' first|simp only[ak,ag,results151,ntmps151,al,e0,hcs,e2,xp,xq,xo,BF,Ck,tN,CS,c8,cY,kW,ai,seval,ah]|exact rfl|refine aa (v:=.any) ?_|(first|(refine ae ?_ (pu cs h hl _) ?_)|(refine ab ?_ (fun _=>pu cs h hl _) ?_))|((refine bo (xs:=?_) [b0+320] ?_ ?_ ?_ rfl (yP cs s hs _) ?_);rotate_left 1)|((refine bo (xs:=?_) [b0+320] ?_ ?_ ?_ rfl (r8 cs (e8 cs s) hsr _) ?_);rotate_left 1)|omega|refine az (by decide +kernel) ?_|((first|apply Ca|apply Cb)<;>intro hb)|refine Ai (by omega) ?_|(apply Ai<;>intro hb)|refine Fin.pure ?_ ?_ ?_|simp only[ap])
def fU:List UInt8:=[32,9,10,13]
def Ft (c:UInt8):qX fU c.toNat=iR c:=by
 have key:∀ n:Fin 256,qX fU n.val=iR (UInt8.ofNat n.val):=by decide +kernel
 have:=key ⟨c.toNat,c.toNat_lt⟩
 simpa using this
def wY:∀ s:List UInt8,dU fU s=s.dropWhile iR
 | []=>rfl
 | c::s=>by
  rw[dU,Ft,List.dropWhile_cons,wY s]
def yN (cs s:List UInt8)(h:∀ c∈cs,c.toNat<128)(hl:cs.length<=100)(h2:2<=cs.length)(hs:s.length<=bc)(nm:Nat):Ev cx 208 nm [.str s,.str cs] am.nil (.str (dU cs s)) []:=by
 have hcs:(cs==[])=false:=beq_false_of_ne (by intro e;subst e;simp at h2)
 by_cases h0:s=[]
 ·subst h0
  have e0:(([]:List UInt8)==[])=true:=rfl
  have e1:dU cs []=[]:=rfl
  refine bh call208 func208 rfl (by kernel_rfl) rfl ?_;intro b0 hb0
  (repeat' first|simp only[ak,ag,results208,ntmps208,al,e0,e1,ai,seval,ah]|exact rfl|refine aa (v:=.any) ?_|((first|apply Ca|apply Cb)<;>intro hb)|refine Ai (by omega) ?_|(apply Ai<;>intro hb)|refine Fin.pure ?_ ?_ ?_|simp only[ap])
 ·have e0:(s==[])=false:=beq_false_of_ne h0
  have e2:((cs.length:Int)==1)=false:=beq_false_of_ne (by omega)
  refine bh call208 func208 rfl (by kernel_rfl) rfl ?_;intro b0 hb0
  (repeat' first|simp only[ak,ag,results208,ntmps208,al,e0,hcs,e2,xp,xq,xo,BF,Ck,tN,CS,c8,cY,kW,ai,seval,ah]|exact rfl|refine aa (v:=.any) ?_|(first|(refine ae ?_ (pu cs h hl _) ?_)|(refine ab ?_ (fun _=>pu cs h hl _) ?_))|((refine bo (xs:=?_) [b0+320] ?_ ?_ ?_ rfl (r8 cs s hs _) ?_);rotate_left 1)|omega|((first|apply Ca|apply Cb)<;>intro hb)|refine Ai (by omega) ?_|(apply Ai<;>intro hb)|refine Fin.pure ?_ ?_ ?_|simp only[ap])
def pT (s:List UInt8)(c:UInt8)(nm:Nat):Ev cx 147 nm [.str s,.int .u8 c.toNat] am.nil (.int .i64 (indexByte s c)) []:=by
 refine bh call147 func147 rfl (by kernel_rfl) rfl ?_;intro b0 hb0
 (repeat' first|simp only[ak,ag,results147,ntmps147,al,ai,seval,ah]|exact rfl|refine aa (v:=.any) ?_|(first|(refine ae ?_ (nO s c _) ?_)|(refine ab ?_ (fun _=>nO s c _) ?_))|((first|apply Ca|apply Cb)<;>intro hb)|refine Ai (by omega) ?_|(apply Ai<;>intro hb)|refine Fin.pure ?_ ?_ ?_|simp only[ap])
def IJ {z:Int}(h0:128<=z)(hm:gV z=true):∃(l:List UInt8) (c:UInt8),(Utf8.encode z).data.toList=l++[c]/\128<=c.toNat/\1<=l.length/\l.length<=3:=by
 have hz:=(fW z).1 hm
 have hv:Utf8.valid z=true:=by unfold Utf8.valid;simp;omega
 have mm:∀ n:Nat,128<=(UInt8.ofNat (128+n % 64)).toNat:=fun n=>by simp;omega
 unfold Utf8.encode
 simp only[hv,if_true]
 rw[if_neg (by omega)]
 split
 ·exact⟨[_],_,rfl,mm _,by simp,by simp⟩
 ·split
  ·exact⟨[_,_],_,rfl,mm _,by simp,by simp⟩
  ·exact⟨[_,_,_],_,rfl,mm _,by simp,by simp⟩
def Pd {c:UInt8}(h:128<=c.toNat):∀ k,c ∉ fU.drop k:=by
 intro k hc
 have h1:=List.mem_of_mem_drop hc
 unfold fU at h1
 simp only[Lk,Ln,or_false]at h1
 rcases h1 with rfl|rfl|rfl|rfl<;>exact absurd h (by decide)
def Ju {d:UInt8}{s:List UInt8}(h:d ∉ s):indexByte s d = -1:=iG.2 (gY.2 h)
def Jt (z:Int):Int:=if z<128 then indexByte fU (UInt8.ofNat z.toNat) else -1
def uc (z:Int)(hm:gV z=true)(nm:Nat):Ev cx 232 nm [.str [32,9,10,13],.int .i32 z] am.nil (.int .i64 (Jt z)) []:=by
 have hz:=(fW z).1 hm
 have hr:=fF hm
 have d0:decide (0<=z)=true:=decide_eq_true hr.1
 by_cases c1:z<128
 ·have d1:decide (z<128)=true:=decide_eq_true c1
  have hw:IntKind.u8.wrap z=((UInt8.ofNat z.toNat).toNat:Int):=by rw[IntWalk.u8_in _ (by omega)];simp;omega
  have hi:=pT fU (UInt8.ofNat z.toNat)
  have hx:Jt z=indexByte fU (UInt8.ofNat z.toNat):=if_pos c1
  rw[hx]
  unfold fU at hi ⊢
  generalize UInt8.ofNat z.toNat=g at hw hi
  refine bh call232 func232 rfl (by kernel_rfl) rfl ?_;intro b0 hb0;have zF:=Ai results232 ntmps232
  (repeat' first|simp only[ak,ag,zF,al,d0,d1,hw,ai,seval,ah]|exact rfl|refine aa (v:=.any) ?_|(first|(refine ae ?_ (hi _) ?_)|(refine ab ?_ (fun _=>hi _) ?_))|refine az (by decide +kernel) ?_|((first|apply Ca|apply Cb)<;>intro hb)|refine Ai (by omega) ?_|(apply Ai<;>intro hb)|refine Fin.pure ?_ ?_ ?_|simp only[ap])
 have d1:decide (z<128)=false:=decide_eq_false c1
 have hx:Jt z = -1:=if_neg c1
 rw[hx]
 by_cases c2:z=65533
 ·subst c2
  refine bh call232 func232 rfl (by kernel_rfl) rfl ?_;intro b0 hb0;have zF:=Ai results232 ntmps232
  repeat' first|simp only[ak,ag,zF,al,d0,d1,ai,seval,ah]|exact rfl|refine aa (v:=.any) ?_|(refine nJ (s:=?_) ?_ ?_ ?_;rotate_left 1;(iterate 2 (focus (simp only[zF,al,d0,d1,ai,seval,ah]<;>exact rfl))))|(refine ba ?_)|(refine aU ?_)|refine az (by decide +kernel) ?_|((first|apply Ca|apply Cb)<;>intro hb)|refine Ai (by omega) ?_|(apply Ai<;>intro hb)
  (refine aQ bM (fun x:Nat=>4-x) (fun x=>x<=4) (b0+16) (fun x=>[(175,.ptr b0 0 0)]) (fun x=>[(b0,kQ [32,9,10,13] x)]) (0) [some (b0+192)] ?_ ?_ ?_ ?_;rotate_left 1;(focus (show b0<=_;omega));(focus (refine⟨?_,?_⟩<;>(try simp only[aX,fT,ei,ai,seval,ah,ap])<;>(try omega)));rotate_left 1)
  ·exact Nat.zero_le _
  ·intro p hp
   by_cases hlt:p<4
   ·have hd:p<([32,9,10,13]:List UInt8).length:=hlt
    have hrn:bn [32,9,10,13] p=((([32,9,10,13]:List UInt8)[p]?.getD 0).toNat,1)/\((([32,9,10,13]:List UInt8)[p]?.getD 0).toNat:Int)≠65533:=by
     rcases(show p=0\/p=1\/p=2\/p=3 by omega) with rfl|rfl|rfl|rfl<;>decide +kernel
    obtain⟨hr1,hr2⟩:=hrn
    have hr3:(bn [32,9,10,13] p).2=1:=by rw[hr1]
    have hq:(((bn [32,9,10,13] p).1:Int)==65533)=false:=by rw[hr1];exact beq_false_of_ne hr2
    repeat' first|simp only[ak,ag,zF,al,hd,hlt,hq,hr3,List.length_cons,List.length_nil,ai,seval,ah]|exact rfl|refine aa (v:=.any) ?_|(refine iB (s:=?_) (y:=?_) (p:=?_) ?_ ?_ ?_ ?_;rotate_left 3;(iterate 2 (focus (simp only[zF,al,hd,hlt,hq,hr3,List.length_cons,List.length_nil,ai,seval,ah]<;>exact rfl)));(focus (simp only[zF,al,hd,hlt,hq,hr3,List.length_cons,List.length_nil,ai,seval,ah]<;>omega)))|(refine ba ?_)|(refine aU ?_)|refine az (by decide +kernel) ?_|refine Ai (by omega) ?_
    all_goals ((refine aC bM (p+1) [some b0] ?_ ?_ ?_ ?_;rotate_left 2;(focus (show b0<=_;omega));(focus (refine⟨?_,?_⟩<;>(try simp only[aX,fT,ei,hr3,ai,seval,ah,ap])<;>(try omega)))))
    all_goals (first|(show 4-(p+1)<4-p;omega)|(show p+1<=4;omega)|skip)
   ·have hpe:p=4:=by omega
    subst hpe
    (repeat' first|simp only[ak,ag,zF,al,List.length_cons,List.length_nil,ai,seval,ah]|exact rfl|refine aa (v:=.any) ?_|(refine pJ (s:=?_) (y:=?_) (p:=?_) ?_ ?_ ?_ ?_;rotate_left 3;(iterate 2 (focus (simp only[zF,al,List.length_cons,List.length_nil,ai,seval,ah]<;>exact rfl)));(focus (simp only[zF,al,List.length_cons,List.length_nil,ai,seval,ah]<;>omega)))|(refine ba ?_)|(refine aU ?_)|refine az (by decide +kernel) ?_|((first|apply Ca|apply Cb)<;>intro hb)|refine Ai (by omega) ?_|(apply Ai<;>intro hb)|refine Fin.pure ?_ ?_ ?_|simp only[ap])
 ·have d2:(z==65533)=false:=beq_false_of_ne c2
  have hv:pn z=true:=by
   unfold pn
   simp only[Bool.or_eq_true,Bool.and_eq_true,decide_eq_true_eq];omega
  have hve:=u0 z
  rw[hv]at hve
  obtain⟨l,c,h1,h2,h3,h4⟩:=IJ (by omega) hm
  have hll:(l++[c]).length=l.length+1:=by simp
  have hgl:(l++[c])[l.length]? = some c:=by simp
  have hw1:IntKind.i64.wrap (((l.length+1:Nat):Int)-1)=(l.length:Int):=by rw[bd];omega
  have hw2:IntKind.i64.wrap ((l.length:Int)+1-1)=(l.length:Int):=by rw[bd];omega
  refine bh call232 func232 rfl (by kernel_rfl) rfl ?_;intro b0 hb0;have zF:=Ai results232 ntmps232
  repeat' first|simp only[ak,ag,zF,al,d0,d1,d2,h1,hll,hw1,hw2,Bt,ai,seval,ah]|exact rfl|refine aa (v:=.any) ?_|(first|(refine ae ?_ (hve _) ?_)|(refine ab ?_ (fun _=>hve _) ?_))|refine az (by decide +kernel) ?_|((first|apply Ca|apply Cb)<;>intro hb)|refine Ai (by omega) ?_|(apply Ai<;>intro hb)
  (refine aQ bM (fun x:Nat=>x) (fun _=>True) (b0+16) (fun x=>[(0,.str [32,9,10,13]),(7,.str (l++[c])),(8,.int .i64 l.length),(9,.int .i64 l.length)]) (fun x=>[]) (0) [] ?_ ?_ ?_ ?_;rotate_left 1;(focus (show b0<=_;omega));(focus (refine⟨?_,?_⟩<;>(try simp only[aX,h1,ai,seval,ah,ap])<;>(try omega)));rotate_left 1)
  ·trivial
  ·intro x _
   have hlt4:decide ((l.length:Int)<4)=true:=bR
   have hlt4':decide (l.length<4)=true:=bR
   have hl4:l.length<4:=by omega
   obtain⟨d,hd⟩:∃ d,([32,9,10,13]:List UInt8)[l.length]? = some d:=⟨_,List.getElem?_eq_getElem (by simp;omega)⟩
   have hdc:(!((d.toNat:Int)==(c.toNat:Int)))=true:=by
    have hda:d.toNat<128:=by
     have:=List.mem_of_getElem? hd
     simp only[Lk,Ln,or_false]at this
     rcases this with rfl|rfl|rfl|rfl<;>decide
    rw[beq_false_of_ne (by omega)];rfl
   have hdc':((d.toNat:Int) !=(c.toNat:Int))=true:=hdc
   have hw3:IntKind.i64.wrap ((l.length:Int)+1)=((l.length+1:Nat):Int):=bd
   have hs1:((l.length+1:Nat):Int)<=4:=by omega
   have hs2:l.length+1<=4:=by omega
   have hs3:l.length<l.length+1:=by omega
   have hix:=pT (([32,9,10,13]:List UInt8).drop (l.length+1)) c
   have hi0:indexByte (([32,9,10,13]:List UInt8).drop (l.length+1)) c = -1:=Ju (Pd h2 (l.length+1))
   rw[hi0]at hix
   (repeat' first|simp only[ak,ag,zF,al,hll,hgl,hlt4,hlt4',hl4,hd,hdc,hdc',hw3,hs1,hs2,hs3,List.length_cons,List.length_nil,ai,seval,ah]|exact rfl|refine aa (v:=.any) ?_|(first|(refine ae ?_ (hix _) ?_)|(refine ab ?_ (fun _=>hix _) ?_))|refine az (by decide +kernel) ?_|refine Ai (by omega) ?_|refine Fin.pure ?_ ?_ ?_|simp only[ap])
def mw (z:Int):Bool:=decide (z=32\/z=9\/z=10\/z=13)
def CH {z:Int}(hm:gV z=true):decide (0<=Jt z)=mw z:=by
 have hr:=fF hm
 unfold Jt mw
 by_cases c1:z<128
 ·rw[if_pos c1]
  have key:∀ n:Fin 128,decide (0<=indexByte fU (UInt8.ofNat n.val))=decide (n.val=32\/n.val=9\/n.val=10\/n.val=13):=by decide +kernel
  have:=key ⟨z.toNat,by omega⟩
  rw[this]
  rw[decide_eq_decide]
  simp only;omega
 ·rw[if_neg c1]
  rw[decide_eq_decide];omega
def CF (z:Int)(hm:gV z=true)(nm:Nat):Ev cx 211 nm [.str [32,9,10,13],.int .i32 z] am.nil (.bool (mw z)) []:=by
 have h:=CH hm
 refine bh call211 func211 rfl (by kernel_rfl) rfl ?_;intro b0 hb0
 (repeat' first|simp only[ak,ag,results211,ntmps211,al,h,ai,seval,ah]|exact rfl|refine aa (v:=.any) ?_|(first|(refine ae ?_ (uc z hm _) ?_)|(refine ab ?_ (fun _=>uc z hm _) ?_))|((first|apply Ca|apply Cb)<;>intro hb)|refine Ai (by omega) ?_|(apply Ai<;>intro hb)|refine Fin.pure ?_ ?_ ?_|simp only[ap])
def gq (z:Int):Int:=if mw z=true then 32 else z
def Ek (z:Int)(hm:gV z=true)(nm:Nat):Ev cx 210 nm [.int .i32 z] am.nil (.int .i32 (gq z)) []:=by
 have h:=CF z hm
 unfold gq
 generalize mw z=b at h ⊢
 cases b<;>(
  refine bh call210 func210 rfl (by kernel_rfl) rfl ?_;intro b0 hb0
  (repeat' first|simp only[ak,ag,results210,ntmps210,al,if_true,Bool.false_eq_true,if_false,ai,seval,ah]|exact rfl|refine aa (v:=.any) ?_|(first|(refine ae ?_ (h _) ?_)|(refine ab ?_ (fun _=>h _) ?_))|((first|apply Ca|apply Cb)<;>intro hb)|refine Ai (by omega) ?_|(apply Ai<;>intro hb)|refine Fin.pure ?_ ?_ ?_|simp only[ap]))
def Qm (z:Int)(hm:gV z=false)(q y:Nat)(bs:List UInt8)(M:am)(nm:Nat)(hqy:q≠y)(hq:M q=some ⟨1,[[.own y 0 bs.length]]⟩)(hy:M y=some (rK bs))(ho:∀ w,(M w).isSome=true->w∈[q,y])(hqn:q<nm)(hyn:y<nm):Ev cx 235 nm [.int .i64 z,.ptr q 0 0] M (.bool false) [(q,some ⟨1,[[.own y 0 bs.length]]⟩),(y,some (rK bs))]:=by
 have hmay:=ks z
 rw[hm]at hmay
 refine bh call235 func235 rfl (by kernel_rfl) rfl ?_;intro b0 hb0
 have ly:=aB hb0 hy
 have y0:=aD ly
 have lq:=aB hb0 hq
 have z0:=aD lq
 have n1:=eq_false hqy;have n4:=eq_false (Ne.symm hqy)
 repeat' first|simp only[ak,ag,results235,ntmps235,al,Bf,ai,seval,ah]|exact rfl|refine aa (v:=.any) ?_|(first|(refine ae ?_ (hmay _) ?_)|(refine ab ?_ (fun _=>hmay _) ?_))|((first|apply Ca|apply Cb)<;>intro hb)|refine Ai (by omega) ?_|(apply Ai<;>intro hb)
 all_goals ((refine Fin.give [(q,none),(y,none)] [] ?_ ?_ ?_ ?_ ?_ (aL ho (by simp[aP,tgt]))<;>(try simp only[results235,ntmps235,al,hq,hy,aR,bi,aY,z0,y0,n1,n4,dx,ai,seval,ah])<;>(try simp only[ap])<;>(try omega)))
def N1 (z:Int)(hm:gV z=true)(q y:Nat)(bs:List UInt8)(hbs:bs.length<=1000000)(M:am)(nm:Nat)(hqy:q≠y)(hq:M q=some ⟨1,[[.own y 0 bs.length]]⟩)(hy:M y=some (rK bs))(ho:∀ w,(M w).isSome=true->w∈[q,y])(hqn:q<nm)(hyn:y<nm):Ev cx 235 nm [.int .i64 z,.ptr q 0 0] M (.bool true) [(y,none),(q,some ⟨1,[[.own nm 0 (bs.length+(encodeRune z).length)]]⟩),(nm,some (rK (bs++encodeRune z)))]:=by
 have hmay:=ks z
 rw[hm]at hmay
 have hmz:=(fW z).1 hm
 have hw:IntKind.i32.wrap z=z:=IntWalk.i32_in _ (by omega)
 refine bh call235 func235 rfl (by kernel_rfl) rfl ?_;intro b0 hb0
 have ly:=aB hb0 hy
 have y0:=aD ly
 have lq:=aB hb0 hq
 have z0:=aD lq
 have n1:=eq_false hqy;have n4:=eq_false (Ne.symm hqy)
 repeat' first|simp only[ak,ag,results235,ntmps235,al,hw,hq,hy,z0,y0,n1,n4,au,Bt,ai,seval,ah]|exact rfl|refine aa (v:=.any) ?_|(first|(refine ae ?_ (hmay _) ?_)|(refine ab ?_ (fun _=>hmay _) ?_))|(refine ac ?_ [y] (ES z hm y bs hbs _ _ ?_ aj (by omega)) ?_ ?_)|((first|apply Ca|apply Cb)<;>intro hb)|refine Ai (by omega) ?_|(apply Ai<;>intro hb)
 all_goals ((refine Fin.give [(q,none),(b0+112,some 0)] [y] ?_ ?_ ?_ ?_ ?_ (aL ho (by simp[aP,tgt]))<;>(try simp only[results235,ntmps235,al,hq,hy,aR,bi,aY,z0,y0,n1,n4,dx,ai,seval,ah])<;>(try simp only[ap])<;>(try omega)))
def vp {zs:List Int}{k:Nat}{z:Int}(h:zs[k]? = some z):enc (zs.take (k+1))=enc (zs.take k)++encodeRune z:=by
 obtain⟨hk,rfl⟩:=List.getElem?_eq_some_iff.1 h
 rw[List.take_succ_eq_append_getElem hk,IL]
def O0 (zs:List Int)(hl:zs.length<=100000)(nm:Nat):Ev cx 216 nm [.sl false 1 (zs.map bN)] am.nil (.tup [.str (lM zs),.int .i64 (me zs)]) []:=by
 refine bh call216 func216 rfl (by kernel_rfl) rfl ?_;intro b0 hb0;have zF:=Ai results216 ntmps216
 repeat' first|simp only[ak,ag,zF,al,eV,Lm,ai,seval,ah]|exact rfl|refine aa (v:=.any) ?_|((first|(refine aS (g:=?_) ?_ ?_)|(refine aM (g:=?_) ?_ ?_));rotate_left 1;(focus (simp only[zF,al,eV,Lm,ai,seval,ah]<;>exact rfl)))|((first|apply Ca|apply Cb)<;>intro hb)|refine Ai (by omega) ?_|(apply Ai<;>intro hb)
 (refine aQ bM (fun x:Nat=>zs.length-x) (fun x=>x<=zs.length/\(zs.take x).all gV=true) (b0+16) (fun x=>[(4,.ptr b0 0 0),(5,.fn 235 [.ptr b0 0 0]),(9,.sl false 1 (zs.map bN)),(10,.int .i64 zs.length),(11,.int .i64 x)]) (fun x=>[(b0,⟨1,[[.own (b0+1) 0 (enc (zs.take x)).length]]⟩),(b0+1,rK (enc (zs.take x)))]) (0) [some (b0+32),none] ?_ ?_ ?_ ?_;rotate_left 1;(focus (show b0<=_;omega));(focus (refine⟨?_,?_⟩<;>(try simp only[aX,eV,aR,bi,aY,dE,aJ,List.take_zero,Lo,List.length_nil,Lm,show enc []=[] from rfl,ai,seval,ah,ap])<;>(try omega)));rotate_left 1)
 ·exact⟨Nat.zero_le _,rfl⟩
 ·rintro k ⟨hk,hall⟩
  have hel:=B9 (zs.take k)
  have hkl:(zs.take k).length=k:=by rw[List.length_take];omega
  by_cases hlt:k<zs.length
  ·obtain⟨z,hz⟩:∃ z,zs[k]? = some z:=⟨_,List.getElem?_eq_getElem hlt⟩
   have hh:(zs.map bN)[k]? = some (bN z):=by rw[List.getElem?_map,hz];rfl
   have hd:decide (k<zs.length)=true:=decide_eq_true hlt
   have hwk:IntKind.i64.wrap ((k:Int)+1)=((k+1:Nat):Int):=bd
   have hgd:zs.getD k 0=z:=by rw[List.getD_eq_getElem?_getD,hz];rfl
   cases hm:gV z with
   | false =>
    have he:me zs=50:=GV hlt (by rw[hgd];exact hm)
    have ht:lM zs=[]:=by unfold lM;rw[he];rfl
    (repeat' first|simp only[ak,ag,zF,al,hh,hd,hlt,he,ht,bN,Lm,Bf,ai,seval,ah]|exact rfl|refine aa (v:=.any) ?_|((refine cn (caps:=?_) ?_ ?_ [b0,b0+1] (Qm z hm b0 (b0+1) (enc (zs.take k)) _ _ (by omega) ?_ ?_ aj (by omega) (by omega)) ?_ ?_);rotate_left 1)|((first|(refine aS (g:=?_) ?_ ?_)|(refine aM (g:=?_) ?_ ?_));rotate_left 1;(focus (simp only[zF,al,hh,hd,hlt,he,ht,bN,Lm,Bf,ai,seval,ah]<;>exact rfl)))|((first|apply Ca|apply Cb)<;>intro hb)|refine Ai (by omega) ?_|(apply Ai<;>intro hb)|refine Fin.pure ?_ ?_ ?_|simp only[ap])
   | true =>
    have hnx:=vp hz
    have hnl:(enc (zs.take k)).length+(encodeRune z).length=(enc (zs.take (k+1))).length:=by rw[hnx,List.length_append]
    have has:=yZ hlt hall (by rw[hgd];exact hm)
    repeat' first|simp only[ak,ag,zF,al,hh,hd,hlt,bN,au,Lm,Bt,ai,seval,ah]|exact rfl|refine aa (v:=.any) ?_|((refine cn (caps:=?_) ?_ ?_ [b0,b0+1] (N1 z hm b0 (b0+1) (enc (zs.take k)) (by omega) _ _ (by omega) ?_ ?_ aj (by omega) (by omega)) ?_ ?_);rotate_left 1)|((first|(refine aS (g:=?_) ?_ ?_)|(refine aM (g:=?_) ?_ ?_));rotate_left 1;(focus (simp only[zF,al,hh,hd,hlt,bN,au,Lm,Bt,ai,seval,ah]<;>exact rfl)))|((first|apply Ca|apply Cb)<;>intro hb)|refine Ai (by omega) ?_|(apply Ai<;>intro hb)
    all_goals ((refine aC bM (k+1) [some b0,some (b0+112)] ?_ ?_ ?_ ?_;rotate_left 2;(focus (show b0<=_;omega));(focus (refine⟨?_,?_⟩<;>(try simp only[aX,eV,hwk,hnx.symm,hnl,aR,bi,aY,dE,aJ,Lm,ai,seval,ah,ap])<;>(try omega)))))
    all_goals (first|(show zs.length-(k+1)<zs.length-k;omega)|exact⟨hlt,has⟩|skip)
  ·have hke:k=zs.length:=by omega
   subst hke
   rw[List.take_length]at hall hel
   have hd:decide (zs.length<zs.length)=false:=bm
   by_cases hb:16384<(enc zs).length
   ·have he:me zs=4:=by unfold me;rw[if_pos hall,if_pos hb]
    have ht:lM zs=[]:=by unfold lM;rw[he];rfl
    have hd2:decide ((16384:Int)<((enc zs).length:Int))=true:=bR
    (repeat' first|simp only[ak,ag,zF,al,hd,hd2,he,ht,List.take_length,Lm,ai,seval,ah]|exact rfl|refine aa (v:=.any) ?_|((first|(refine aS (g:=?_) ?_ ?_)|(refine aM (g:=?_) ?_ ?_));rotate_left 1;(focus (simp only[zF,al,hd,hd2,he,ht,List.take_length,Lm,ai,seval,ah]<;>exact rfl)))|((first|apply Ca|apply Cb)<;>intro hb)|refine Ai (by omega) ?_|(apply Ai<;>intro hb)|refine Fin.pure ?_ ?_ ?_|simp only[ap])
   ·have he:me zs=0:=by unfold me;rw[if_pos hall,if_neg hb]
    have ht:lM zs=enc zs:=by unfold lM;rw[he];rfl
    have hd2:decide ((16384:Int)<((enc zs).length:Int))=false:=bm
    have htk:((enc zs).map aI).take (enc zs).length=(enc zs).map aI:=List.take_of_length_le (by simp)
    (repeat' first|simp only[ak,ag,zF,al,hd,hd2,he,ht,htk,aR,List.take_length,Lm,Nat.le_refl,ai,seval,ah]|exact rfl|refine aa (v:=.any) ?_|(refine wb (v:=?_) (bs:=enc zs) ?_ ?_ ?_ ?_ ?_ ?_ ?_;rotate_left 1;(iterate 2 (focus (simp only[zF,al,hd,hd2,he,ht,htk,aR,List.take_length,Lm,Nat.le_refl,ai,seval,ah];done)));(focus (simp only[zF,al,hd,hd2,he,ht,htk,aR,List.take_length,Lm,Nat.le_refl,ai,seval,ah]<;>exact rfl));(focus (exact rfl));(focus (simp only[ag,zF,al,hd,hd2,he,ht,htk,aR,List.take_length,Lm,Nat.le_refl,ai,seval,ah];done));(focus (simp only[zF,al,hd,hd2,he,ht,htk,aR,List.take_length,Lm,Nat.le_refl,ai,seval,ah]<;>exact rfl)))|(refine ba ?_)|(refine aU ?_)|((first|(refine aS (g:=?_) ?_ ?_)|(refine aM (g:=?_) ?_ ?_));rotate_left 1;(focus (simp only[zF,al,hd,hd2,he,ht,htk,aR,List.take_length,Lm,Nat.le_refl,ai,seval,ah]<;>exact rfl)))|((first|apply Ca|apply Cb)<;>intro hb)|refine Ai (by omega) ?_|(apply Ai<;>intro hb)|refine Fin.pure ?_ ?_ ?_|simp only[ap])
end Go.Proofs.YtlnlopnpcmahgaaGreatDoor
