/-
 Texts joined: XEl,XEm,XLt,XNc,XNd,XNe,XNf.
-/
import Derived.Test.YtlnlopnpcmahgaaGreatDoorQj
import Derived.Test.YtlnlopnpcmahgaaGreatDoorQi
import Derived.Test.YtlnlopnpcmahgaaGreatDoorQf
import Derived.Test.YtlnlopnpcmahgaaGreatDoorQe
import Derived.Test.YtlnlopnpcmahgaaGreatDoorQh
set_option linter.all false
namespace Go.Proofs.YtlnlopnpcmahgaaGreatDoor
set_option maxRecDepth 100000
set_option maxHeartbeats 32000000
open Go Go.RowKit Vm Go.Lib Tryz
open Vm renaming aW->Ca,bf->Cb
open And renaming intro->Ai
open List renaming length_map->Lm,not_mem_nil->Ln,map_nil->Lo,map_cons->Lc,mem_cons->Lk
open Bool renaming not_false->Bf,not_true->Bt
def yh {s:List UInt8}{k:Nat}{c:UInt8}(h:sI s k)(hc:s[k]? = some c)(hp:jQ (k==0) c=true):sI s (k+1):=by
 intro i x hi hx
 by_cases e:i=k
 ·subst e;rw[hc]at hx;cases hx;exact hp
 ·exact h i x (by omega) hx
def Ma (k:Nat):((k:Int)==0)=(k==0):=by
 rw[Bool.eq_iff_iff,beq_iff_eq,beq_iff_eq];omega
def Ed {s:List UInt8}(h:s≠[]):s.isEmpty=false:=by cases s with|nil=>exact absurd rfl h|cons=>rfl
def qa (s:List UInt8)(hs:s.length<=bc)(nm:Nat):Ev cx 123 nm [.str s] am.nil (.bool (eI s)) []:=by
 unfold bc at hs
 have hb:(s==[])=s.isEmpty:=by cases s<;>rfl
 refine bh call123 func123 rfl (by kernel_rfl) rfl ?_;intro b0 hb0;have zF:=Ai results123 ntmps123
 repeat' first|simp only[ak,ag,zF,al,hb,ai,seval,ah]|exact rfl|refine aa (v:=.any) ?_|((first|apply Ca|apply Cb)<;>intro hb)|refine Ai (by omega) ?_|(apply Ai<;>intro hb)
 (refine aQ bM (fun x:Nat=>s.length-x) (fun x=>x<=s.length/\sI s x) (b0+16) (fun x=>[(0,.str s),(3,.bool (!s.isEmpty)),(8,.int .i64 s.length),(9,.int .i64 x)]) (fun x=>[]) (0) [] ?_ ?_ ?_ ?_;rotate_left 1;(focus (show b0<=_;omega));(focus (refine⟨?_,?_⟩<;>(try simp only[aX,ai,seval,ah,ap])<;>(try omega)));rotate_left 1)
 ·exact⟨Nat.zero_le _,fun i c hi=>by omega⟩
 ·rintro k ⟨hk,hn⟩
  by_cases hlt:k<s.length
  ·obtain⟨c,hc⟩:∃ c,s[k]? = some c:=⟨_,List.getElem?_eq_getElem hlt⟩
   have hne:s≠[]:=by rintro rfl;simp at hlt
   have hie:=Ed hne
   have hd:decide (k<s.length)=true:=decide_eq_true hlt
   have hwk:IntKind.i64.wrap ((k:Int)+1)=((k+1:Nat):Int):=bd
   have hle:=yq c (k==0)
   have qz:=Ma k
   cases hp:jQ (k==0) c with
   | false =>
    have hnf:=AF hc hp
    rw[hp]at hle
    (repeat' first|simp only[ak,ag,zF,al,hc,hd,hlt,hie,hnf,qz,ai,seval,ah]|exact rfl|refine aa (v:=.any) ?_|(first|(refine ae ?_ (hle _) ?_)|(refine ab ?_ (fun _=>hle _) ?_))|((first|apply Ca|apply Cb)<;>intro hb)|refine Ai (by omega) ?_|(apply Ai<;>intro hb)|refine Fin.pure ?_ ?_ ?_|simp only[ap])
   | true =>
    have hn':=yh hn hc hp
    rw[hp]at hle
    repeat' first|simp only[ak,ag,zF,al,hc,hd,hlt,hwk,hie,qz,ai,seval,ah]|exact rfl|refine aa (v:=.any) ?_|(first|(refine ae ?_ (hle _) ?_)|(refine ab ?_ (fun _=>hle _) ?_))|((first|apply Ca|apply Cb)<;>intro hb)|refine Ai (by omega) ?_|(apply Ai<;>intro hb)
    all_goals ((refine aC bM (k+1) [] ?_ ?_ ?_ ?_;rotate_left 2;(focus (show b0<=_;omega));(focus (refine⟨?_,?_⟩<;>(try simp only[aX,hwk,hie,ai,seval,ah,ap])<;>(try omega)))))
    all_goals (first|(show s.length-(k+1)<s.length-k;omega)|exact⟨hlt,hn'⟩|skip)
  ·have hke:k=s.length:=by omega
   subst hke
   have hd:decide (s.length<s.length)=false:=bm
   by_cases hne:s=[]
   ·subst hne
    have e:eI []=false:=rfl
    (repeat' first|simp only[ak,ag,zF,al,hd,List.isEmpty_nil,e,ai,seval,ah]|exact rfl|refine aa (v:=.any) ?_|((first|apply Ca|apply Cb)<;>intro hb)|refine Ai (by omega) ?_|(apply Ai<;>intro hb)|refine Fin.pure ?_ ?_ ?_|simp only[ap])
   ·have hie:=Ed hne
    have e:=CY hne hn
    (repeat' first|simp only[ak,ag,zF,al,hd,hie,e,ai,seval,ah]|exact rfl|refine aa (v:=.any) ?_|((first|apply Ca|apply Cb)<;>intro hb)|refine Ai (by omega) ?_|(apply Ai<;>intro hb)|refine Fin.pure ?_ ?_ ?_|simp only[ap])
def jf (s:List UInt8)(hs:s.length<=bc)(nm:Nat):Ev cx 131 nm [.str s] am.nil (.bool (cN s)) []:=by
 have hev:=oL s 58 hs
 cases hc:ep 58 s with
 | none =>
  have ev:gZ 58 s = .tup [.str s,.str [],.bool false]:=by unfold gZ;rw[hc]
  have hf:cN s=eI s:=by unfold cN;rw[hc]
  have hn:=qa s hs
  rw[ev]at hev
  rw[hf]
  cases h:eI s<;>rw[h]at hn<;>(
   refine bh call131 func131 rfl (by kernel_rfl) rfl ?_;intro b0 hb0
   (repeat' first|simp only[ak,ag,results131,ntmps131,al,ai,seval,ah]|exact rfl|refine aa (v:=.any) ?_|(first|(refine ae ?_ (hev _) ?_)|(refine ab ?_ (fun _=>hev _) ?_)|(refine ae ?_ (hn _) ?_)|(refine ab ?_ (fun _=>hn _) ?_))|(refine aa (v:=.any) ?_)|((first|apply Ca|apply Cb)<;>intro hb)|refine Ai (by omega) ?_|(apply Ai<;>intro hb)|refine Fin.pure ?_ ?_ ?_|simp only[ap]))
 | some p =>
  obtain⟨a,b⟩:=p
  obtain⟨_,_,_,e3⟩:=j8 hc
  have ev:gZ 58 s = .tup [.str a,.str b,.bool true]:=by unfold gZ;rw[hc]
  have hf:cN s=(eI a&&eI b):=by unfold cN;rw[hc]
  have hn1:=qa a (by omega)
  have hn2:=qa b (by omega)
  rw[ev]at hev
  rw[hf]
  cases h1:eI a<;>rw[h1]at hn1<;>(
   refine bh call131 func131 rfl (by kernel_rfl) rfl ?_;intro b0 hb0
   (repeat' first|simp only[ak,ag,results131,ntmps131,al,ai,seval,ah]|exact rfl|refine aa (v:=.any) ?_|((first|(refine ae ?_ (hn1 _) ?_)|(refine ab ?_ (fun _=>hn1 _) ?_));(focus (simp only[results131,ntmps131,al,ai,seval,ah]<;>exact rfl)))|((first|(refine ae ?_ (hn2 _) ?_)|(refine ab ?_ (fun _=>hn2 _) ?_));(focus (simp only[results131,ntmps131,al,ai,seval,ah]<;>exact rfl)))|(first|(refine ae ?_ (hev _) ?_)|(refine ab ?_ (fun _=>hev _) ?_))|(refine aa (v:=.any) ?_)|((first|apply Ca|apply Cb)<;>intro hb)|refine Ai (by omega) ?_|(apply Ai<;>intro hb)|refine Fin.pure ?_ ?_ ?_|simp only[ap]))
def ic (d:UInt8)(s:List UInt8):V:=match ep d s with
 | none=>.tup [.str [],.str s,.bool false]
 | some (a,b)=>.tup [.str a,.str b,.bool true]
def c7 (a:Pr):List V:=[.str a.name,.str a.value]
def bE (t:Tk):List V:=[.int .u8 t.kind,.str t.name,.sl false 2 (t.attrs.map c7),.str t.text]
def KQ {l:List Pr}{k:Nat}{a:Pr}(h:l[k]? = some a):(l.map c7)[k]? = some (c7 a):=by rw[List.getElem?_map,h];rfl
def EZ {l:List Tk}{k:Nat}{a:Tk}(h:l[k]? = some a):(l.map bE)[k]? = some (bE a):=by rw[List.getElem?_map,h];rfl
def ay (l:List Pr):plainLL (l.map c7)=true:=cA _ (fun _=>rfl) l
def aE (l:List Tk):plainLL (l.map bE)=true:=cA _ (fun t=>by simp[bE,plainL,V.plain,ay]) l
def gy {α:Type}{p:α->Bool}{l:List α}{k:Nat}{x:α}(h:(l.take k).any p=false)(hc:l[k]? = some x)(hx:p x=false):(l.take (k+1)).any p=false:=by
 obtain⟨hk,rfl⟩:=List.getElem?_eq_some_iff.1 hc
 rw[List.take_succ_eq_append_getElem hk,List.any_append,h]
 simp[hx]
def xw {l:List Pr}{k:Nat}{a:Pr}(h:ja l k)(ha:l[k]? = some a)(ho:O2 (l.take k) a=true):ja l (k+1):=by
 intro i b hi hb
 by_cases e:i=k
 ·subst e;rw[ha]at hb;cases hb;exact ho
 ·exact h i b (by omega) hb
def ze {l:List Pr}{k:Nat}{a:Pr}(ha:l[k]? = some a)(ho:O2 (l.take k) a=false):iQ l=false:=by
 cases h:iQ l with
 | false=>rfl
 | true =>
  have:=(gh.1 h).2 k a (List.getElem?_eq_some_iff.1 ha).1 ha
  rw[ho]at this;cases this
def Qi (n:Nat)(hn:n<=281474976710656)(M:am)(nm:Nat)(hM:M nm=none):Ev cx 255 nm [.int .i64 n] M (.own nm 0 n) [(nm,some (rK []))] :=
 Ev.makeNoZero (ps:=Tryz.f255.params) (t:=129) func255 (by kernel_rfl) (by kernel_rfl) (by kernel_rfl) (by kernel_rfl) E5 n hn M nm hM
def AV (z:Int)(h0:0<=z)(h1:z<=127)(nm:Nat):Ev cx 228 nm [.int .i32 z] am.nil (.int .i64 1) []:=by
 have d0:decide (z<0)=false:=bm
 have d1:decide (z<=127)=true:=decide_eq_true h1
 refine bh call228 func228 rfl (by kernel_rfl) rfl ?_;intro b0 hb0
 (repeat' first|simp only[ak,ag,results228,ntmps228,al,d0,d1,ai,seval,ah]|exact rfl|refine aa (v:=.any) ?_|((first|apply Ca|apply Cb)<;>intro hb)|refine Ai (by omega) ?_|(apply Ai<;>intro hb)|refine Fin.pure ?_ ?_ ?_|simp only[ap])
def OZ (s:Nat)(r:List (List V))(o:Ob):(@Blk.mk s r o).ob=o:=rfl
def AQ (O:List (Nat×Nat))(t:TypeId):Blk.ren O (@Blk.mk 1 [] (.typed t)) = @Blk.mk 1 [] (.typed t):=bi O [] t
def uE (O:List (Nat×Nat))(t:TypeId):Blk.renOk O (@Blk.mk 1 [] (.typed t))=true:=aY O [] t
def Jp (q n:Nat)(hn:n<=1000000)(M:am)(nm:Nat)(hq:M q=some (bK true q .nils))(ho:∀ z,(M z).isSome=true->z∈[q])(hqn:q<nm) :
  Ev cx 248 nm [.ptr q 0 0,.int .i64 n] M (.tup []) [(q,some (bK true q (.own nm 0 0))),(nm,some (rK []))]:=by
 have hw:IntKind.i64.wrap 0=0:=by decide
 have hw2:IntKind.i64.wrap (0+(n:Int))=(n:Int):=by rw[bd];omega
 have hw3:IntKind.i64.wrap (n:Int)=(n:Int):=bd
 have nq:=eq_false (show ¬ nm=q by omega)
 refine bh call248 func248 rfl (by kernel_rfl) rfl ?_;intro b0 hb0
 have lq:=aB hb0 hq
 have z0:=aD lq
 repeat' first|simp only[ak,ag,results248,ntmps248,al,c9,hq,z0,hw,hw2,hw3,aR,Lo,au,dE,Nat.min_self,List.take_zero,List.all_nil,bt,ai,seval,ah]|exact rfl|refine aa (v:=.any) ?_|(refine b8 ?_ (Qi n (by omega) am.nil _ rfl) ?_ ?_)|omega|refine aZ (ps:=[(8,12)]) (by decide +kernel) (by simp only[List.forall_mem_cons,List.getD_cons_zero,List.getD_cons_succ,results248,ntmps248,al,c9,hq,z0,hw,hw2,hw3,aR,Lo,au,dE,Nat.min_self,List.take_zero,List.all_nil,bt,ai,seval,ah]<;>(try simp)<;>(try omega)) ?_|refine az (by decide +kernel) ?_|((first|apply Ca|apply Cb)<;>intro hb)|refine Ai (by omega) ?_|(apply Ai<;>intro hb)
 all_goals ((refine Fin.give [(q,none),(b0+128,some 0)] [] ?_ ?_ ?_ ?_ ?_ (aL ho (by simp[aP,tgt]))<;>(try simp only[results248,ntmps248,al,OZ,AQ,uE,nq,c9,aR,hq,z0,Lo,dx,ai,seval,ah])<;>(try simp only[ap])<;>(try omega)))
def Il (u:Bool)(q n:Nat)(h0:0<n)(hn:n<=1000000)(M:am)(nm:Nat)(hq:M q=some (bK u q .nils))(ho:∀ z,(M z).isSome=true->z∈[q])(hqn:q<nm) :
  Ev cx 229 nm [.ptr q 0 0,.int .i64 n] M (.tup []) [(q,some (bK true q (.own nm 0 0))),(nm,some (rK []))]:=by
 have d0:decide ((n:Int)<0)=false:=bm
 have hw:IntKind.i64.wrap 0=0:=by decide
 have hw1:IntKind.i64.wrap (0-0)=0:=by decide
 have d1:decide ((0:Int)<(n:Int))=true:=bR
 have nq:=eq_false (show ¬ nm=q by omega)
 refine bh call229 func229 rfl (by kernel_rfl) rfl ?_;intro b0 hb0
 have lq:=aB hb0 hq
 have z0:=aD lq
 repeat' first|simp only[ak,ag,results229,ntmps229,al,c9,hq,z0,d0,d1,hw,hw1,au,ai,seval,ah]|exact rfl|refine aa (v:=.any) ?_|(refine ac ?_ [q] (pC u q _ _ ?_ aj (by omega)) ?_ ?_)|(refine ac ?_ [q] (Jp q n hn _ _ ?_ aj (by omega)) ?_ ?_)|refine az (by decide +kernel) ?_|((first|apply Ca|apply Cb)<;>intro hb)|refine Ai (by omega) ?_|(apply Ai<;>intro hb)
 all_goals ((refine Fin.give [(q,none),(b0+304,some 0)] [] ?_ ?_ ?_ ?_ ?_ (aL ho (by simp[aP,tgt]))<;>(try simp only[results229,ntmps229,al,OZ,AQ,uE,nq,c9,aR,eJ,dj,hq,z0,Lo,dx,ai,seval,ah])<;>(try simp only[ap])<;>(try omega)))
def Bi (z:Int)(hm:gV z=true)(q y:Nat)(bs:List UInt8)(hbs:bs.length<=1000000)(M:am)(nm:Nat)(hqy:q≠y)(hq:M q=some (bK true q (.own y 0 bs.length)))(hy:M y=some (rK bs))(ho:∀ z,(M z).isSome=true->z∈[q,y])(hqn:q<nm)(hyn:y<nm) :
  Ev cx 230 nm [.ptr q 0 0,.int .i32 z] M (.tup [.int .i64 (encodeRune z).length,.val .nilIface]) [(y,none),(q,some (bK true q (.own nm 0 (bs.length+(encodeRune z).length)))),(nm,some (rK (bs++encodeRune z)))]:=by
 have hel:=bj z
 have hw:IntKind.i64.wrap (((bs.length:Int)+((encodeRune z).length:Int))-(bs.length:Int))=((encodeRune z).length:Int):=by rw[bd];omega
 have hw':IntKind.i64.wrap (((bs.length+(encodeRune z).length:Nat):Int)-(bs.length:Int))=((encodeRune z).length:Int):=by rw[bd];omega
 refine bh call230 func230 rfl (by kernel_rfl) rfl ?_;intro b0 hb0
 have lq:=aB hb0 hq
 have ly:=aB hb0 hy
 have y0:=aD ly
 have z0:=aD lq
 have n1:=eq_false hqy;have n4:=eq_false (Ne.symm hqy)
 repeat' first|simp only[ak,ag,results230,ntmps230,al,c9,hq,hy,n1,n4,y0,z0,hw,hw',au,ai,seval,ah]|exact rfl|refine aa (v:=.any) ?_|(refine ac ?_ [q,y] (tx true q y bs.length bs _ _ hqy ?_ ?_ aj (by omega) (by omega)) ?_ ?_)|(refine ac ?_ [y] (ES z hm y bs hbs _ _ ?_ aj (by omega)) ?_ ?_)|((first|apply Ca|apply Cb)<;>intro hb)|refine Ai (by omega) ?_|(apply Ai<;>intro hb)
 all_goals ((refine Fin.give [(q,none),(b0+256,some 0)] [y] ?_ ?_ ?_ ?_ ?_ (aL ho (by simp[aP,tgt]))<;>(try simp only[results230,ntmps230,al,c9,aR,eJ,dj,hq,hy,n1,n4,y0,z0,dx,ai,seval,ah])<;>(try simp only[ap])<;>(try omega)))
def Ij (q y n c:Nat)(bs:List UInt8)(M:am)(nm:Nat)(hqy:q≠y)(hq:M q=some ⟨2,[[.ptr q 0 0,.ownc y 0 n c]]⟩)(hy:M y=some (rK bs))(ho:∀ z,(M z).isSome=true->z∈[q,y])(hqn:q<nm)(hyn:y<nm) :
  Ev cx 231 nm [.ptr q 0 0] M (.int .i64 c) [(q,some ⟨2,[[.ptr q 0 0,.own y 0 n]]⟩),(y,some (rK bs))]:=by
 refine bh call231 func231 rfl (by kernel_rfl) rfl ?_;intro b0 hb0
 have lq:=aB hb0 hq
 have ly:=aB hb0 hy
 have y0:=aD ly
 have z0:=aD lq
 have n1:=eq_false hqy;have n4:=eq_false (Ne.symm hqy)
 repeat' first|simp only[ak,ag,results231,ntmps231,al,hq,hy,n1,n4,y0,z0,ai,seval,ah]|exact rfl|refine aa (v:=.any) ?_|((first|apply Ca|apply Cb)<;>intro hb)|refine Ai (by omega) ?_|(apply Ai<;>intro hb)
 all_goals ((refine Fin.give [(q,none),(y,none)] [] ?_ ?_ ?_ ?_ ?_ (aL ho (by simp[aP,tgt]))<;>(try simp only[results231,ntmps231,al,aR,eJ,dj,hq,hy,n1,n4,y0,z0,dx,ai,seval,ah])<;>(try simp only[ap])<;>(try omega)))
def Fk (q y:Nat)(bs:List UInt8)(M:am)(nm:Nat)(hqy:q≠y)(hq:M q=some (bK true q (.own y 0 bs.length)))(hy:M y=some (rK bs))(ho:∀ z,(M z).isSome=true->z∈[q,y])(hqn:q<nm)(hyn:y<nm) :
  O6 cx 231 nm [.ptr q 0 0] M (fun u=>∃ c:Nat,bs.length<=c/\u = .int .i64 c) [(q,some (bK true q (.own y 0 bs.length))),(y,some (rK bs))]:=by
 refine O6.cell (v:=fun c=>.int .i64 c) q 1 y 0 bs.length 2 [.ptr q 0 0,.own y 0 bs.length] instCells hq rfl rfl (by simp[ao]) (fun c hc=>?_)
 exact Ij q y bs.length c bs _ nm hqy (am.put_same _ _ _) (by rw[am.put_ne _ _ (Ne.symm hqy)];exact hy) (fun z hz=>by
  by_cases e:z=q
  ·simp[e]
  ·rw[am.put_ne _ _ e]at hz;exact ho z hz) hqn hyn
def Ik (u:Bool)(q:Nat)(M:am)(nm:Nat)(hq:M q=some (bK u q .nils))(ho:∀ z,(M z).isSome=true->z∈[q])(hqn:q<nm) :
  Ev cx 231 nm [.ptr q 0 0] M (.int .i64 0) [(q,some (bK u q .nils))]:=by
 cases u
 all_goals (
  first|rw[cV]at hq ⊢ | rw[c9]at hq ⊢
  refine bh call231 func231 rfl (by kernel_rfl) rfl ?_;intro b0 hb0
  have lq:=aB hb0 hq
  have z0:=aD lq
  repeat' first|simp only[ak,ag,results231,ntmps231,al,hq,z0,ai,seval,ah]|exact rfl|refine aa (v:=.any) ?_|((first|apply Ca|apply Cb)<;>intro hb)|refine Ai (by omega) ?_|(apply Ai<;>intro hb)
  all_goals ((refine Fin.give [(q,none)] [] ?_ ?_ ?_ ?_ ?_ (aL ho (by simp[aP,tgt]))<;>(try simp only[results231,ntmps231,al,hq,fY,dX,z0,dx,ai,seval,ah])<;>(try simp only[ap])<;>(try omega))))
def tR {z:Int}(hm:gV z=true):(encodeRune z).map cH=encodeRune (gq z):=by
 have hr:=fF hm
 by_cases h:z<128
 ·have key:∀ n:Fin 128,(encodeRune (n.val:Int)).map cH=encodeRune (gq (n.val:Int)):=by decide +kernel
  have:=key ⟨z.toNat,by omega⟩
  have e:((z.toNat:Nat):Int)=z:=by omega
  simpa only[e] using this
 ·have hf:gq z=z:=by
   unfold gq
   rw[if_neg]
   unfold mw
   simp only[decide_eq_true_eq];omega
  rw[hf]
  have hh:=pG (z:=z) (by omega)
  rw[show(encodeRune z).map cH=(encodeRune z).map id from List.map_congr_left (fun c hc=>?_),List.map_id]
  have:=hh c hc
  have hb:iR c=false:=by
   unfold iR
   have hne:∀ d:UInt8,d.toNat<128->(c==d)=false:=fun d hd=>beq_false_of_ne (fun e=>by subst e;omega)
   rw[hne 32 (by decide),hne 9 (by decide),hne 10 (by decide),hne 13 (by decide)];rfl
  unfold cH
  rw[hb];rfl
def zS {z:Int}(hm:gV z=true):gV (gq z)=true:=by
 unfold gq
 split
 ·decide
 ·exact hm
def IW (zs:List Int)(h:zs.all gV=true):(enc zs).map cH=enc (zs.map gq):=by
 induction zs with
 | nil=>rfl
 | cons z zs ih =>
  simp only[List.all_cons,Bool.and_eq_true]at h
  have e:enc (z::zs)=encodeRune z++enc zs:=by simp[enc]
  have e2:enc ((z::zs).map gq)=encodeRune (gq z)++enc (zs.map gq):=by simp[enc]
  rw[e,e2,List.map_append,tR h.1,ih h.2]
def zt {s:List UInt8}(h:(dW s).isSome=true):(dW (s.map cH)).isSome=true:=by
 obtain⟨zs,hz⟩:=Option.isSome_iff_exists.1 h
 obtain⟨hm,rfl⟩:=(lu s zs).1 hz
 rw[IW zs hm,fV]
 ·rfl
 ·rw[List.all_map,List.all_eq_true]
  intro z hz
  exact zS (List.all_eq_true.1 hm z hz)
def wP {s:List UInt8}{p:Nat}(hp:p<s.length)(h:(dW (s.drop p)).isSome=true):∃ z:Int,((bn s p).1:Int)=z/\gV z=true/\encodeRune z=(s.drop p).take (bn s p).2/\1<=(bn s p).2/\p+(bn s p).2<=s.length/\(dW (s.drop (p+(bn s p).2))).isSome=true/\(bn s p).2=(encodeRune z).length:=by
 have ho:=Kz hp
 have hne:s.drop p≠[]:=by
  intro h
  have:=congrArg List.length h
  simp at this;omega
 split at ho
 ·rw[xC hne ho]at h;cases h
 ·obtain⟨_,hm,he,h1,h2⟩:=ng ho
  have hd:=mG ho
  rw[hd,List.drop_drop]at h
  simp only[List.length_drop]at h2
  refine⟨_,rfl,hm,he,h1,by omega,by simpa using h,?_⟩
  rw[he,List.length_take,List.length_drop];omega
def wU {s:List UInt8}{p k:Nat}{z:Int}(hm:gV z=true)(he:encodeRune z=(s.drop p).take k):(s.take (p+k)).map cH=(s.take p).map cH++encodeRune (gq z):=by
 rw[List.take_add,List.map_append,<- he,tR hm]
def tP:List V:=Lib.firstTab.map fun z=>.int .u8 z
def O9:List V:=(List.range 16).flatMap fun i=>[V.int .u8 (Lib.accLo i),.int .u8 (Lib.accHi i)]
def Nh:cx.G 3 = .rp tP:=by show qn 3=_;unfold qn;rw[if_pos rfl];rfl
def Rx:cx.G 4 = .rp O9:=by show qn 4=_;unfold qn;rw[if_neg (by decide),if_pos rfl];rfl
def AY (t:List UInt8)(ht:t.length<=1000000)(nm:Nat):Ev cx 237 nm [.str (239::191::189::t)] am.nil (.tup [.int .i32 65533,.int .i64 3]) []:=by
 have hf:(tP.drop 239)[0]? = some (.int .u8 3):=by kernel_rfl
 have hf':239<tP.length:=by decide +kernel
 have hf2:tP.length=256:=by decide +kernel
 have hl:(239::191::189::t).length=t.length+3:=rfl
 have d1:decide (((t.length+3:Nat):Int)<1)=false:=bm
 have d2:decide ((t.length:Int)+3<1)=false:=bm
 have g0:(239::191::189::t)[0]? = some (239:UInt8):=rfl
 have g1:(239::191::189::t)[1]? = some (191:UInt8):=rfl
 have g2:(239::191::189::t)[2]? = some (189:UInt8):=rfl
 have l0:0<t.length+3:=by omega
 have l1:1<t.length+3:=by omega
 have l2:2<t.length+3:=by omega
 have t1:(239:UInt8).toNat=239:=rfl
 have t2:(191:UInt8).toNat=191:=rfl
 have t3:(189:UInt8).toNat=189:=rfl
 have p1:0<(tP.drop 239).length:=by decide +kernel
 have s1:Int.fdiv 3 (2 ^ min 4 IntKind.u8.bits)=0:=by decide +kernel
 have a1:List.take 2 O9=[V.int .u8 128,V.int .u8 191]:=by kernel_rfl
 have p2:2<=O9.length:=by decide +kernel
 have w1:IntKind.u8.wrap ((BitVec.ofInt IntKind.u8.bits 3 &&& BitVec.ofInt IntKind.u8.bits 7).toNat:Int)=3:=by decide +kernel
 have w2:IntKind.i64.wrap 3=3:=by decide
 have d3:decide (((t.length+3:Nat):Int)<3)=false:=bm
 have d4:decide ((t.length:Int)+3<3)=false:=bm
 have x1:IntKind.u8.wrap ((BitVec.ofInt IntKind.u8.bits 239 &&& BitVec.ofInt IntKind.u8.bits 15).toNat:Int)=15:=by decide +kernel
 have x2:IntKind.u8.wrap ((BitVec.ofInt IntKind.u8.bits 191 &&& BitVec.ofInt IntKind.u8.bits 63).toNat:Int)=63:=by decide +kernel
 have x3:IntKind.u8.wrap ((BitVec.ofInt IntKind.u8.bits 189 &&& BitVec.ofInt IntKind.u8.bits 63).toNat:Int)=61:=by decide +kernel
 have w3:IntKind.i32.wrap 15=15:=by decide
 have w4:IntKind.i32.wrap 63=63:=by decide
 have w5:IntKind.i32.wrap 61=61:=by decide
 have y1:IntKind.i32.wrap (15*2 ^ min 12 IntKind.i32.bits)=61440:=by decide +kernel
 have y2:IntKind.i32.wrap (63*2 ^ min 6 IntKind.i32.bits)=4032:=by decide +kernel
 have v1:IntKind.i32.wrap ((BitVec.ofInt IntKind.i32.bits 61440 ||| BitVec.ofInt IntKind.i32.bits 4032).toNat:Int)=65472:=by decide +kernel
 have v2:IntKind.i32.wrap ((BitVec.ofInt IntKind.i32.bits 65472 ||| BitVec.ofInt IntKind.i32.bits 61).toNat:Int)=65533:=by decide +kernel
 refine bh call237 func237 rfl (by kernel_rfl) rfl ?_;intro b0 hb0
 (repeat' first|simp only[ak,ag,results237,ntmps237,al,Nh,Rx,hf,hf',hf2,hl,d1,d2,g0,g1,g2,l0,l1,l2,t1,t2,t3,p1,p2,s1,a1,w1,w2,w3,w4,w5,d3,d4,x1,x2,x3,y1,y2,v1,v2,Int.toNat_zero,Nat.zero_mul,List.drop_zero,ai,seval,ah]|exact rfl|refine aa (v:=.any) ?_|((first|apply Ca|apply Cb)<;>intro hb)|refine Ai (by omega) ?_|(apply Ai<;>intro hb)|refine Fin.pure ?_ ?_ ?_|simp only[ap])
def N0 (t:List UInt8)(ht:t.length<=1000000)(nm:Nat):Ev cx 218 nm [.str (239::191::189::t)] am.nil (.tup [.int .i32 65533,.int .i64 3]) []:=by
 have e0:(!((239::191::189::t)==([]:List UInt8)))=true:=rfl
 have e0':((239::191::189::t) !=([]:List UInt8))=true:=rfl
 have hl:(239::191::189::t).length=t.length+3:=rfl
 have g0:(239::191::189::t)[0]? = some (239:UInt8):=rfl
 have l0:0<t.length+3:=by omega
 have t1:(239:UInt8).toNat=239:=rfl
 refine bh call218 func218 rfl (by kernel_rfl) rfl ?_;intro b0 hb0
 (repeat' first|simp only[ak,ag,results218,ntmps218,al,e0,e0',hl,g0,l0,t1,ai,seval,ah]|exact rfl|refine aa (v:=.any) ?_|(first|(refine ae ?_ (AY t ht _) ?_)|(refine ab ?_ (fun _=>AY t ht _) ?_))|((first|apply Ca|apply Cb)<;>intro hb)|refine Ai (by omega) ?_|(apply Ai<;>intro hb)|refine Fin.pure ?_ ?_ ?_|simp only[ap])
def Ej:V:=.fn 210 []
def vM {s:List UInt8}{p:Nat}(h:(s.take p).map cH=s.take p)(hp:p=s.length):s.map cH=s:=by
 subst hp;rwa[List.take_length]at h
def Ku {z:Int}(h:z=9\/z=10\/z=13\/z=32):encodeRune z=[z.toNat.toUInt8]/\0<=z/\z<=127:=by
 refine⟨?_,by omega,by omega⟩
 rcases h with rfl|rfl|rfl|rfl<;>decide +kernel
def EE {z:Int}(h0:0<=z)(h:z<128):encodeRune z=[z.toNat.toUInt8]:=by
 have key:∀ n:Fin 128,encodeRune (n.val:Int)=[(n.val:Int).toNat.toUInt8]:=by decide +kernel
 have:=key ⟨z.toNat,by omega⟩
 have e:((z.toNat:Nat):Int)=z:=by omega
 simpa only[e] using this
def JN {z:Int}(h0:0<=z)(h:z<128):IntKind.u8.wrap z=((z.toNat.toUInt8).toNat:Int):=by
 have key:∀ n:Fin 128,IntKind.u8.wrap (n.val:Int)=(((n.val:Int).toNat.toUInt8).toNat:Int):=by decide +kernel
 have:=key ⟨z.toNat,by omega⟩
 have e:((z.toNat:Nat):Int)=z:=by omega
 simpa only[e] using this
def Ds (O:List (Nat×Nat))(q y a b:Nat):Blk.ren O (bK true q (.own y a b))=bK true ((aT O q).getD q) (.own ((aT O y).getD y) a b):=by
 simp[bK,Blk.ren,gW,renL,V.ren,plainLL,plainL,V.plain,Ob.ren,instCells]
def uD (O:List (Nat×Nat))(q y a b:Nat)(h1:(aT O q).isSome=true)(h2:(aT O y).isSome=true):Blk.renOk O (bK true q (.own y a b))=true:=by
 simp[bK,Blk.renOk,fH,renOkL,V.renOk,h1,h2,Ob.renOk,instCells]
def JP (s:List UInt8)(hs:s.length<=20000)(hdec:(dW s).isSome=true)(nm:Nat):Ev cx 209 nm [Ej,.str s] am.nil (.str (s.map cH)) []:=by
  unfold Ej
  refine bh call209 func209 rfl (by kernel_rfl) rfl ?_;intro b0 hb0;have zF:=Ai results209 ntmps209
  repeat' first|simp only[ak,ag,zF,al,ai,seval,ah]|exact rfl|refine aa (v:=.any) ?_|(refine nJ (s:=?_) ?_ ?_ ?_;rotate_left 1;(iterate 2 (focus (simp only[zF,al,ai,seval,ah]<;>exact rfl))))|(refine ba ?_)|(refine aU ?_)|((first|(refine aS (g:=?_) ?_ ?_)|(refine aM (g:=?_) ?_ ?_));rotate_left 1;(focus (simp only[zF,al,ai,seval,ah]<;>exact rfl)))|((first|apply Ca|apply Cb)<;>intro hb)|refine Ai (by omega) ?_|(apply Ai<;>intro hb)
  (refine aQ bM (fun x:Nat=>s.length-x) (fun x=>x<=s.length/\(dW (s.drop x)).isSome=true/\(s.take x).map cH=s.take x) (b0+16) (fun x=>[(0,.fn 210 []),(1,.str s),(5,.ptr (b0+1) 0 0),(14,.ptr b0 0 0)]) (fun x=>[(b0,kQ s x),(b0+1,bK false (b0+1) .nils)]) (0) [some (b0+48),some (b0+16)] ?_ ?_ ?_ ?_;rotate_left 1;(focus (show b0<=_;omega));(focus (refine⟨?_,?_⟩<;>(try simp only[aX,fT,ei,cV,fY,dX,aJ,ai,seval,ah,ap])<;>(try omega)));rotate_left 1)
  · exact⟨Nat.zero_le _,by rw[List.drop_zero];exact hdec,rfl⟩
  · rintro p ⟨h1,h2,h3⟩
    by_cases hp:p<s.length
    · obtain ⟨z,hz,hm,he,hk1,hk2,hd2,hk3⟩:=wP hp h2
      have hmz:=(fW z).1 hm
      have hfe:=Ek z hm
      have htf:=wU hm he
      by_cases hfz:gq z=z
      · have q1:(gq z==z)=true:=by rw[hfz];simp
        have hnx:(s.take (p+(bn s p).2)).map cH=s.take (p+(bn s p).2):=by
          rw[htf,h3,hfz,List.take_add,<- he]
        by_cases h65:z=65533
        · subst h65
          have hk3':(bn s p).2=3:=by rw[hk3];decide +kernel
          have hdr:s.drop p=239::191::189::s.drop (p+3):=by
            rw[hk3']at he
            have h4:=List.take_append_drop 3 (s.drop p)
            rw[<- he,show encodeRune 65533=[239,191,189] by decide +kernel,List.drop_drop]at h4
            exact h4.symm
          have hodd:=N0 (s.drop (p+3)) (by simp;omega)
          have q3:(gq 65533==65533)=true:=q1
          have hpi:(p:Int)<=(s.length:Int):=by omega
          rw[hfz]at hfe
          repeat' first|simp only[ak,ag,zF,al,hp,h1,hpi,hz,hdr,cV,ai,seval,ah]|exact rfl|refine aa (v:=.any) ?_|(first|(refine ae ?_ (hfe _) ?_)|(refine ab ?_ (fun _=>hfe _) ?_)|(refine ae ?_ (hodd _) ?_)|(refine ab ?_ (fun _=>hodd _) ?_))|(refine iB (s:=?_) (y:=?_) (p:=?_) ?_ ?_ ?_ ?_;rotate_left 3;(iterate 2 (focus (simp only[zF,al,hp,h1,hpi,hz,hdr,cV,ai,seval,ah]<;>exact rfl)));(focus (simp only[zF,al,hp,h1,hpi,hz,hdr,cV,ai,seval,ah]<;>omega)))|(refine ba ?_)|(refine aU ?_)|((first|(refine aS (g:=?_) ?_ ?_)|(refine aM (g:=?_) ?_ ?_));rotate_left 1;(focus (simp only[zF,al,hp,h1,hpi,hz,hdr,cV,ai,seval,ah]<;>exact rfl)))|refine Ai (by omega) ?_
          all_goals ((refine aC bM (p+(bn s p).2) [some b0,some (b0+1)] ?_ ?_ ?_ ?_;rotate_left 2;(focus (show b0<=_;omega));(focus (refine⟨?_,?_⟩<;>(try simp only[aX,fT,ei,cV,fY,dX,aJ,ai,seval,ah,ap])<;>(try omega)))))
          all_goals (first|(show s.length-(p+(bn s p).2)<s.length-p;omega)|exact⟨hk2,hd2,hnx⟩|skip)
        · have q2:(!(z==65533))=true:=by rw[beq_false_of_ne h65];rfl
          have q2':(z != 65533)=true:=q2
          repeat' first|simp only[ak,ag,zF,al,hp,hz,q1,q2,q2',cV,ai,seval,ah]|exact rfl|refine aa (v:=.any) ?_|(first|(refine ae ?_ (hfe _) ?_)|(refine ab ?_ (fun _=>hfe _) ?_))|(refine iB (s:=?_) (y:=?_) (p:=?_) ?_ ?_ ?_ ?_;rotate_left 3;(iterate 2 (focus (simp only[zF,al,hp,hz,q1,q2,q2',cV,ai,seval,ah]<;>exact rfl)));(focus (simp only[zF,al,hp,hz,q1,q2,q2',cV,ai,seval,ah]<;>omega)))|(refine ba ?_)|(refine aU ?_)|((first|(refine aS (g:=?_) ?_ ?_)|(refine aM (g:=?_) ?_ ?_));rotate_left 1;(focus (simp only[zF,al,hp,hz,q1,q2,q2',cV,ai,seval,ah]<;>exact rfl)))|refine Ai (by omega) ?_
          all_goals ((refine aC bM (p+(bn s p).2) [some b0,some (b0+1)] ?_ ?_ ?_ ?_;rotate_left 2;(focus (show b0<=_;omega));(focus (refine⟨?_,?_⟩<;>(try simp only[aX,fT,ei,cV,fY,dX,aJ,ai,seval,ah,ap])<;>(try omega)))))
          all_goals (first|(show s.length-(p+(bn s p).2)<s.length-p;omega)|exact⟨hk2,hd2,hnx⟩|skip)
      · have hz4:z=9\/z=10\/z=13:=by
          unfold gq mw at hfz
          split at hfz
          · rename_i h;simp only[decide_eq_true_eq]at h;omega
          · exact absurd rfl hfz
        have hf32:gq z=32:=by
          unfold gq mw
          rw[if_pos (by simp only[decide_eq_true_eq];omega)]
        have hen:=Ku (z:=z) (by omega)
        have hk1':(bn s p).2=1:=by rw[hk3,hen.1];rfl
        have q1:((32:Int)==z)=false:=beq_false_of_ne (by omega)
        have q65:(z==65533)=false:=beq_false_of_ne (by omega)
        have hrl:=AV z hen.2.1 hen.2.2
        have hpi:(p:Int)<=(s.length:Int):=by omega
        have hw1:IntKind.i64.wrap ((s.length:Int)+4)=((s.length+4:Nat):Int):=bd
        have hw2:IntKind.i64.wrap ((p:Int)+1)=((p+1:Nat):Int):=bd
        have hpi2:((p+1:Nat):Int)<=(s.length:Int):=by omega
        have hp1:p+1<=s.length:=by omega
        have htl:(s.take p).length=p:=by rw[List.length_take];omega
        rw[hf32]at hfe
        have hm32:gV 32=true:=by decide
        have hws:=fun (M':am) (n':Nat) (a:M' (b0+1)=some (bK true (b0+1) (.own (b0+432) 0 0))) (b:M' (b0+432)=some (rK [])) (d:∀ z,(M' z).isSome=true->z∈[b0+1,b0+432]) (hn1:b0+1<n') (hn2:b0+432<n')=>Bk true (b0+1) (b0+432) [] (s.take p) (by unfold bc;simp;omega) M' n' (by omega) a b d hn1 hn2
        simp only[List.nil_append,List.length_nil,Nat.zero_add,htl]at hws
        have hwr:=fun (M':am) (n':Nat) (a:M' (b0+1)=some (bK true (b0+1) (.own (b0+496) 0 (s.take p).length))) (b:M' (b0+496)=some (rK (s.take p))) (d:∀ z,(M' z).isSome=true->z∈[b0+1,b0+496]) (hn1:b0+1<n') (hn2:b0+496<n')=>Bi 32 hm32 (b0+1) (b0+496) (s.take p) (by omega) M' n' (by omega) a b d hn1 hn2
        have he32:encodeRune 32=[32]:=by decide +kernel
        simp only[htl,he32,List.length_cons,List.length_nil,Nat.zero_add]at hwr
        have hlo:(s.take p++[32]).length=p+1:=by simp;omega
        repeat' first|simp only[ak,ag,zF,al,hp,h1,hp1,hpi,hpi2,hz,q1,q65,hw1,hw2,cV,au,ai,seval,ah]|exact rfl|refine aa (v:=.any) ?_|(first|(refine ae ?_ (hfe _) ?_)|(refine ab ?_ (fun _=>hfe _) ?_)|(refine ae ?_ (hrl _) ?_)|(refine ab ?_ (fun _=>hrl _) ?_))|(refine ac ?_ [b0+1] (Il false (b0+1) (s.length+4) (by omega) (by omega) _ _ ?_ aj (by omega)) ?_ ?_)|(refine ac ?_ [b0+1,b0+432] (hws _ _ ?_ ?_ aj (by omega) (by omega)) ?_ ?_)|(refine ac ?_ [b0+1,b0+496] (hwr _ _ ?_ ?_ aj (by omega) (by omega)) ?_ ?_)|(refine iB (s:=?_) (y:=?_) (p:=?_) ?_ ?_ ?_ ?_;rotate_left 3;(iterate 2 (focus (simp only[zF,al,hp,h1,hp1,hpi,hpi2,hz,q1,q65,hw1,hw2,cV,au,ai,seval,ah]<;>exact rfl)));(focus (simp only[zF,al,hp,h1,hp1,hpi,hpi2,hz,q1,q65,hw1,hw2,cV,au,ai,seval,ah]<;>omega)))|(refine ba ?_)|(refine aU ?_)|((first|(refine aS (g:=?_) ?_ ?_)|(refine aM (g:=?_) ?_ ?_));rotate_left 1;(focus (simp only[zF,al,hp,h1,hp1,hpi,hpi2,hz,q1,q65,hw1,hw2,cV,au,ai,seval,ah]<;>exact rfl)))|refine Ai (by omega) ?_
        have hcap:=fun (M':am) (n':Nat) (a:M' (b0+1)=some (bK true (b0+1) (.own (b0+560) 0 (s.take p++[32]).length))) (b:M' (b0+560)=some (rK (s.take p++[32]))) (d:∀ z,(M' z).isSome=true->z∈[b0+1,b0+560]) (hn1:b0+1<n') (hn2:b0+560<n')=>Fk (b0+1) (b0+560) (s.take p++[32]) M' n' (by omega) a b d hn1 hn2
        simp only[hlo]at hcap
        refine FA ?_ [b0+1,b0+560] (hcap _ _ ?_ ?_ aj (by omega) (by omega)) ?_ ?_
        iterate 4 (focus (simp only[ag,al,ai,seval,ah]<;>exact rfl))
        rintro v ⟨c,hc,rfl⟩
        have hc0:((c:Int)==0)=false:=beq_false_of_ne (by omega)
        repeat' first|simp only[ak,ag,zF,al,hc0,ai,seval,ah]|exact rfl|refine aa (v:=.any) ?_|(refine nJ (s:=?_) ?_ ?_ ?_;rotate_left 1;(iterate 2 (focus (simp only[zF,al,hc0,ai,seval,ah]<;>exact rfl))))|(refine ba ?_)|(refine aU ?_)|((first|(refine aS (g:=?_) ?_ ?_)|(refine aM (g:=?_) ?_ ?_));rotate_left 1;(focus (simp only[zF,al,hc0,ai,seval,ah]<;>exact rfl)))|refine Ai (by omega) ?_
        obtain⟨r,hr⟩:∃ r,r=s.drop (p+1):=⟨_,rfl⟩
        obtain⟨pre,hpre⟩:∃ u,u=s.take p++[32]:=⟨_,rfl⟩
        rw[h3,hf32,he32,hk1']at htf
        have hfl:s.map cH=pre++r.map cH:=by rw[hpre,hr,<- htf,<- List.map_append,List.take_append_drop]
        rw[hk1',<- hr]at hd2
        rw[<- hpre]at hlo
        have hrn:p+1+r.length=s.length:=by rw[hr,List.length_drop];omega
        rw[<- hr,<- hpre,hfl]
        clear hcap hwr hws hfl hfe htf
        obtain⟨P,hP⟩:∃ P,P=p+1:=⟨_,rfl⟩
        rw[<- hP]at hlo hrn
        rw[<- hP]
        (refine aQ bM (fun x:Nat=>r.length-x) (fun x=>x<=r.length/\(dW (r.drop x)).isSome=true) (b0+16) (fun x=>[(0,.fn 210 []),(5,.ptr (b0+1) 0 0),(68,.ptr b0 0 0)]) (fun x=>[(b0,kQ r x),(b0+1,bK true (b0+1) (.own (b0+2) 0 (P+x))),(b0+2,rK (pre++(r.take x).map cH))]) (0) [some (b0+720),some (b0+1),some (b0+560)] ?_ ?_ ?_ ?_;rotate_left 1;(focus (show b0<=_;omega));(focus (refine⟨?_,?_⟩<;>(try simp only[aX,fT,ei,Ds,uD,gf,dL,List.take_zero,Lo,List.append_nil,Nat.add_zero,ai,seval,ah,ap])<;>(try omega)));rotate_left 1)
        · exact⟨Nat.zero_le _,by rw[List.drop_zero];exact hd2⟩
        · rintro x ⟨g1,g2⟩
          by_cases gx:x<r.length
          · obtain⟨z',gz,gm,ge,gk1,gk2,gd2,gk3⟩:=wP gx g2
            have gfe:=Ek z' gm
            have gtf:=wU gm ge
            have gfm:=zS gm
            obtain⟨w,hw⟩:∃ w,w=gq z':=⟨_,rfl⟩
            rw[<- hw]at gfe gtf gfm
            have gwr:=fF gfm
            have gw0:decide (0<=w)=true:=bR
            have glo:(pre++(r.take x).map cH).length=P+x:=by rw[List.length_append,Lm,List.length_take,hlo];omega
            have gnx:pre++(r.take x).map cH++encodeRune w=pre++(r.take (x+(bn r x).2)).map cH:=by rw[gtf,List.append_assoc]
            have gkk:(bn r x).2=(encodeRune w).length:=by rw[gk3,hw,<- tR gm,Lm]
            rw[gkk]at gnx gd2 gk2 gk1
            by_cases g128:w<128
            · have gd:decide (w<128)=true:=decide_eq_true g128
              have gen:=EE (z:=w) (by omega) g128
              have gu:IntKind.u8.wrap w=((w.toNat.toUInt8).toNat:Int):=JN (by omega) g128
              have gl1:(encodeRune w).length=1:=by rw[gen];rfl
              rw[gl1]at gnx gd2 gk2 gkk
              rw[gen]at gnx
              have hwb:=fun (M':am) (n':Nat) (a:M' (b0+1)=some (bK true (b0+1) (.own (b0+2) 0 (pre++(r.take x).map cH).length))) (b:M' (b0+2)=some (rK (pre++(r.take x).map cH))) (d:∀ z,(M' z).isSome=true->z∈[b0+1,b0+2]) (hn1:b0+1<n') (hn2:b0+2<n')=>w7 true (b0+1) (b0+2) (pre++(r.take x).map cH) w.toNat.toUInt8 (by unfold bc;omega) M' n' (by omega) a b d hn1 hn2
              simp only[glo,gnx,<- gu]at hwb
              repeat' first|simp only[ak,ag,zF,al,gx,g1,gz,gw0,gd,gkk,ai,seval,ah]|exact rfl|refine aa (v:=.any) ?_|(first|(refine ae ?_ (gfe _) ?_)|(refine ab ?_ (fun _=>gfe _) ?_))|(refine ac ?_ [b0+1,b0+2] (hwb _ _ ?_ ?_ aj (by omega) (by omega)) ?_ ?_)|(refine iB (s:=?_) (y:=?_) (p:=?_) ?_ ?_ ?_ ?_;rotate_left 3;(iterate 2 (focus (simp only[zF,al,gx,g1,gz,gw0,gd,gkk,ai,seval,ah]<;>exact rfl)));(focus (simp only[zF,al,gx,g1,gz,gw0,gd,gkk,ai,seval,ah]<;>omega)))|(refine ba ?_)|(refine aU ?_)|((first|(refine aS (g:=?_) ?_ ?_)|(refine aM (g:=?_) ?_ ?_));rotate_left 1;(focus (simp only[zF,al,gx,g1,gz,gw0,gd,gkk,ai,seval,ah]<;>exact rfl)))|refine Ai (by omega) ?_
              all_goals (first|omega|skip)
              all_goals ((refine aC bM (x+1) [some b0,some (b0+1),some (b0+240)] ?_ ?_ ?_ ?_;rotate_left 2;(focus (show b0<=_;omega));(focus (refine⟨?_,?_⟩<;>(try simp only[aX,fT,ei,Ds,uD,gf,dL,gkk,Nat.add_assoc,ai,seval,ah,ap])<;>(try omega)))))
              all_goals (first|(show r.length-(x+1)<r.length-x;omega)|exact⟨gk2,gd2⟩|skip)
            · have gd:decide (w<128)=false:=decide_eq_false g128
              have hwb:=fun (M':am) (n':Nat) (a:M' (b0+1)=some (bK true (b0+1) (.own (b0+2) 0 (pre++(r.take x).map cH).length))) (b:M' (b0+2)=some (rK (pre++(r.take x).map cH))) (d:∀ z,(M' z).isSome=true->z∈[b0+1,b0+2]) (hn1:b0+1<n') (hn2:b0+2<n')=>Bi w gfm (b0+1) (b0+2) (pre++(r.take x).map cH) (by omega) M' n' (by omega) a b d hn1 hn2
              simp only[glo,gnx]at hwb
              repeat' first|simp only[ak,ag,zF,al,gx,g1,gz,gw0,gd,gkk,ai,seval,ah]|exact rfl|refine aa (v:=.any) ?_|(first|(refine ae ?_ (gfe _) ?_)|(refine ab ?_ (fun _=>gfe _) ?_))|(refine ac ?_ [b0+1,b0+2] (hwb _ _ ?_ ?_ aj (by omega) (by omega)) ?_ ?_)|(refine iB (s:=?_) (y:=?_) (p:=?_) ?_ ?_ ?_ ?_;rotate_left 3;(iterate 2 (focus (simp only[zF,al,gx,g1,gz,gw0,gd,gkk,ai,seval,ah]<;>exact rfl)));(focus (simp only[zF,al,gx,g1,gz,gw0,gd,gkk,ai,seval,ah]<;>omega)))|(refine ba ?_)|(refine aU ?_)|((first|(refine aS (g:=?_) ?_ ?_)|(refine aM (g:=?_) ?_ ?_));rotate_left 1;(focus (simp only[zF,al,gx,g1,gz,gw0,gd,gkk,ai,seval,ah]<;>exact rfl)))|refine Ai (by omega) ?_
              all_goals (first|omega|skip)
              all_goals ((refine aC bM (x+(encodeRune w).length) [some b0,some (b0+1),some (b0+224)] ?_ ?_ ?_ ?_;rotate_left 2;(focus (show b0<=_;omega));(focus (refine⟨?_,?_⟩<;>(try simp only[aX,fT,ei,Ds,uD,gf,dL,gkk,Nat.add_assoc,ai,seval,ah,ap])<;>(try omega)))))
              all_goals (first|(show r.length-(x+(encodeRune w).length)<r.length-x;omega)|exact⟨gk2,gd2⟩|skip)
          · have gxe:x=r.length:=by omega
            have gtk:(r.take x)=r:=by rw[gxe,List.take_length]
            have glo:(pre++r.map cH).length=P+x:=by rw[List.length_append,Lm,hlo,gxe]
            rw[gtk]
            have hbs:=fun (M':am) (n':Nat) (a:M' (b0+1)=some (bK true (b0+1) (.own (b0+2) 0 (pre++r.map cH).length))) (b:M' (b0+2)=some (rK (pre++r.map cH))) (d:∀ z,(M' z).isSome=true->z∈[b0+1,b0+2]) (hn1:b0+1<n') (hn2:b0+2<n')=>zf true (b0+1) (b0+2) (pre++r.map cH) (by intro h;rw[h]at glo;simp at glo;omega) (by unfold bc;omega) M' n' (by omega) a b d hn1 hn2
            simp only[glo]at hbs
            (repeat' first|simp only[ak,ag,zF,al,gx,ai,seval,ah]|exact rfl|refine aa (v:=.any) ?_|(refine ac ?_ [b0+1,b0+2] (hbs _ _ ?_ ?_ aj (by omega) (by omega)) ?_ ?_)|(refine pJ (s:=?_) (y:=?_) (p:=?_) ?_ ?_ ?_ ?_;rotate_left 3;(iterate 2 (focus (simp only[zF,al,gx,ai,seval,ah]<;>exact rfl)));(focus (simp only[zF,al,gx,ai,seval,ah]<;>omega)))|(refine ba ?_)|(refine aU ?_)|((first|(refine aS (g:=?_) ?_ ?_)|(refine aM (g:=?_) ?_ ?_));rotate_left 1;(focus (simp only[zF,al,gx,ai,seval,ah]<;>exact rfl)))|((first|apply Ca|apply Cb)<;>intro hb)|refine Ai (by omega) ?_|(apply Ai<;>intro hb)|refine Fin.pure ?_ ?_ ?_|simp only[ap])
    · have hpe:p=s.length:=by omega
      have hr:=vM h3 hpe
      have hd0:decide ((0:Int)=0)=true:=rfl
      rw[hr]
      (repeat' first|simp only[ak,ag,zF,al,hp,cV,ai,seval,ah]|exact rfl|refine aa (v:=.any) ?_|(refine ac ?_ [b0+1] (Ik false (b0+1) _ _ ?_ aj (by omega)) ?_ ?_)|(refine pJ (s:=?_) (y:=?_) (p:=?_) ?_ ?_ ?_ ?_;rotate_left 3;(iterate 2 (focus (simp only[zF,al,hp,cV,ai,seval,ah]<;>exact rfl)));(focus (simp only[zF,al,hp,cV,ai,seval,ah]<;>omega)))|(refine ba ?_)|(refine aU ?_)|((first|(refine aS (g:=?_) ?_ ?_)|(refine aM (g:=?_) ?_ ?_));rotate_left 1;(focus (simp only[zF,al,hp,cV,ai,seval,ah]<;>exact rfl)))|((first|apply Ca|apply Cb)<;>intro hb)|refine Ai (by omega) ?_|(apply Ai<;>intro hb)|refine Fin.pure ?_ ?_ ?_|simp only[ap])
end Go.Proofs.YtlnlopnpcmahgaaGreatDoor
