/-
 Texts joined: XOi.
-/
import Derived.Test.YtlnlopnpcmahgaaGreatDoorR3
import Derived.Test.YtlnlopnpcmahgaaGreatDoorQt
set_option linter.all false
namespace Go.Proofs.YtlnlopnpcmahgaaGreatDoor
set_option maxRecDepth 100000
set_option maxHeartbeats 32000000
open Go Go.RowKit Vm Go.Lib Tryz
open Vm renaming aW->Ca,bf->Cb
open And renaming intro->Ai
open List renaming length_map->Lm,not_mem_nil->Ln,map_nil->Lo,map_cons->Lc,mem_cons->Lk
open Bool renaming not_false->Bf,not_true->Bt
def Sl:zeroOf cx.P 156=some (.agg #[.string ⟨#[]⟩]):=by kernel_rfl
def SP (p:List UInt8):gJ cx.P 9 (.str p)=true:=by kernel_rfl
section
variable {Q:Post} {st:List Frm} {nm:Nat} {e:Env} {M:am} {d:Bool} {fs:List (List Nat)} {ops r:List Oper} {dst:Option Tmp} {t:TypeId} {pos:String} {af:Array Edge} {gd:Option (Nat×Bool)} {i:Nat}
def ww {m k:Operand}(y:Nat)(K:kw){p:List UInt8}(hm:aw cx.G true e m = .mp y)(hM:M y=some (eT (rS K)))(hk:aw cx.G true e k = .str p)
  (h:aK cx Q st nm (e.putD dst (.tup [.agg [.str ((eL p K).getD [])],.bool (eL p K).isSome])) M d (fs++[[y]]) ops r (i+1)):cp cx Q st nm e M d fs ops ⟨dst,.lookup 153 m k true,t,pos,af,gd⟩ r i:=by
 refine jC hm hM hk Sb (SP p) rfl Sl (xM p K) (fun v hv=>?_) ?_
 ·obtain⟨x,_,rfl⟩:=Option.map_eq_some_iff.1 hv;rfl
 ·rw[cZ,Option.isSome_map]
  cases hg:eL p K with
  | none=>rw[hg]at h;exact h
  | some v=>rw[hg]at h;exact h
def HO {m k x:Operand}(y:Nat)(K:kw){p v:List UInt8}(hm:aw cx.G true e m = .mp y)(hM:M y=some (eT (rS K)))(hk:aw cx.G true e k = .str p)(hx:aw cx.G true e x = .agg [.str v])
  (h:aK cx Q st nm (e.putD dst .any) (M.app [(y,some (eT (rS (so p v K))))]) d (fs++[[y]]) ops r (i+1)):cp cx Q st nm e M d fs ops ⟨dst,.mapUpdate 153 m k x,t,pos,af,gd⟩ r i:=by
 refine Ci hm hM hk hx Sb (SP p) rfl rfl (xM p K) ?_
 rw[KS];exact h
end
def y5 {M:am}{q:Nat}{k:Blk}(h:M q=some k)(eff:List (Nat×Option Blk)):M.app ((q,some k)::eff)=M.app eff:=by
 have:M.put q (some k)=M:=by
  funext x
  by_cases e:x=q
  ·subst e;rw[am.put_same,h]
  ·rw[am.put_ne _ _ e]
 show(M.put q (some k)).app eff=_
 rw[this]
def Kv {K:kw}{r:Bool}{l:List At}{k:Nat}{a:At}(h:l[k]? = some a):Br K r (l.take (k+1))=C2 K (Br K r (l.take k)) a:=by
 obtain⟨hk,rfl⟩:=List.getElem?_eq_some_iff.1 h
 unfold Br
 rw[List.take_succ_eq_append_getElem hk,List.foldl_append];rfl
def yj (K:kw):∀(l:List At) (s:List At×Bool),(l.foldl (C2 K) s).1.length<=s.1.length+l.length
 | [],s=>by simp
 | a::l,s=>by
  have h1:=yj K l (C2 K s a)
  have h2:(C2 K s a).1.length<=s.1.length+1:=by
   unfold C2
   cases fp a.name with
   | some p=>simp only;omega
   | none=>simp
  simp only[List.foldl_cons,List.length_cons]
  omega
def GN (n:Nd)(K:kw)(hn:n.okTo 1000000)(ha16:n.attrs.length<=1000)(q:Nat)(M:am)(nm:Nat)(hM:M q=some (eT (rS K)))(ho:∀ z,(M z).isSome=true->z∈[q])(hlt:q<nm) :
  Ev cx 110 nm [.agg (aV n),.mp q] M (.tup [.agg [.int .u8 n.kind,.str (kU K n).1.space,.str (kU K n).1.name,.own nm 0 (kU K n).1.attrs.length,.str [],.int .i64 n.many],.bool (kU K n).2]) [(q,some (eT (rS K))),(nm,some ⟨3,(kU K n).1.attrs.map b9⟩)]:=by
 have hsp:=fun nm=>A0 n.name (by have:=hn.2.2.1;unfold bc;omega) nm
 have g1:(nm=q)=False:=eq_false (by omega)
 unfold kU
 generalize hP:dO n.name=P at hsp ⊢
 simp only
 generalize hR0:(eL P.1 K).isSome=r0
 refine bh call110 func110 rfl (by kernel_rfl) rfl ?_;intro b0 hb0;have zF:=Ai results110 ntmps110
 have k1:=aB hb0 hM
 have z0:=aD k1
 repeat' first|simp only[ak,ag,zF,al,aV,hM,hR0,z0,aq,Lm,ai,seval,ah]|exact rfl|refine aa (v:=.any) ?_|(first|(refine ae ?_ (hsp _) ?_)|(refine ab ?_ (fun _=>hsp _) ?_))|(refine ww q K (p:=?_) ?_ ?_ ?_ ?_;rotate_left 1;iterate 3 (focus (simp only[zF,al,aV,hM,hR0,z0,aq,Lm,ai,seval,ah]<;>exact rfl)))|((first|apply Ca|apply Cb)<;>intro hb)|refine Ai (by omega) ?_|(apply Ai<;>intro hb)
 have hz0:(Br K r0 [])=([],r0):=rfl
 (refine aQ bM (fun x:Nat=>n.attrs.length-x) (fun x=>x<=n.attrs.length) (b0+16) (fun x=>[(1,.mp q),(4,.ptr b0 0 0),(5,.bool (Br K r0 (n.attrs.take x)).2),(38,.sl false 3 (n.attrs.map b9)),(39,.int .i64 n.attrs.length),(40,.int .i64 x)]) (fun x=>[(b0,⟨6,[[.int .u8 n.kind,.str ((eL P.1 K).getD []),.str P.2,.own (b0+1) 0 (Br K r0 (n.attrs.take x)).1.length,.str [],.int .i64 n.many]]⟩),(b0+1,⟨3,(Br K r0 (n.attrs.take x)).1.map b9⟩),(q,eT (rS K))]) (0) [some (b0+16),none,some q] ?_ ?_ ?_ ?_;rotate_left 1;(focus (show b0<=_;omega));(focus (refine⟨?_,?_⟩<;>(try simp only[aX,hz0,hM,z0,b9,aq,cC,bv,aJ,List.take_zero,Lo,List.length_nil,Lm,ai,seval,ah,ap])<;>(try omega)));rotate_left 1)
 ·exact Nat.zero_le _
 ·intro k hk
  by_cases hlt:k<n.attrs.length
  ·obtain⟨a,ha⟩:∃ a,n.attrs[k]? = some a:=⟨_,List.getElem?_eq_getElem hlt⟩
   have hat:=vS ha
   have hok:=hn.2.2.2.2 a (List.mem_of_getElem? ha)
   have d1:decide ((k:Int)<(n.attrs.length:Int))=true:=bR
   have d2:decide (k<n.attrs.length)=true:=decide_eq_true hlt
   have hwk:IntKind.i64.wrap ((k:Int)+1)=((k+1:Nat):Int):=bd
   have hlen:(Br K r0 (n.attrs.take k)).1.length<=1000:=by
    have:=yj K (n.attrs.take k) ([],r0)
    unfold Br;simp only[List.length_nil,List.length_take]at this;omega
   have hst:=Kv (K:=K) (r:=r0) ha
   have hde:=fun nm=>rN a (by have:=hok.2.1;unfold bc;omega) nm
   rw[zw]at hde
   unfold b9 at hde
   generalize hA:Br K r0 (n.attrs.take k)=acc at hst hlen
   obtain⟨acc,rk⟩:=acc
   dsimp only at hlen
   have htk:(acc.map b9).take acc.length=acc.map b9:=bz _ _
   unfold C2 at hst
   cases hd:fp a.name with
   | some p =>
    rw[hd]at hst hde
    repeat' first|simp only[ak,ag,zF,al,hat,b9,hlt,d1,d2,hwk,htk,hA,z0,Option.isSome_some,Bt,Bf,aq,Lm,ai,seval,ah]|exact rfl|refine aa (v:=.any) ?_|(first|(refine ae ?_ (hde _) ?_)|(refine ab ?_ (fun _=>hde _) ?_))|((first|apply Ca|apply Cb)<;>intro hb)|refine Ai (by omega) ?_|(apply Ai<;>intro hb)
    all_goals ((refine aC bM (k+1) [some b0,some (b0+1),some q] ?_ ?_ ?_ ?_;rotate_left 2;(focus (show b0<=_;omega));(focus (refine⟨?_,?_⟩<;>(try simp only[aX,hst,hA,hwk,z0,aq,cC,bv,Lm,ai,seval,ah,ap])<;>(try omega)))))
    all_goals (first|(show n.attrs.length-(k+1)<n.attrs.length-k;omega)|exact hlt|skip)
   | none =>
    rw[hd]at hst hde
    simp only at hst
    have hcn:=fun nm=>zo a.name 58 nm
    cases hc:a.name.contains 58 with
    | false =>
     have hx:nk K a=⟨[],a.name,a.value⟩:=by unfold nk;rw[hc];rfl
     have hh:rR K a=true:=by unfold rR;rw[hc];rfl
     rw[hx,hh,Bool.and_true]at hst
     have hco:=fun nm=>eg acc 157 [.rp (b9 ⟨[],a.name,a.value⟩)] (fun y=>l6 y ⟨[],a.name,a.value⟩) (fun y _ nm=>wB y _ nm) (by unfold bc;omega) rfl nm
     have hsn:=pv acc ⟨[],a.name,a.value⟩
     rw[hc]at hcn
     generalize (acc.any fun y=>l6 y ⟨[],a.name,a.value⟩)=tw at hst hco
     unfold b9 at hco
     repeat' first|simp only[ak,ag,zF,al,hat,b9,hlt,d1,d2,hwk,htk,hA,hsn,z0,Option.isSome_none,Bt,Bf,aq,Lm,ai,seval,ah]|exact rfl|refine aa (v:=.any) ?_|(first|(refine ae ?_ (hde _) ?_)|(refine ab ?_ (fun _=>hde _) ?_)|(refine ae ?_ (hcn _) ?_)|(refine ab ?_ (fun _=>hcn _) ?_))|((refine bo (xs:=?_) [b0+1,b0+304] ?_ ?_ ?_ rfl (hco _) ?_);rotate_left 1)|omega|((first|apply Ca|apply Cb)<;>intro hb)|refine Ai (by omega) ?_|(apply Ai<;>intro hb)
     all_goals ((refine aC bM (k+1) [some b0,some (b0+624),some q] ?_ ?_ ?_ ?_;rotate_left 2;(focus (show b0<=_;omega));(focus (refine⟨?_,?_⟩<;>(try simp only[aX,hst,hA,hwk,z0,aq,cC,bv,List.length_append,List.length_cons,List.length_nil,Lm,ai,seval,ah,ap])<;>(try omega)))))
     all_goals (first|(show n.attrs.length-(k+1)<n.attrs.length-k;omega)|exact hlt|skip)
    | true =>
     have hs2:=fun nm=>A0 a.name (by have:=hok.2.1;unfold bc;omega) nm
     have hx:nk K a=⟨(eL (dO a.name).1 K).getD [],(dO a.name).2,a.value⟩:=by unfold nk;rw[hc];rfl
     have hh:rR K a=(eL (dO a.name).1 K).isSome:=by unfold rR;rw[hc];rfl
     rw[hx,hh]at hst
     generalize dO a.name=S2 at hst hs2
     have hco:=fun nm=>eg acc 157 [.rp (b9 ⟨(eL S2.1 K).getD [],S2.2,a.value⟩)] (fun y=>l6 y ⟨(eL S2.1 K).getD [],S2.2,a.value⟩) (fun y _ nm=>wB y _ nm) (by unfold bc;omega) rfl nm
     have hsn:=pv acc ⟨(eL S2.1 K).getD [],S2.2,a.value⟩
     rw[hc]at hcn
     generalize (acc.any fun y=>l6 y ⟨(eL S2.1 K).getD [],S2.2,a.value⟩)=tw at hst hco
     generalize hG2:(eL S2.1 K).isSome=g2 at hst
     unfold b9 at hco
     repeat' first|simp only[ak,ag,zF,al,hat,b9,hlt,d1,d2,hwk,htk,hA,hsn,hG2,z0,Option.isSome_none,Bt,Bf,aq,Lm,ai,seval,ah]|exact rfl|refine aa (v:=.any) ?_|(first|(refine ae ?_ (hde _) ?_)|(refine ab ?_ (fun _=>hde _) ?_)|(refine ae ?_ (hcn _) ?_)|(refine ab ?_ (fun _=>hcn _) ?_)|(refine ae ?_ (hs2 _) ?_)|(refine ab ?_ (fun _=>hs2 _) ?_))|((refine bo (xs:=?_) [b0+1,b0+304] ?_ ?_ ?_ rfl (hco _) ?_);rotate_left 1)|(refine ww q K (p:=?_) ?_ ?_ ?_ ?_;rotate_left 1;iterate 3 (focus (simp only[zF,al,hat,b9,hlt,d1,d2,hwk,htk,hA,hsn,hG2,z0,Option.isSome_none,Bt,Bf,aq,Lm,ai,seval,ah]<;>exact rfl)))|omega|((first|apply Ca|apply Cb)<;>intro hb)|refine Ai (by omega) ?_|(apply Ai<;>intro hb)
     all_goals ((refine aC bM (k+1) [some b0,some (b0+1056),some q] ?_ ?_ ?_ ?_;rotate_left 2;(focus (show b0<=_;omega));(focus (refine⟨?_,?_⟩<;>(try simp only[aX,hst,hA,hwk,z0,aq,cC,bv,List.length_append,List.length_cons,List.length_nil,Lm,ai,seval,ah,ap])<;>(try omega)))))
     all_goals (first|(show n.attrs.length-(k+1)<n.attrs.length-k;omega)|exact hlt|skip)
  ·have hke:k=n.attrs.length:=by omega
   subst hke
   have d1:decide ((n.attrs.length:Int)<(n.attrs.length:Int))=false:=bm
   have d2:decide (n.attrs.length<n.attrs.length)=false:=bm
   have htk:=kG (Br K r0 n.attrs).1
   repeat' first|simp only[ak,ag,zF,al,d1,d2,htk,z0,List.take_length,aq,Lm,ai,seval,ah]|exact rfl|refine aa (v:=.any) ?_|((first|apply Ca|apply Cb)<;>intro hb)|refine Ai (by omega) ?_|(apply Ai<;>intro hb)
   all_goals ((refine Fin.give [(q,none),(b0+1,some 0)] [] ?_ ?_ ?_ ?_ ?_ (aL ho (by simp[aP,tgt]))<;>(try simp only[zF,al,hM,g1,z0,cC,bv,aq,Lm,dx,ai,seval,ah])<;>(try simp only[ap])<;>(try omega)))
def Qw (n:Nd)(K:kw)(hn:n.okTo 1000000)(ha16:n.attrs.length<=1000)(q:Nat)(M:am)(nm:Nat)(hM:M q=some (eT (rS K)))(ho:∀ z,(M z).isSome=true->z∈[q])(hlt:q<nm) :
  Ev cx 110 nm [.agg (aV n),.mp q] M (.tup [.agg (aV (kU K n).1),.bool (kU K n).2]) []:=by
 have h:=(GN n K hn ha16 q M nm hM ho hlt).eff_eq (eff':=[(nm,some ⟨3,(kU K n).1.attrs.map b9⟩)]) (y5 hM _)
 have hMn:M nm=none:=by
  cases h:M nm with
  | none=>rfl
  | some k=>have:=ho nm (by rw[h];rfl);simp at this;omega
 have hpl:=aq (kU K n).1.attrs
 have htk:=kG (kU K n).1.attrs
 refine h.freezeM (fun x hx=>?_) (fun x hx k hk=>?_) ?_ ?_ ?_
 ·simp only[ao,Lc,Lo,List.mem_singleton]at hx
  subst hx;exact hMn
 ·rw[List.mem_singleton]at hx;subst hx
  simp only[Option.some.injEq]at hk;subst hk
  exact Co _ (fun _=>rfl) _
 ·simp only[V.flatO,flatOL,ao,Lc,Lo,List.mem_singleton,and_self]
  exact⟨⟨rfl,rfl,rfl,trivial,rfl,rfl,trivial⟩,rfl,trivial⟩
 ·simp only[ak,ag,al,hpl,htk,Lm,ai,seval,ah]<;>omega
 ·simp only[ak,ag,al,aV,hpl,htk,Lm,ai,seval,ah] 
  exact⟨rfl,rfl,rfl⟩
def CW (y:Nat)(K:kw)(M:am)(nm:Nat)(hM:M y=some (eT (rS K)))(ho:∀ z,(M z).isSome=true->z∈[y])(hlt:y<nm):Ev cx 107 nm [.mp y] M (.mp nm) [(nm,some (eT (rS K)))] :=
 (GC y K M nm hM ho hlt).eff_eq (y5 hM _)
end Go.Proofs.YtlnlopnpcmahgaaGreatDoor
