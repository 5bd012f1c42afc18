/-
 Texts joined: XOi.
-/
import Derived.Test.YtcllbjanalhjgaaGreatDoorR3
import Derived.Test.YtcllbjanalhjgaaGreatDoorQt
namespace Go.Proofs.YtcllbjanalhjgaaGreatDoor
set_option maxRecDepth 100000
set_option maxHeartbeats 32000000
set_option linter.unusedSimpArgs false
set_option linter.unusedVariables false
open Go Go.RowKit Vm Go.Lib Tryz
open Vm renaming be→Ca,bo→Cb
open And renaming intro→Ai
open List renaming length_map→Lm,not_mem_nil→Ln,map_nil→Lo,map_cons→Lc,mem_cons→Lk
open Bool renaming not_false→Bf,not_true→Bt
theorem Nt:zeroOf cx.P 52=some (.agg #[.string ⟨#[]⟩]):=by kernel_rfl
theorem NV (p:List UInt8):gB cx.P 9 (.str p)=true:=by kernel_rfl
section
variable {Q:Post} {st:List Frm} {nm:Nat} {e:Env} {M:ao} {d:Bool} {fs:List (List Nat)} {ops r:List Oper} {dst:Option Tmp} {t:TypeId} {pos:String} {af:Array Edge} {gd:Option (Nat×Bool)} {i:Nat}
theorem uy {m k:Operand}(y:Nat)(K:kS){p:List UInt8}(hm:aA cx.G true e m = .mp y)(hM:M y=some (eK (pN K)))(hk:aA cx.G true e k = .str p)
  (h:aC cx Q st nm (e.putD dst (.tup [.agg [.str ((fx p K).getD [])],.bool (fx p K).isSome])) M d (fs++[[y]]) ops r (i+1)):bJ cx Q st nm e M d fs ops ⟨dst,.lookup 49 m k true,t,pos,af,gd⟩ r i:=by
 refine mQ hm hM hk Nk (NV p) rfl Nt (vu p K) (fun v hv=>?_) ?_
 ·obtain⟨x,_,rfl⟩:=Option.map_eq_some_iff.1 hv;rfl
 ·rw[eW,Option.isSome_map]
  cases hg:fx p K with
  | none=>rw[hg]at h;exact h
  | some v=>rw[hg]at h;exact h
theorem ED {m k x:Operand}(y:Nat)(K:kS){p v:List UInt8}(hm:aA cx.G true e m = .mp y)(hM:M y=some (eK (pN K)))(hk:aA cx.G true e k = .str p)(hx:aA cx.G true e x = .agg [.str v])
  (h:aC cx Q st nm (e.putD dst .any) (M.app [(y,some (eK (pN (we p v K))))]) d (fs++[[y]]) ops r (i+1)):bJ cx Q st nm e M d fs ops ⟨dst,.mapUpdate 49 m k x,t,pos,af,gd⟩ r i:=by
 refine zI hm hM hk hx Nk (NV p) rfl rfl (vu p K) ?_
 rw[GN];exact h
end
theorem wM {M:ao}{q:Nat}{k:Blk}(h:M q=some k)(eff:List (Nat×Option Blk)):M.app ((q,some k)::eff)=M.app eff:=by
 have:M.put q (some k)=M:=by
  funext x
  by_cases e:x=q
  ·subst e;rw[ao.put_same,h]
  ·rw[ao.put_ne _ _ e]
 show(M.put q (some k)).app eff=_
 rw[this]
theorem Gx {K:kS}{r:Bool}{l:List At}{k:Nat}{a:At}(h:l[k]? = some a):As K r (l.take (k+1))=HC K (As K r (l.take k)) a:=by
 obtain⟨hk,rfl⟩:=List.getElem?_eq_some_iff.1 h
 unfold As
 rw[List.take_succ_eq_append_getElem hk,List.foldl_append];rfl
theorem v6 (K:kS):∀(l:List At) (s:List At×Bool),(l.foldl (HC K) s).1.length≤s.1.length+l.length
 | [],s=>by simp
 | a::l,s=>by
  have h1:=v6 K l (HC K s a)
  have h2:(HC K s a).1.length≤s.1.length+1:=by
   unfold HC
   cases fV a.name with
   | some p=>simp only;omega
   | none=>simp
  simp only[List.foldl_cons,List.length_cons]
  omega
theorem DI (n:Nd)(K:kS)(hn:n.okTo 1000000)(ha16:n.attrs.length≤1000)(q:Nat)(M:ao)(nm:Nat)(hM:M q=some (eK (pN K)))(ho:∀ z,(M z).isSome=true→z∈[q])(hlt:q<nm) :
  Ev cx 26 nm [.agg (bc n),.mp q] M (.tup [.agg [.int .u8 n.kind,.str (ko K n).1.space,.str (ko K n).1.name,.own nm 0 (ko K n).1.attrs.length,.str [],.int .i64 n.many],.bool (ko K n).2]) [(q,some (eK (pN K))),(nm,some ⟨3,(ko K n).1.attrs.map bG⟩)]:=by
 have hsp:=fun nm=>yF n.name (by have:=hn.2.2.1;unfold bk;omega) nm
 have g1:(nm=q)=False:=eq_false (by omega)
 unfold ko
 generalize hP:dA n.name=P at hsp ⊢
 simp only
 generalize hR0:(fx P.1 K).isSome=r0
 refine ay rfl (fun cargs w=>call26 cargs w) func26 rfl mixed (by kernel_rfl) rfl ?_;intro b0 hb0
 have k1:q<b0:=av hb0 (by rw[hM];rfl)
 have z0:=aS k1;have z1:=aq k1;have z2:=aI k1;have z3:=aj k1
 repeat' first|simp only[am,ah,results26,ntmps26,ap,bc,hM,hR0,z0,z1,z2,z3,aw,Lm,ag,seval,ae]|exact rfl|refine aa (v:=.any) ?_|(first|(refine ac ?_ (hsp _) ?_)|(refine ab ?_ (fun _=>hsp _) ?_))|(refine uy q K (p:=?_) ?_ ?_ ?_ ?_;rotate_left 1;iterate 3 (focus (simp only[results26,ntmps26,ap,bc,hM,hR0,z0,z1,z2,z3,aw,Lm,ag,seval,ae]<;>exact rfl)))|((first|apply Ca|apply Cb)<;>intro hb)|refine Ai (by omega) ?_|(apply Ai<;>intro hb)
 have hz0:(As K r0 [])=([],r0):=rfl
 (refine aV cm (fun x:Nat=>n.attrs.length-x) (fun x=>x≤n.attrs.length) (b0+16) (fun x=>[(1,.mp q),(4,.ptr b0 0 0),(5,.bool (As K r0 (n.attrs.take x)).2),(38,.sl false 3 (n.attrs.map bG)),(39,.int .i64 n.attrs.length),(40,.int .i64 x)]) (fun x=>[(b0,⟨6,[[.int .u8 n.kind,.str ((fx P.1 K).getD []),.str P.2,.own (b0+1) 0 (As K r0 (n.attrs.take x)).1.length,.str [],.int .i64 n.many]]⟩),(b0+1,⟨3,(As K r0 (n.attrs.take x)).1.map bG⟩),(q,eK (pN K))]) (0) [some (b0+16),none,some q] ?_ ?_ ?_ ?_;rotate_left 1;(focus (show b0≤_;omega));(focus (refine⟨?_,?_⟩<;>(try simp only[bj,hz0,hM,z0,z1,z2,z3,bG,aw,cW,bN,aU,List.take_zero,Lo,List.length_nil,Lm,ag,seval,ae,au])<;>(try omega)));rotate_left 1)
 ·exact Nat.zero_le _
 ·intro k hk
  by_cases hlt:k<n.attrs.length
  ·obtain⟨a,ha⟩:∃ a,n.attrs[k]? = some a:=⟨_,List.getElem?_eq_getElem hlt⟩
   have hat:=pE ha
   have hok:=hn.2.2.2.2 a (List.mem_of_getElem? ha)
   have d1:decide ((k:Int)<(n.attrs.length:Int))=true:=decide_eq_true (by omega)
   have d2:decide (k<n.attrs.length)=true:=decide_eq_true hlt
   have hwk:IntKind.i64.wrap ((k:Int)+1)=((k+1:Nat):Int):=aR (by omega) (by omega)
   have hlen:(As K r0 (n.attrs.take k)).1.length≤1000:=by
    have:=v6 K (n.attrs.take k) ([],r0)
    unfold As;simp only[List.length_nil,List.length_take]at this;omega
   have hst:=Gx (K:=K) (r:=r0) ha
   have hde:=fun nm=>pH a (by have:=hok.2.1;unfold bk;omega) nm
   rw[wX]at hde
   unfold bG at hde
   generalize hA:As K r0 (n.attrs.take k)=acc at hst hlen
   obtain⟨acc,rk⟩:=acc
   dsimp only at hlen
   have htk:(acc.map bG).take acc.length=acc.map bG:=cY _ _
   unfold HC at hst
   cases hd:fV a.name with
   | some p =>
    rw[hd]at hst hde
    repeat' first|simp only[am,ah,results26,ntmps26,ap,hat,bG,hlt,d1,d2,hwk,htk,hA,z0,z1,z2,z3,Option.isSome_some,Bt,Bf,aw,Lm,ag,seval,ae]|exact rfl|refine aa (v:=.any) ?_|(first|(refine ac ?_ (hde _) ?_)|(refine ab ?_ (fun _=>hde _) ?_))|((first|apply Ca|apply Cb)<;>intro hb)|refine Ai (by omega) ?_|(apply Ai<;>intro hb)
    all_goals ((refine aJ cm (k+1) [some b0,some (b0+1),some q] ?_ ?_ ?_ ?_;rotate_left 2;(focus (show b0≤_;omega));(focus (refine⟨?_,?_⟩<;>(try simp only[bj,hst,hA,hwk,z0,z1,z2,z3,aw,cW,bN,Lm,ag,seval,ae,au])<;>(try omega)))))
    all_goals (first|(show n.attrs.length-(k+1)<n.attrs.length-k;omega)|exact hlt|skip)
   | none =>
    rw[hd]at hst hde
    simp only at hst
    have hcn:=fun nm=>wT a.name 58 nm
    cases hc:a.name.contains 58 with
    | false =>
     have hx:pS K a=⟨[],a.name,a.value⟩:=by unfold pS;rw[hc];rfl
     have hh:uk K a=true:=by unfold uk;rw[hc];rfl
     rw[hx,hh,Bool.and_true]at hst
     have hco:=fun nm=>fe acc 55 [.rp (bG ⟨[],a.name,a.value⟩)] (fun y=>lN y ⟨[],a.name,a.value⟩) (fun y _ nm=>uF y _ nm) (by unfold bk;omega) rfl nm
     have hsn:=nz acc ⟨[],a.name,a.value⟩
     rw[hc]at hcn
     generalize (acc.any fun y=>lN y ⟨[],a.name,a.value⟩)=tw at hst hco
     unfold bG at hco
     repeat' first|simp only[am,ah,results26,ntmps26,ap,hat,bG,hlt,d1,d2,hwk,htk,hA,hsn,z0,z1,z2,z3,Option.isSome_none,Bt,Bf,aw,Lm,ag,seval,ae]|exact rfl|refine aa (v:=.any) ?_|(first|(refine ac ?_ (hde _) ?_)|(refine ab ?_ (fun _=>hde _) ?_)|(refine ac ?_ (hcn _) ?_)|(refine ab ?_ (fun _=>hcn _) ?_))|((refine bn (xs:=?_) [b0+1,b0+304] ?_ ?_ ?_ rfl (hco _) ?_);rotate_left 1)|omega|((first|apply Ca|apply Cb)<;>intro hb)|refine Ai (by omega) ?_|(apply Ai<;>intro hb)
     all_goals ((refine aJ cm (k+1) [some b0,some (b0+624),some q] ?_ ?_ ?_ ?_;rotate_left 2;(focus (show b0≤_;omega));(focus (refine⟨?_,?_⟩<;>(try simp only[bj,hst,hA,hwk,z0,z1,z2,z3,aw,cW,bN,List.length_append,List.length_cons,List.length_nil,Lm,ag,seval,ae,au])<;>(try omega)))))
     all_goals (first|(show n.attrs.length-(k+1)<n.attrs.length-k;omega)|exact hlt|skip)
    | true =>
     have hs2:=fun nm=>yF a.name (by have:=hok.2.1;unfold bk;omega) nm
     have hx:pS K a=⟨(fx (dA a.name).1 K).getD [],(dA a.name).2,a.value⟩:=by unfold pS;rw[hc];rfl
     have hh:uk K a=(fx (dA a.name).1 K).isSome:=by unfold uk;rw[hc];rfl
     rw[hx,hh]at hst
     generalize dA a.name=S2 at hst hs2
     have hco:=fun nm=>fe acc 55 [.rp (bG ⟨(fx S2.1 K).getD [],S2.2,a.value⟩)] (fun y=>lN y ⟨(fx S2.1 K).getD [],S2.2,a.value⟩) (fun y _ nm=>uF y _ nm) (by unfold bk;omega) rfl nm
     have hsn:=nz acc ⟨(fx S2.1 K).getD [],S2.2,a.value⟩
     rw[hc]at hcn
     generalize (acc.any fun y=>lN y ⟨(fx S2.1 K).getD [],S2.2,a.value⟩)=tw at hst hco
     generalize hG2:(fx S2.1 K).isSome=g2 at hst
     unfold bG at hco
     repeat' first|simp only[am,ah,results26,ntmps26,ap,hat,bG,hlt,d1,d2,hwk,htk,hA,hsn,hG2,z0,z1,z2,z3,Option.isSome_none,Bt,Bf,aw,Lm,ag,seval,ae]|exact rfl|refine aa (v:=.any) ?_|(first|(refine ac ?_ (hde _) ?_)|(refine ab ?_ (fun _=>hde _) ?_)|(refine ac ?_ (hcn _) ?_)|(refine ab ?_ (fun _=>hcn _) ?_)|(refine ac ?_ (hs2 _) ?_)|(refine ab ?_ (fun _=>hs2 _) ?_))|((refine bn (xs:=?_) [b0+1,b0+304] ?_ ?_ ?_ rfl (hco _) ?_);rotate_left 1)|(refine uy q K (p:=?_) ?_ ?_ ?_ ?_;rotate_left 1;iterate 3 (focus (simp only[results26,ntmps26,ap,hat,bG,hlt,d1,d2,hwk,htk,hA,hsn,hG2,z0,z1,z2,z3,Option.isSome_none,Bt,Bf,aw,Lm,ag,seval,ae]<;>exact rfl)))|omega|((first|apply Ca|apply Cb)<;>intro hb)|refine Ai (by omega) ?_|(apply Ai<;>intro hb)
     all_goals ((refine aJ cm (k+1) [some b0,some (b0+1056),some q] ?_ ?_ ?_ ?_;rotate_left 2;(focus (show b0≤_;omega));(focus (refine⟨?_,?_⟩<;>(try simp only[bj,hst,hA,hwk,z0,z1,z2,z3,aw,cW,bN,List.length_append,List.length_cons,List.length_nil,Lm,ag,seval,ae,au])<;>(try omega)))))
     all_goals (first|(show n.attrs.length-(k+1)<n.attrs.length-k;omega)|exact hlt|skip)
  ·have hke:k=n.attrs.length:=by omega
   subst hke
   have d1:decide ((n.attrs.length:Int)<(n.attrs.length:Int))=false:=decide_eq_false (by omega)
   have d2:decide (n.attrs.length<n.attrs.length)=false:=decide_eq_false (by omega)
   have htk:=jx (As K r0 n.attrs).1
   repeat' first|simp only[am,ah,results26,ntmps26,ap,d1,d2,htk,z0,z1,z2,z3,List.take_length,aw,Lm,ag,seval,ae]|exact rfl|refine aa (v:=.any) ?_|((first|apply Ca|apply Cb)<;>intro hb)|refine Ai (by omega) ?_|(apply Ai<;>intro hb)
   all_goals ((refine Fin.give [(q,none),(b0+1,some 0)] [] ?_ ?_ ?_ ?_ ?_ (fun q hq=>by have hqq:=ho q hq;first|(simp only[aD,tgt,Lc,Lo,Lk,Ln,or_false]at hqq ⊢;omega)|(simp only[aD,tgt,Lc,Lo,Lk,Ln,or_false]at hqq))<;>(try simp only[results26,ntmps26,ap,hM,g1,z0,z1,z2,z3,cW,bN,aw,Lm,ec,ag,seval,ae])<;>(try simp only[au])<;>(try omega)))
theorem LO (n:Nd)(K:kS)(hn:n.okTo 1000000)(ha16:n.attrs.length≤1000)(q:Nat)(M:ao)(nm:Nat)(hM:M q=some (eK (pN K)))(ho:∀ z,(M z).isSome=true→z∈[q])(hlt:q<nm) :
  Ev cx 26 nm [.agg (bc n),.mp q] M (.tup [.agg (bc (ko K n).1),.bool (ko K n).2]) []:=by
 have h:=(DI n K hn ha16 q M nm hM ho hlt).eff_eq (eff':=[(nm,some ⟨3,(ko K n).1.attrs.map bG⟩)]) (wM hM _)
 have hMn:M nm=none:=by
  cases h:M nm with
  | none=>rfl
  | some k=>have:=ho nm (by rw[h];rfl);simp at this;omega
 have hpl:=aw (ko K n).1.attrs
 have htk:=jx (ko K n).1.attrs
 refine h.freezeM (fun x hx=>?_) (fun x hx k hk=>?_) ?_ ?_ ?_
 ·simp only[al,Lc,Lo,List.mem_singleton]at hx
  subst hx;exact hMn
 ·rw[List.mem_singleton]at hx;subst hx
  simp only[Option.some.injEq]at hk;subst hk
  exact zM _ (fun _=>rfl) _
 ·simp only[V.flatO,flatOL,al,Lc,Lo,List.mem_singleton,and_self]
  exact⟨⟨rfl,rfl,rfl,trivial,rfl,rfl,trivial⟩,rfl,trivial⟩
 ·simp only[am,ah,ap,hpl,htk,Lm,ag,seval,ae]<;>omega
 ·simp only[am,ah,ap,bc,hpl,htk,Lm,ag,seval,ae] 
  exact⟨rfl,rfl,rfl⟩
theorem An (y:Nat)(K:kS)(M:ao)(nm:Nat)(hM:M y=some (eK (pN K)))(ho:∀ z,(M z).isSome=true→z∈[y])(hlt:y<nm):Ev cx 23 nm [.mp y] M (.mp nm) [(nm,some (eK (pN K)))] :=
 (Dv y K M nm hM ho hlt).eff_eq (wM hM _)
end Go.Proofs.YtcllbjanalhjgaaGreatDoor
