/-
 Texts joined: XOi.
-/
import Derived.Test.YtidmkaalhmeflaaGreatDoorR3
import Derived.Test.YtidmkaalhmeflaaGreatDoorQt
namespace Go.Proofs.YtidmkaalhmeflaaGreatDoor
set_option maxRecDepth 100000
set_option maxHeartbeats 32000000
set_option linter.unusedSimpArgs false
set_option linter.unusedVariables false
open Go Go.RowKit Vm Go.Lib Tryz
open Vm renaming aZ→Ca,bj→Cb
open And renaming intro→Ai
open List renaming length_map→Lm,not_mem_nil→Ln,map_nil→Lo,map_cons→Lc,mem_cons→Lk
open Bool renaming not_false→Bf,not_true→Bt
theorem Ro:zeroOf cx.P 70=some (.agg #[.string ⟨#[]⟩]):=by kernel_rfl
theorem PF (p:List UInt8):gQ cx.P 9 (.str p)=true:=by kernel_rfl
section
variable {Q:Post} {st:List Frm} {nm:Nat} {e:Env} {M:aq} {d:Bool} {fs:List (List Nat)} {ops r:List Oper} {dst:Option Tmp} {t:TypeId} {pos:String} {af:Array Edge} {gd:Option (Nat×Bool)} {i:Nat}
theorem SE {m k:Operand}(y:Nat)(K:KnT){p:List UInt8}(hm:aA cx.G true e m = .mp y)(hM:M y=some (eV (Sf K)))(hk:aA cx.G true e k = .str p)
  (h:aE cx Q st nm (e.putD dst (.tup [.agg [.str ((dS p K).getD [])],.bool (dS p K).isSome])) M d (fs++[[y]]) ops r (i+1)):bM cx Q st nm e M d fs ops ⟨dst,.lookup 67 m k true,t,pos,af,gd⟩ r i:=by
 refine nM hm hM hk Rb (PF p) rfl Ro (SJ p K) (fun v hv=>?_) ?_
 ·obtain⟨x,_,rfl⟩:=Option.map_eq_some_iff.1 hv;rfl
 ·rw[fl,Option.isSome_map]
  cases hg:dS p K with
  | none=>rw[hg]at h;exact h
  | some v=>rw[hg]at h;exact h
theorem DF {m k x:Operand}(y:Nat)(K:KnT){p v:List UInt8}(hm:aA cx.G true e m = .mp y)(hM:M y=some (eV (Sf K)))(hk:aA cx.G true e k = .str p)(hx:aA cx.G true e x = .agg [.str v])
  (h:aE cx Q st nm (e.putD dst .any) (M.app [(y,some (eV (Sf (qY p v K))))]) d (fs++[[y]]) ops r (i+1)):bM cx Q st nm e M d fs ops ⟨dst,.mapUpdate 67 m k x,t,pos,af,gd⟩ r i:=by
 refine Bm hm hM hk hx Rb (PF p) rfl rfl (SJ p K) ?_
 rw[Qp];exact h
end
theorem SV {M:aq}{q:Nat}{k:Blk}(h:M q=some k)(eff:List (Nat×Option Blk)):M.app ((q,some k)::eff)=M.app eff:=by
 have:M.put q (some k)=M:=by
  funext x
  by_cases e:x=q
  ·subst e;rw[aq.put_same,h]
  ·rw[aq.put_ne _ _ e]
 show(M.put q (some k)).app eff=_
 rw[this]
theorem FT {K:KnT}{r:Bool}{l:List At}{k:Nat}{a:At}(h:l[k]? = some a):S0 K r (l.take (k+1))=Sy K (S0 K r (l.take k)) a:=by
 obtain⟨hk,rfl⟩:=List.getElem?_eq_some_iff.1 h
 unfold S0
 rw[List.take_succ_eq_append_getElem hk,List.foldl_append];rfl
theorem SM (K:KnT):∀(l:List At) (s:List At×Bool),(l.foldl (Sy K) s).1.length≤s.1.length+l.length
 | [],s=>by simp
 | a::l,s=>by
  have h1:=SM K l (Sy K s a)
  have h2:(Sy K s a).1.length≤s.1.length+1:=by
   unfold Sy
   cases Rv a.name with
   | some p=>simp only;omega
   | none=>simp
  simp only[List.foldl_cons,List.length_cons]
  omega
theorem Qe (n:Nd)(K:KnT)(hn:n.okTo 1000000)(ha16:n.attrs.length≤1000)(q:Nat)(M:aq)(nm:Nat)(hM:M q=some (eV (Sf K)))(ho:∀ z,(M z).isSome=true→z∈[q])(hlt:q<nm) :
  Ev cx 50 nm [.agg (ba n),.mp q] M (.tup [.agg [.int .u8 n.kind,.str (RA K n).1.space,.str (RA K n).1.name,.own nm 0 (RA K n).1.attrs.length,.str [],.int .i64 n.many],.bool (RA K n).2]) [(q,some (eV (Sf K))),(nm,some ⟨3,(RA K n).1.attrs.map bG⟩)]:=by
 have hsp:=fun nm=>SY n.name (by have:=hn.2.2.1;unfold bh;omega) nm
 have g1:(nm=q)=False:=eq_false (by omega)
 unfold RA
 generalize hP:Rs n.name=P at hsp ⊢
 simp only
 generalize hR0:(dS P.1 K).isSome=r0
 refine ay rfl (fun cargs w=>call50 cargs w) func50 rfl mixed (by kernel_rfl) rfl ?_;intro b0 hb0
 have k1:q<b0:=ax hb0 (by rw[hM];rfl)
 have z0:=aT k1;have z1:=aw k1;have z2:=aK k1;have z3:=ao k1
 repeat' first|simp only[al,aj,results50,ntmps50,am,ba,hM,hR0,z0,z1,z2,z3,av,Lm,ai,seval,ah]|exact rfl|refine aa (v:=.any) ?_|(first|(refine ac ?_ (hsp _) ?_)|(refine ab ?_ (fun _=>hsp _) ?_))|(refine SE q K (p:=?_) ?_ ?_ ?_ ?_;rotate_left 1;iterate 3 (focus (simp only[results50,ntmps50,am,ba,hM,hR0,z0,z1,z2,z3,av,Lm,ai,seval,ah]<;>exact rfl)))|((first|apply Ca|apply Cb)<;>intro hb)|refine Ai (by omega) ?_|(apply Ai<;>intro hb)
 have hz0:(S0 K r0 [])=([],r0):=rfl
 (refine aU co (fun x:Nat=>n.attrs.length-x) (fun x=>x≤n.attrs.length) (b0+16) (fun x=>[(1,.mp q),(4,.ptr b0 0 0),(5,.bool (S0 K r0 (n.attrs.take x)).2),(38,.sl false 3 (n.attrs.map bG)),(39,.int .i64 n.attrs.length),(40,.int .i64 x)]) (fun x=>[(b0,⟨6,[[.int .u8 n.kind,.str ((dS P.1 K).getD []),.str P.2,.own (b0+1) 0 (S0 K r0 (n.attrs.take x)).1.length,.str [],.int .i64 n.many]]⟩),(b0+1,⟨3,(S0 K r0 (n.attrs.take x)).1.map bG⟩),(q,eV (Sf K))]) (0) [some (b0+16),none,some q] ?_ ?_ ?_ ?_;rotate_left 1;(focus (show b0≤_;omega));(focus (refine⟨?_,?_⟩<;>(try simp only[bk,hz0,hM,z0,z1,z2,z3,bG,av,c6,bR,aV,List.take_zero,Lo,List.length_nil,Lm,ai,seval,ah,au])<;>(try omega)));rotate_left 1)
 ·exact Nat.zero_le _
 ·intro k hk
  by_cases hlt:k<n.attrs.length
  ·obtain⟨a,ha⟩:∃ a,n.attrs[k]? = some a:=⟨_,List.getElem?_eq_getElem hlt⟩
   have hat:=oD ha
   have hok:=hn.2.2.2.2 a (List.mem_of_getElem? ha)
   have d1:decide ((k:Int)<(n.attrs.length:Int))=true:=decide_eq_true (by omega)
   have d2:decide (k<n.attrs.length)=true:=decide_eq_true hlt
   have hwk:IntKind.i64.wrap ((k:Int)+1)=((k+1:Nat):Int):=aN (by omega) (by omega)
   have hlen:(S0 K r0 (n.attrs.take k)).1.length≤1000:=by
    have:=SM K (n.attrs.take k) ([],r0)
    unfold S0;simp only[List.length_nil,List.length_take]at this;omega
   have hst:=FT (K:=K) (r:=r0) ha
   have hde:=fun nm=>Sa a (by have:=hok.2.1;unfold bh;omega) nm
   rw[SK]at hde
   unfold bG at hde
   generalize hA:S0 K r0 (n.attrs.take k)=acc at hst hlen
   obtain⟨acc,rk⟩:=acc
   dsimp only at hlen
   have htk:(acc.map bG).take acc.length=acc.map bG:=c7 _ _
   unfold Sy at hst
   cases hd:Rv a.name with
   | some p =>
    rw[hd]at hst hde
    repeat' first|simp only[al,aj,results50,ntmps50,am,hat,bG,hlt,d1,d2,hwk,htk,hA,z0,z1,z2,z3,Option.isSome_some,Bt,Bf,av,Lm,ai,seval,ah]|exact rfl|refine aa (v:=.any) ?_|(first|(refine ac ?_ (hde _) ?_)|(refine ab ?_ (fun _=>hde _) ?_))|((first|apply Ca|apply Cb)<;>intro hb)|refine Ai (by omega) ?_|(apply Ai<;>intro hb)
    all_goals ((refine aJ co (k+1) [some b0,some (b0+1),some q] ?_ ?_ ?_ ?_;rotate_left 2;(focus (show b0≤_;omega));(focus (refine⟨?_,?_⟩<;>(try simp only[bk,hst,hA,hwk,z0,z1,z2,z3,av,c6,bR,Lm,ai,seval,ah,au])<;>(try omega)))))
    all_goals (first|(show n.attrs.length-(k+1)<n.attrs.length-k;omega)|exact hlt|skip)
   | none =>
    rw[hd]at hst hde
    simp only at hst
    have hcn:=fun nm=>SP a.name 58 nm
    cases hc:a.name.contains 58 with
    | false =>
     have hx:RK K a=⟨[],a.name,a.value⟩:=by unfold RK;rw[hc];rfl
     have hh:RQ K a=true:=by unfold RQ;rw[hc];rfl
     rw[hx,hh,Bool.and_true]at hst
     have hco:=fun nm=>fG acc 91 [.rp (bG ⟨[],a.name,a.value⟩)] (fun y=>jN y ⟨[],a.name,a.value⟩) (fun y _ nm=>SD y _ nm) (by unfold bh;omega) rfl nm
     have hsn:=RW acc ⟨[],a.name,a.value⟩
     rw[hc]at hcn
     generalize (acc.any fun y=>jN y ⟨[],a.name,a.value⟩)=tw at hst hco
     unfold bG at hco
     repeat' first|simp only[al,aj,results50,ntmps50,am,hat,bG,hlt,d1,d2,hwk,htk,hA,hsn,z0,z1,z2,z3,Option.isSome_none,Bt,Bf,av,Lm,ai,seval,ah]|exact rfl|refine aa (v:=.any) ?_|(first|(refine ac ?_ (hde _) ?_)|(refine ab ?_ (fun _=>hde _) ?_)|(refine ac ?_ (hcn _) ?_)|(refine ab ?_ (fun _=>hcn _) ?_))|((refine bq (xs:=?_) [b0+1,b0+304] ?_ ?_ ?_ rfl (hco _) ?_);rotate_left 1)|omega|((first|apply Ca|apply Cb)<;>intro hb)|refine Ai (by omega) ?_|(apply Ai<;>intro hb)
     all_goals ((refine aJ co (k+1) [some b0,some (b0+624),some q] ?_ ?_ ?_ ?_;rotate_left 2;(focus (show b0≤_;omega));(focus (refine⟨?_,?_⟩<;>(try simp only[bk,hst,hA,hwk,z0,z1,z2,z3,av,c6,bR,List.length_append,List.length_cons,List.length_nil,Lm,ai,seval,ah,au])<;>(try omega)))))
     all_goals (first|(show n.attrs.length-(k+1)<n.attrs.length-k;omega)|exact hlt|skip)
    | true =>
     have hs2:=fun nm=>SY a.name (by have:=hok.2.1;unfold bh;omega) nm
     have hx:RK K a=⟨(dS (Rs a.name).1 K).getD [],(Rs a.name).2,a.value⟩:=by unfold RK;rw[hc];rfl
     have hh:RQ K a=(dS (Rs a.name).1 K).isSome:=by unfold RQ;rw[hc];rfl
     rw[hx,hh]at hst
     generalize Rs a.name=S2 at hst hs2
     have hco:=fun nm=>fG acc 91 [.rp (bG ⟨(dS S2.1 K).getD [],S2.2,a.value⟩)] (fun y=>jN y ⟨(dS S2.1 K).getD [],S2.2,a.value⟩) (fun y _ nm=>SD y _ nm) (by unfold bh;omega) rfl nm
     have hsn:=RW acc ⟨(dS S2.1 K).getD [],S2.2,a.value⟩
     rw[hc]at hcn
     generalize (acc.any fun y=>jN y ⟨(dS S2.1 K).getD [],S2.2,a.value⟩)=tw at hst hco
     generalize hG2:(dS S2.1 K).isSome=g2 at hst
     unfold bG at hco
     repeat' first|simp only[al,aj,results50,ntmps50,am,hat,bG,hlt,d1,d2,hwk,htk,hA,hsn,hG2,z0,z1,z2,z3,Option.isSome_none,Bt,Bf,av,Lm,ai,seval,ah]|exact rfl|refine aa (v:=.any) ?_|(first|(refine ac ?_ (hde _) ?_)|(refine ab ?_ (fun _=>hde _) ?_)|(refine ac ?_ (hcn _) ?_)|(refine ab ?_ (fun _=>hcn _) ?_)|(refine ac ?_ (hs2 _) ?_)|(refine ab ?_ (fun _=>hs2 _) ?_))|((refine bq (xs:=?_) [b0+1,b0+304] ?_ ?_ ?_ rfl (hco _) ?_);rotate_left 1)|(refine SE q K (p:=?_) ?_ ?_ ?_ ?_;rotate_left 1;iterate 3 (focus (simp only[results50,ntmps50,am,hat,bG,hlt,d1,d2,hwk,htk,hA,hsn,hG2,z0,z1,z2,z3,Option.isSome_none,Bt,Bf,av,Lm,ai,seval,ah]<;>exact rfl)))|omega|((first|apply Ca|apply Cb)<;>intro hb)|refine Ai (by omega) ?_|(apply Ai<;>intro hb)
     all_goals ((refine aJ co (k+1) [some b0,some (b0+1056),some q] ?_ ?_ ?_ ?_;rotate_left 2;(focus (show b0≤_;omega));(focus (refine⟨?_,?_⟩<;>(try simp only[bk,hst,hA,hwk,z0,z1,z2,z3,av,c6,bR,List.length_append,List.length_cons,List.length_nil,Lm,ai,seval,ah,au])<;>(try omega)))))
     all_goals (first|(show n.attrs.length-(k+1)<n.attrs.length-k;omega)|exact hlt|skip)
  ·have hke:k=n.attrs.length:=by omega
   subst hke
   have d1:decide ((n.attrs.length:Int)<(n.attrs.length:Int))=false:=decide_eq_false (by omega)
   have d2:decide (n.attrs.length<n.attrs.length)=false:=decide_eq_false (by omega)
   have htk:=RH (S0 K r0 n.attrs).1
   repeat' first|simp only[al,aj,results50,ntmps50,am,d1,d2,htk,z0,z1,z2,z3,List.take_length,av,Lm,ai,seval,ah]|exact rfl|refine aa (v:=.any) ?_|((first|apply Ca|apply Cb)<;>intro hb)|refine Ai (by omega) ?_|(apply Ai<;>intro hb)
   all_goals ((refine Fin.give [(q,none),(b0+1,some 0)] [] ?_ ?_ ?_ ?_ ?_ (fun q hq=>by have hqq:=ho q hq;first|(simp only[aF,tgt,Lc,Lo,Lk,Ln,or_false]at hqq ⊢;omega)|(simp only[aF,tgt,Lc,Lo,Lk,Ln,or_false]at hqq))<;>(try simp only[results50,ntmps50,am,hM,g1,z0,z1,z2,z3,c6,bR,av,Lm,eH,ai,seval,ah])<;>(try simp only[au])<;>(try omega)))
theorem Q2 (n:Nd)(K:KnT)(hn:n.okTo 1000000)(ha16:n.attrs.length≤1000)(q:Nat)(M:aq)(nm:Nat)(hM:M q=some (eV (Sf K)))(ho:∀ z,(M z).isSome=true→z∈[q])(hlt:q<nm) :
  Ev cx 50 nm [.agg (ba n),.mp q] M (.tup [.agg (ba (RA K n).1),.bool (RA K n).2]) []:=by
 have h:=(Qe n K hn ha16 q M nm hM ho hlt).eff_eq (eff':=[(nm,some ⟨3,(RA K n).1.attrs.map bG⟩)]) (SV hM _)
 have hMn:M nm=none:=by
  cases h:M nm with
  | none=>rfl
  | some k=>have:=ho nm (by rw[h];rfl);simp at this;omega
 have hpl:=av (RA K n).1.attrs
 have htk:=RH (RA K n).1.attrs
 refine h.freezeM (fun x hx=>?_) (fun x hx k hk=>?_) ?_ ?_ ?_
 ·simp only[ak,Lc,Lo,List.mem_singleton]at hx
  subst hx;exact hMn
 ·rw[List.mem_singleton]at hx;subst hx
  simp only[Option.some.injEq]at hk;subst hk
  exact BO _ (fun _=>rfl) _
 ·simp only[V.flatO,flatOL,ak,Lc,Lo,List.mem_singleton,and_self]
  exact⟨⟨rfl,rfl,rfl,trivial,rfl,rfl,trivial⟩,rfl,trivial⟩
 ·simp only[al,aj,am,hpl,htk,Lm,ai,seval,ah]<;>omega
 ·simp only[al,aj,am,ba,hpl,htk,Lm,ai,seval,ah] 
  exact⟨rfl,rfl,rfl⟩
theorem BY (y:Nat)(K:KnT)(M:aq)(nm:Nat)(hM:M y=some (eV (Sf K)))(ho:∀ z,(M z).isSome=true→z∈[y])(hlt:y<nm):Ev cx 47 nm [.mp y] M (.mp nm) [(nm,some (eV (Sf K)))] :=
 (Qo y K M nm hM ho hlt).eff_eq (SV hM _)
end Go.Proofs.YtidmkaalhmeflaaGreatDoor
