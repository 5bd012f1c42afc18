/-
 Texts joined: XOi.
-/
import Derived.Test.YtlnlopnpcmahgaaGreatDoorR3
import Derived.Test.YtlnlopnpcmahgaaGreatDoorQt
set_option linter.all false
namespace Go.Proofs.YtlnlopnpcmahgaaGreatDoor
set_option maxRecDepth 100000
set_option maxHeartbeats 32000000
open Go Go.RowKit Vm Go.Lib Tryz
open Vm renaming ba->Ca,bh->Cb
open And renaming intro->Ai
open List renaming length_map->Lm,not_mem_nil->Ln,map_nil->Lo,map_cons->Lc,mem_cons->Lk
open Bool renaming not_false->Bf,not_true->Bt
def Sn:zeroOf cx.P 156=some (.agg #[.string ⟨#[]⟩]):=by kernel_rfl
def SQ (p:List UInt8):gP cx.P 9 (.str p)=true:=by kernel_rfl
section
variable {Q:Post} {st:List Frm} {nm:Nat} {e:Env} {M:ap} {d:Bool} {fs:List (List Nat)} {ops r:List Oper} {dst:Option Tmp} {t:TypeId} {pos:String} {af:Array Edge} {gd:Option (Nat×Bool)} {i:Nat}
def wE {m k:Operand}(y:Nat)(K:kF){p:List UInt8}(hm:aw cx.G true e m = .mp y)(hM:M y=some (eW (rX K)))(hk:aw cx.G true e k = .str p)
  (h:aK cx Q st nm (e.putD dst (.tup [.agg [.str ((eO p K).getD [])],.bool (eO p K).isSome])) M d (fs++[[y]]) ops r (i+1)):cF cx Q st nm e M d fs ops ⟨dst,.lookup 153 m k true,t,pos,af,gd⟩ r i:=by
 refine jL hm hM hk Sd (SQ p) rfl Sn (xX p K) (fun v hv=>?_) ?_
 ·obtain⟨x,_,rfl⟩:=Option.map_eq_some_iff.1 hv;rfl
 ·rw[c6,Option.isSome_map]
  cases hg:eO p K with
  | none=>rw[hg]at h;exact h
  | some v=>rw[hg]at h;exact h
def H5 {m k x:Operand}(y:Nat)(K:kF){p v:List UInt8}(hm:aw cx.G true e m = .mp y)(hM:M y=some (eW (rX K)))(hk:aw cx.G true e k = .str p)(hx:aw cx.G true e x = .agg [.str v])
  (h:aK cx Q st nm (e.putD dst .any) (M.app [(y,some (eW (rX (sv p v K))))]) d (fs++[[y]]) ops r (i+1)):cF cx Q st nm e M d fs ops ⟨dst,.mapUpdate 153 m k x,t,pos,af,gd⟩ r i:=by
 refine Cv hm hM hk hx Sd (SQ p) rfl rfl (xX p K) ?_
 rw[K7];exact h
end
def zf {M:ap}{q:Nat}{k:Blk}(h:M q=some k)(eff:List (Nat×Option Blk)):M.app ((q,some k)::eff)=M.app eff:=by
 have:M.put q (some k)=M:=by
  funext x
  by_cases e:x=q
  ·subst e;rw[ap.put_same,h]
  ·rw[ap.put_ne _ _ e]
 show(M.put q (some k)).app eff=_
 rw[this]
def KL {K:kF}{r:Bool}{l:List At}{k:Nat}{a:At}(h:l[k]? = some a):BM K r (l.take (k+1))=Df K (BM K r (l.take k)) a:=by
 obtain⟨hk,rfl⟩:=List.getElem?_eq_some_iff.1 h
 unfold BM
 rw[List.take_succ_eq_append_getElem hk,List.foldl_append];rfl
def yv (K:kF):∀(l:List At) (s:List At×Bool),(l.foldl (Df K) s).1.length<=s.1.length+l.length
 | [],s=>by simp
 | a::l,s=>by
  have h1:=yv K l (Df K s a)
  have h2:(Df K s a).1.length<=s.1.length+1:=by
   unfold Df
   cases fB a.name with
   | some p=>simp only;omega
   | none=>simp
  simp only[List.foldl_cons,List.length_cons]
  omega
def G4 (n:Nd)(K:kF)(hn:n.okTo 1000000)(ha16:n.attrs.length<=1000)(q:Nat)(M:ap)(nm:Nat)(hM:M q=some (eW (rX K)))(ho:∀ z,(M z).isSome=true->z∈[q])(hlt:q<nm) :
  Ev cx 110 nm [.agg (aZ n),.mp q] M (.tup [.agg [.int .u8 n.kind,.str (kZ K n).1.space,.str (kZ K n).1.name,.own nm 0 (kZ K n).1.attrs.length,.str [],.int .i64 n.many],.bool (kZ K n).2]) [(q,some (eW (rX K))),(nm,some ⟨3,(kZ K n).1.attrs.map bN⟩)]:=by
 have hsp:=fun nm=>Bm n.name (by have:=hn.2.2.1;unfold be;omega) nm
 have g1:(nm=q)=False:=eq_false (by omega)
 unfold kZ
 generalize hP:dS n.name=P at hsp ⊢
 simp only
 generalize hR0:(eO P.1 K).isSome=r0
 refine bi call110 func110 rfl (by kernel_rfl) rfl ?_;intro b0 hb0;have zF:=Ai results110 ntmps110
 have k1:=aC hb0 hM
 have z0:=aE k1
 repeat' first|simp only[ak,aj,zF,al,aZ,hM,hR0,z0,aq,Lm,ai,seval,ah]|exact rfl|refine aa (v:=.any) ?_|(first|(refine ad ?_ (hsp _) ?_)|(refine ab ?_ (fun _=>hsp _) ?_))|(refine wE q K (p:=?_) ?_ ?_ ?_ ?_;rotate_left 1;iterate 3 (focus (simp only[zF,al,aZ,hM,hR0,z0,aq,Lm,ai,seval,ah]<;>exact rfl)))|((first|apply Ca|apply Cb)<;>intro hb)|refine Ai (by omega) ?_|(apply Ai<;>intro hb)
 have hz0:(BM K r0 [])=([],r0):=rfl
 (refine aR bR (fun x:Nat=>n.attrs.length-x) (fun x=>x<=n.attrs.length) (b0+16) (fun x=>[(1,.mp q),(4,.ptr b0 0 0),(5,.bool (BM K r0 (n.attrs.take x)).2),(38,.sl false 3 (n.attrs.map bN)),(39,.int .i64 n.attrs.length),(40,.int .i64 x)]) (fun x=>[(b0,⟨6,[[.int .u8 n.kind,.str ((eO P.1 K).getD []),.str P.2,.own (b0+1) 0 (BM K r0 (n.attrs.take x)).1.length,.str [],.int .i64 n.many]]⟩),(b0+1,⟨3,(BM K r0 (n.attrs.take x)).1.map bN⟩),(q,eW (rX K))]) (0) [some (b0+16),none,some q] ?_ ?_ ?_ ?_;rotate_left 1;(focus (show b0<=_;omega));(focus (refine⟨?_,?_⟩<;>(try simp only[aX,hz0,hM,z0,bN,aq,cM,bt,aL,List.take_zero,Lo,List.length_nil,Lm,ai,seval,ah,ao])<;>(try omega)));rotate_left 1)
 ·exact Nat.zero_le _
 ·intro k hk
  by_cases hlt:k<n.attrs.length
  ·obtain⟨a,ha⟩:∃ a,n.attrs[k]? = some a:=⟨_,List.getElem?_eq_getElem hlt⟩
   have hat:=rO ha
   have hok:=hn.2.2.2.2 a (List.mem_of_getElem? ha)
   have d1:decide ((k:Int)<(n.attrs.length:Int))=true:=cn
   have d2:decide (k<n.attrs.length)=true:=decide_eq_true hlt
   have hwk:IntKind.i64.wrap ((k:Int)+1)=((k+1:Nat):Int):=bf
   have hlen:(BM K r0 (n.attrs.take k)).1.length<=1000:=by
    have:=yv K (n.attrs.take k) ([],r0)
    unfold BM;simp only[List.length_nil,List.length_take]at this;omega
   have hst:=KL (K:=K) (r:=r0) ha
   have hde:=fun nm=>rR a (by have:=hok.2.1;unfold be;omega) nm
   rw[zO]at hde
   unfold bN at hde
   generalize hA:BM K r0 (n.attrs.take k)=acc at hst hlen
   obtain⟨acc,rk⟩:=acc
   dsimp only at hlen
   have htk:(acc.map bN).take acc.length=acc.map bN:=ct _ _
   unfold Df at hst
   cases hd:fB a.name with
   | some p =>
    rw[hd]at hst hde
    repeat' first|simp only[ak,aj,zF,al,hat,bN,hlt,d1,d2,hwk,htk,hA,z0,Option.isSome_some,Bt,Bf,aq,Lm,ai,seval,ah]|exact rfl|refine aa (v:=.any) ?_|(first|(refine ad ?_ (hde _) ?_)|(refine ab ?_ (fun _=>hde _) ?_))|((first|apply Ca|apply Cb)<;>intro hb)|refine Ai (by omega) ?_|(apply Ai<;>intro hb)
    all_goals ((refine aD bR (k+1) [some b0,some (b0+1),some q] ?_ ?_ ?_ ?_;rotate_left 2;(focus (show b0<=_;omega));(focus (refine⟨?_,?_⟩<;>(try simp only[aX,hst,hA,hwk,z0,aq,cM,bt,Lm,ai,seval,ah,ao])<;>(try omega)))))
    all_goals (first|(show n.attrs.length-(k+1)<n.attrs.length-k;omega)|exact hlt|skip)
   | none =>
    rw[hd]at hst hde
    simp only at hst
    have hcn:=fun nm=>zG a.name 58 nm
    cases hc:a.name.contains 58 with
    | false =>
     have hx:ng K a=⟨[],a.name,a.value⟩:=by unfold ng;rw[hc];rfl
     have hh:rW K a=true:=by unfold rW;rw[hc];rfl
     rw[hx,hh,Bool.and_true]at hst
     have hco:=fun nm=>ef acc 157 [.rp (bN ⟨[],a.name,a.value⟩)] (fun y=>lX y ⟨[],a.name,a.value⟩) (fun y _ nm=>wK y _ nm) (by unfold be;omega) rfl nm
     have hsn:=po acc ⟨[],a.name,a.value⟩
     rw[hc]at hcn
     generalize (acc.any fun y=>lX y ⟨[],a.name,a.value⟩)=tw at hst hco
     unfold bN at hco
     repeat' first|simp only[ak,aj,zF,al,hat,bN,hlt,d1,d2,hwk,htk,hA,hsn,z0,Option.isSome_none,Bt,Bf,aq,Lm,ai,seval,ah]|exact rfl|refine aa (v:=.any) ?_|(first|(refine ad ?_ (hde _) ?_)|(refine ab ?_ (fun _=>hde _) ?_)|(refine ad ?_ (hcn _) ?_)|(refine ab ?_ (fun _=>hcn _) ?_))|((refine bm (xs:=?_) [b0+1,b0+304] ?_ ?_ ?_ rfl (hco _) ?_);rotate_left 1)|omega|((first|apply Ca|apply Cb)<;>intro hb)|refine Ai (by omega) ?_|(apply Ai<;>intro hb)
     all_goals ((refine aD bR (k+1) [some b0,some (b0+624),some q] ?_ ?_ ?_ ?_;rotate_left 2;(focus (show b0<=_;omega));(focus (refine⟨?_,?_⟩<;>(try simp only[aX,hst,hA,hwk,z0,aq,cM,bt,List.length_append,List.length_cons,List.length_nil,Lm,ai,seval,ah,ao])<;>(try omega)))))
     all_goals (first|(show n.attrs.length-(k+1)<n.attrs.length-k;omega)|exact hlt|skip)
    | true =>
     have hs2:=fun nm=>Bm a.name (by have:=hok.2.1;unfold be;omega) nm
     have hx:ng K a=⟨(eO (dS a.name).1 K).getD [],(dS a.name).2,a.value⟩:=by unfold ng;rw[hc];rfl
     have hh:rW K a=(eO (dS a.name).1 K).isSome:=by unfold rW;rw[hc];rfl
     rw[hx,hh]at hst
     generalize dS a.name=S2 at hst hs2
     have hco:=fun nm=>ef acc 157 [.rp (bN ⟨(eO S2.1 K).getD [],S2.2,a.value⟩)] (fun y=>lX y ⟨(eO S2.1 K).getD [],S2.2,a.value⟩) (fun y _ nm=>wK y _ nm) (by unfold be;omega) rfl nm
     have hsn:=po acc ⟨(eO S2.1 K).getD [],S2.2,a.value⟩
     rw[hc]at hcn
     generalize (acc.any fun y=>lX y ⟨(eO S2.1 K).getD [],S2.2,a.value⟩)=tw at hst hco
     generalize hG2:(eO S2.1 K).isSome=g2 at hst
     unfold bN at hco
     repeat' first|simp only[ak,aj,zF,al,hat,bN,hlt,d1,d2,hwk,htk,hA,hsn,hG2,z0,Option.isSome_none,Bt,Bf,aq,Lm,ai,seval,ah]|exact rfl|refine aa (v:=.any) ?_|(first|(refine ad ?_ (hde _) ?_)|(refine ab ?_ (fun _=>hde _) ?_)|(refine ad ?_ (hcn _) ?_)|(refine ab ?_ (fun _=>hcn _) ?_)|(refine ad ?_ (hs2 _) ?_)|(refine ab ?_ (fun _=>hs2 _) ?_))|((refine bm (xs:=?_) [b0+1,b0+304] ?_ ?_ ?_ rfl (hco _) ?_);rotate_left 1)|(refine wE q K (p:=?_) ?_ ?_ ?_ ?_;rotate_left 1;iterate 3 (focus (simp only[zF,al,hat,bN,hlt,d1,d2,hwk,htk,hA,hsn,hG2,z0,Option.isSome_none,Bt,Bf,aq,Lm,ai,seval,ah]<;>exact rfl)))|omega|((first|apply Ca|apply Cb)<;>intro hb)|refine Ai (by omega) ?_|(apply Ai<;>intro hb)
     all_goals ((refine aD bR (k+1) [some b0,some (b0+1056),some q] ?_ ?_ ?_ ?_;rotate_left 2;(focus (show b0<=_;omega));(focus (refine⟨?_,?_⟩<;>(try simp only[aX,hst,hA,hwk,z0,aq,cM,bt,List.length_append,List.length_cons,List.length_nil,Lm,ai,seval,ah,ao])<;>(try omega)))))
     all_goals (first|(show n.attrs.length-(k+1)<n.attrs.length-k;omega)|exact hlt|skip)
  ·have hke:k=n.attrs.length:=by omega
   subst hke
   have d1:decide ((n.attrs.length:Int)<(n.attrs.length:Int))=false:=bo
   have d2:decide (n.attrs.length<n.attrs.length)=false:=bo
   have htk:=kM (BM K r0 n.attrs).1
   repeat' first|simp only[ak,aj,zF,al,d1,d2,htk,z0,List.take_length,aq,Lm,ai,seval,ah]|exact rfl|refine aa (v:=.any) ?_|((first|apply Ca|apply Cb)<;>intro hb)|refine Ai (by omega) ?_|(apply Ai<;>intro hb)
   all_goals ((refine Fin.give [(q,none),(b0+1,some 0)] [] ?_ ?_ ?_ ?_ ?_ (aO ho (by simp[aS,tgt]))<;>(try simp only[zF,al,hM,g1,z0,cM,bt,aq,Lm,dM,ai,seval,ah])<;>(try simp only[ao])<;>(try omega)))
def QC (n:Nd)(K:kF)(hn:n.okTo 1000000)(ha16:n.attrs.length<=1000)(q:Nat)(M:ap)(nm:Nat)(hM:M q=some (eW (rX K)))(ho:∀ z,(M z).isSome=true->z∈[q])(hlt:q<nm) :
  Ev cx 110 nm [.agg (aZ n),.mp q] M (.tup [.agg (aZ (kZ K n).1),.bool (kZ K n).2]) []:=by
 have h:=(G4 n K hn ha16 q M nm hM ho hlt).eff_eq (eff':=[(nm,some ⟨3,(kZ K n).1.attrs.map bN⟩)]) (zf hM _)
 have hMn:M nm=none:=by
  cases h:M nm with
  | none=>rfl
  | some k=>have:=ho nm (by rw[h];rfl);simp at this;omega
 have hpl:=aq (kZ K n).1.attrs
 have htk:=kM (kZ K n).1.attrs
 refine h.freezeM (fun x hx=>?_) (fun x hx k hk=>?_) ?_ ?_ ?_
 ·simp only[am,Lc,Lo,List.mem_singleton]at hx
  subst hx;exact hMn
 ·rw[List.mem_singleton]at hx;subst hx
  simp only[Option.some.injEq]at hk;subst hk
  exact CC _ (fun _=>rfl) _
 ·simp only[V.flatO,flatOL,am,Lc,Lo,List.mem_singleton,and_self]
  exact⟨⟨rfl,rfl,rfl,trivial,rfl,rfl,trivial⟩,rfl,trivial⟩
 ·simp only[ak,aj,al,hpl,htk,Lm,ai,seval,ah]<;>omega
 ·simp only[ak,aj,al,aZ,hpl,htk,Lm,ai,seval,ah] 
  exact⟨rfl,rfl,rfl⟩
def Da (y:Nat)(K:kF)(M:ap)(nm:Nat)(hM:M y=some (eW (rX K)))(ho:∀ z,(M z).isSome=true->z∈[y])(hlt:y<nm):Ev cx 107 nm [.mp y] M (.mp nm) [(nm,some (eW (rX K)))] :=
 (GU y K M nm hM ho hlt).eff_eq (zf hM _)
end Go.Proofs.YtlnlopnpcmahgaaGreatDoor
