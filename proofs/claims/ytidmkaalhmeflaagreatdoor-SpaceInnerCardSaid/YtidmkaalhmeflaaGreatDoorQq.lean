/-
 Texts joined: XUe.
-/
import Derived.Test.YtidmkaalhmeflaaGreatDoorQp
import Derived.Test.YtidmkaalhmeflaaGreatDoorQo
namespace Go.Proofs.YtidmkaalhmeflaaGreatDoor
set_option maxRecDepth 100000
set_option maxHeartbeats 32000000
set_option linter.unusedSimpArgs false
set_option linter.unusedVariables false
open Go Go.RowKit Vm Go.Lib Tryz
open Vm renaming aZ→Ca,bj→Cb
open And renaming intro→Ai
open List renaming length_map→Lm,not_mem_nil→Ln,map_nil→Lo,map_cons→Lc,mem_cons→Lk
open Bool renaming not_false→Bf,not_true→Bt
theorem Em (t:Tk)(h:t.okTo bh)(nm:Nat):Ev cx 153 nm [.agg (c9 t)] aq.nil (.bool (!gI t)) []:=by
 have hc:=GD t h
 unfold ND at hc
 generalize gI t=b at hc ⊢
 cases b<;>(
  refine ay rfl (fun cargs w=>call153 cargs w) func153 rfl mixed (by kernel_rfl) rfl ?_;intro b0 hb0
  (repeat' first|simp only[al,aj,results153,ntmps153,am,aL,c9,Bt,Bf,ai,seval,ah]|exact rfl|refine aa (v:=.any) ?_|(first|(refine ac ?_ (hc _) ?_)|(refine ab ?_ (fun _=>hc _) ?_))|((first|apply Ca|apply Cb)<;>intro hb)|refine Ai (by omega) ?_|(apply Ai<;>intro hb)|refine Fin.pure ?_ ?_ ?_|simp only[au]))
theorem Bw {l:List Tk}(h:512<l.length):cP l=4:=by unfold cP;rw[if_pos h]
theorem De {l:List Tk}(h:¬ 512<l.length)(h2:(l.any fun t=>!gI t)=true):cP l=8:=by unfold cP;rw[if_neg h,if_pos h2]
theorem C8 {l:List Tk}(h:¬ 512<l.length)(h2:(l.any fun t=>!gI t)=false){e:Int}(he:(uh ⟨[],[]⟩ false l).2=e)(h0:e≠0):cP l=e:=by
 unfold cP;rw[if_neg h,if_neg (by simp[h2]),if_pos (by rw[he];exact h0),he]
theorem Fw {l:List Tk}(h:¬ 512<l.length)(h2:(l.any fun t=>!gI t)=false){g:Gr}(he:uh ⟨[],[]⟩ false l=(g,0))(h0:g.v.isEmpty=true∨g.opn.isEmpty=false):cP l=80:=by
 unfold cP;rw[if_neg h,if_neg (by simp[h2]),he,if_neg (by simp),if_pos h0]
theorem HF {l:List Tk}(h:¬ 512<l.length)(h2:(l.any fun t=>!gI t)=false){g:Gr}(he:uh ⟨[],[]⟩ false l=(g,0))(h0:¬(g.v.isEmpty=true∨g.opn.isEmpty=false)):cP l=0∧dn l=g.v:=by
 have:cP l=0:=by unfold cP;rw[if_neg h,if_neg (by simp[h2]),he,if_neg (by simp),if_neg h0]
 exact⟨this,by unfold dn;rw[if_pos this,he]⟩
theorem Aw {t:Tk}(h:gI t=true):t.kind=1∨t.kind=3∨t.kind=2∨t.kind=4:=by
 unfold gI at h
 rcases u0 t.kind with h1|h1|h1|h1|⟨h1,h2,h3,h4⟩
 ·exact .inl h1
 ·exact .inr (.inl h1)
 ·exact .inr (.inr (.inl h1))
 ·exact .inr (.inr (.inr h1))
 ·rw[if_neg (by omega),if_neg h3,if_neg h4]at h;cases h
theorem eI (b a c:Nat):bZ (b+a) (b+c)=(a≤c∧c<a+16):=propext ⟨fun h=>by unfold bZ at h;omega,fun h=>by unfold bZ;omega⟩
theorem y8 (t:Tk):ba (gq t)=[.int .u8 1,.str [],.str t.name,.sl false 3 ((cR t.attrs).map bG),.str [],.int .i64 0]:=rfl
theorem GL (s:List UInt8):ba (iQ s)=[.int .u8 2,.str [],.str [],.sl false 3 [],.str s,.int .i64 0]:=rfl
structure PSt where
 k:Nat
 g:Gr
 junk:List Nat
 last:Nat
def PSt.inv (l:List Tk)(x:PSt):Prop:=x.k≤l.length∧x.g.Ok x.k∧uh ⟨[],[]⟩ false l=uh x.g (x.last==4) (l.drop x.k)
theorem vn {α:Type}{l:List α}{k:Nat}{t:α}(h:l[k]? = some t):l.drop k=t::l.drop (k+1):=by
 obtain⟨hk,rfl⟩:=List.getElem?_eq_some_iff.1 h
 exact List.drop_eq_getElem_cons hk
theorem GG {l:List Tk}{x:PSt}{t:Tk}(h:x.inv l)(ht:l[x.k]? = some t){g':Gr}(hs:stepG x.g t (x.last==4)=(g',0))(junk':List Nat):PSt.inv l ⟨x.k+1,g',junk',t.kind⟩:=by
 obtain⟨h1,h2,h3⟩:=h
 refine⟨(List.getElem?_eq_some_iff.1 ht).1,?_,?_⟩
 ·have:=B9 h2 t (x.last==4);rw[hs]at this;exact this
 ·rw[h3,vn ht,Ip rfl (by rw[hs]),hs]
theorem Jx {l:List Tk}{x:PSt}{t:Tk}(h:x.inv l)(ht:l[x.k]? = some t){e:Int}(hs:(stepG x.g t (x.last==4)).2=e)(he:e≠0):(uh ⟨[],[]⟩ false l).2=e:=by
 rw[h.2.2,vn ht,I1 (by rw[hs];exact he),hs]
end Go.Proofs.YtidmkaalhmeflaaGreatDoor
