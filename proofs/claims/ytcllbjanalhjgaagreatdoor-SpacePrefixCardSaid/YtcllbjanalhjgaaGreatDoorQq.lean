/-
 Texts joined: XUe.
-/
import Derived.Test.YtcllbjanalhjgaaGreatDoorQp
import Derived.Test.YtcllbjanalhjgaaGreatDoorQo
namespace Go.Proofs.YtcllbjanalhjgaaGreatDoor
set_option maxRecDepth 100000
set_option maxHeartbeats 32000000
set_option linter.unusedSimpArgs false
set_option linter.unusedVariables false
open Go Go.RowKit Vm Go.Lib Tryz
open Vm renaming be→Ca,bo→Cb
open And renaming intro→Ai
open List renaming length_map→Lm,not_mem_nil→Ln,map_nil→Lo,map_cons→Lc,mem_cons→Lk
open Bool renaming not_false→Bf,not_true→Bt
theorem DR (t:Tk)(h:t.okTo bk)(nm:Nat):Ev cx 103 nm [.agg (cZ t)] ao.nil (.bool (!gn t)) []:=by
 have hc:=E7 t h
 unfold LR at hc
 generalize gn t=b at hc ⊢
 cases b<;>(
  refine ay rfl (fun cargs w=>call103 cargs w) func103 rfl mixed (by kernel_rfl) rfl ?_;intro b0 hb0
  (repeat' first|simp only[am,ah,results103,ntmps103,ap,aK,cZ,Bt,Bf,ag,seval,ae]|exact rfl|refine aa (v:=.any) ?_|(first|(refine ac ?_ (hc _) ?_)|(refine ab ?_ (fun _=>hc _) ?_))|((first|apply Ca|apply Cb)<;>intro hb)|refine Ai (by omega) ?_|(apply Ai<;>intro hb)|refine Fin.pure ?_ ?_ ?_|simp only[au]))
theorem AA {l:List Tk}(h:512<l.length):cS l=4:=by unfold cS;rw[if_pos h]
theorem DS {l:List Tk}(h:¬ 512<l.length)(h2:(l.any fun t=>!gn t)=true):cS l=8:=by unfold cS;rw[if_neg h,if_pos h2]
theorem DT {l:List Tk}(h:¬ 512<l.length)(h2:(l.any fun t=>!gn t)=false){e:Int}(he:(sZ ⟨[],[]⟩ false l).2=e)(h0:e≠0):cS l=e:=by
 unfold cS;rw[if_neg h,if_neg (by simp[h2]),if_pos (by rw[he];exact h0),he]
theorem DV {l:List Tk}(h:¬ 512<l.length)(h2:(l.any fun t=>!gn t)=false){g:Gr}(he:sZ ⟨[],[]⟩ false l=(g,0))(h0:g.v.isEmpty=true∨g.opn.isEmpty=false):cS l=80:=by
 unfold cS;rw[if_neg h,if_neg (by simp[h2]),he,if_neg (by simp),if_pos h0]
theorem GI {l:List Tk}(h:¬ 512<l.length)(h2:(l.any fun t=>!gn t)=false){g:Gr}(he:sZ ⟨[],[]⟩ false l=(g,0))(h0:¬(g.v.isEmpty=true∨g.opn.isEmpty=false)):cS l=0∧dy l=g.v:=by
 have:cS l=0:=by unfold cS;rw[if_neg h,if_neg (by simp[h2]),he,if_neg (by simp),if_neg h0]
 exact⟨this,by unfold dy;rw[if_pos this,he]⟩
theorem Ag {t:Tk}(h:gn t=true):t.kind=1∨t.kind=3∨t.kind=2∨t.kind=4:=by
 unfold gn at h
 rcases uX t.kind with h1|h1|h1|h1|⟨h1,h2,h3,h4⟩
 ·exact .inl h1
 ·exact .inr (.inl h1)
 ·exact .inr (.inr (.inl h1))
 ·exact .inr (.inr (.inr h1))
 ·rw[if_neg (by omega),if_neg h3,if_neg h4]at h;cases h
theorem ep (b a c:Nat):bV (b+a) (b+c)=(a≤c∧c<a+16):=propext ⟨fun h=>by unfold bV at h;omega,fun h=>by unfold bV;omega⟩
theorem yj (t:Tk):bc (fW t)=[.int .u8 1,.str [],.str t.name,.sl false 3 ((cK t.attrs).map bG),.str [],.int .i64 0]:=rfl
theorem Gh (s:List UInt8):bc (iS s)=[.int .u8 2,.str [],.str [],.sl false 3 [],.str s,.int .i64 0]:=rfl
structure PSt where
 k:Nat
 g:Gr
 junk:List Nat
 last:Nat
def PSt.inv (l:List Tk)(x:PSt):Prop:=x.k≤l.length∧x.g.Ok x.k∧sZ ⟨[],[]⟩ false l=sZ x.g (x.last==4) (l.drop x.k)
theorem uc {α:Type}{l:List α}{k:Nat}{t:α}(h:l[k]? = some t):l.drop k=t::l.drop (k+1):=by
 obtain⟨hk,rfl⟩:=List.getElem?_eq_some_iff.1 h
 exact List.drop_eq_getElem_cons hk
theorem FT {l:List Tk}{x:PSt}{t:Tk}(h:x.inv l)(ht:l[x.k]? = some t){g':Gr}(hs:stepG x.g t (x.last==4)=(g',0))(junk':List Nat):PSt.inv l ⟨x.k+1,g',junk',t.kind⟩:=by
 obtain⟨h1,h2,h3⟩:=h
 refine⟨(List.getElem?_eq_some_iff.1 ht).1,?_,?_⟩
 ·have:=B0 h2 t (x.last==4);rw[hs]at this;exact this
 ·rw[h3,uc ht,FJ rfl (by rw[hs]),hs]
theorem IF {l:List Tk}{x:PSt}{t:Tk}(h:x.inv l)(ht:l[x.k]? = some t){e:Int}(hs:(stepG x.g t (x.last==4)).2=e)(he:e≠0):(sZ ⟨[],[]⟩ false l).2=e:=by
 rw[h.2.2,uc ht,Iw (by rw[hs];exact he),hs]
end Go.Proofs.YtcllbjanalhjgaaGreatDoor
