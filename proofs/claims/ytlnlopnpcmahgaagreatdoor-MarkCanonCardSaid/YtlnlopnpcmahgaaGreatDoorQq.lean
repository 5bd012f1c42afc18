/-
 Texts joined: XUe.
-/
import Derived.Test.YtlnlopnpcmahgaaGreatDoorQp
import Derived.Test.YtlnlopnpcmahgaaGreatDoorQo
set_option linter.all false
namespace Go.Proofs.YtlnlopnpcmahgaaGreatDoor
set_option maxRecDepth 100000
set_option maxHeartbeats 32000000
open Go Go.RowKit Vm Go.Lib Tryz
open Vm renaming ba->Ca,bh->Cb
open And renaming intro->Ai
open List renaming length_map->Lm,not_mem_nil->Ln,map_nil->Lo,map_cons->Lc,mem_cons->Lk
open Bool renaming not_false->Bf,not_true->Bt
def Hg (t:Tk)(h:t.okTo be)(nm:Nat):Ev cx 100 nm [.agg (bE t)] ap.nil (.bool (!cR t)) []:=by
 have hc:=zC t h
 unfold OH at hc
 generalize cR t=b at hc ⊢
 cases b<;>(
  refine bi call100 func100 rfl (by kernel_rfl) rfl ?_;intro b0 hb0
  (repeat' first|simp only[ak,aj,results100,ntmps100,al,ay,bE,Bt,Bf,ai,seval,ah]|exact rfl|refine aa (v:=.any) ?_|(first|(refine ad ?_ (hc _) ?_)|(refine ab ?_ (fun _=>hc _) ?_))|((first|apply Ca|apply Cb)<;>intro hb)|refine Ai (by omega) ?_|(apply Ai<;>intro hb)|refine Fin.pure ?_ ?_ ?_|simp only[ao]))
def Dq {l:List Tk}(h:512<l.length):cB l=4:=by unfold cB;rw[if_pos h]
def Hh {l:List Tk}(h:¬ 512<l.length)(h2:(l.any fun t=>!cR t)=true):cB l=8:=by unfold cB;rw[if_neg h,if_pos h2]
def Hi {l:List Tk}(h:¬ 512<l.length)(h2:(l.any fun t=>!cR t)=false){e:Int}(he:(qR ⟨[],[]⟩ false l).2=e)(h0:e≠0):cB l=e:=by
 unfold cB;rw[if_neg h,if_neg (by simp[h2]),if_pos (by rw[he];exact h0),he]
def Hj {l:List Tk}(h:¬ 512<l.length)(h2:(l.any fun t=>!cR t)=false){g:Gr}(he:qR ⟨[],[]⟩ false l=(g,0))(h0:g.v.isEmpty=true\/g.opn.isEmpty=false):cB l=80:=by
 unfold cB;rw[if_neg h,if_neg (by simp[h2]),he,if_neg (by simp),if_pos h0]
def KY {l:List Tk}(h:¬ 512<l.length)(h2:(l.any fun t=>!cR t)=false){g:Gr}(he:qR ⟨[],[]⟩ false l=(g,0))(h0:¬(g.v.isEmpty=true\/g.opn.isEmpty=false)):cB l=0/\dy l=g.v:=by
 have:cB l=0:=by unfold cB;rw[if_neg h,if_neg (by simp[h2]),he,if_neg (by simp),if_neg h0]
 exact⟨this,by unfold dy;rw[if_pos this,he]⟩
def C3 {t:Tk}(h:cR t=true):t.kind=1\/t.kind=3\/t.kind=2\/t.kind=4:=by
 unfold cR at h
 rcases xd t.kind with h1|h1|h1|h1|⟨h1,h2,h3,h4⟩
 ·exact .inl h1
 ·exact .inr (.inl h1)
 ·exact .inr (.inr (.inl h1))
 ·exact .inr (.inr (.inr h1))
 ·rw[if_neg (by omega),if_neg h3,if_neg h4]at h;cases h
def fh (b a c:Nat):cg (b+a) (b+c)=(a<=c/\c<a+16):=propext ⟨fun h=>by unfold cg at h;omega,fun h=>by unfold cg;omega⟩
def A2 (t:Tk):aZ (fP t)=[.int .u8 1,.str [],.str t.name,.sl false 3 ((co t.attrs).map bN),.str [],.int .i64 0]:=rfl
def Kv (s:List UInt8):aZ (iY s)=[.int .u8 2,.str [],.str [],.sl false 3 [],.str s,.int .i64 0]:=rfl
structure PSt where
 k:Nat
 g:Gr
 junk:List Nat
 last:Nat
def PSt.inv (l:List Tk)(x:PSt):Prop:=x.k<=l.length/\x.g.Ok x.k/\qR ⟨[],[]⟩ false l=qR x.g (x.last==4) (l.drop x.k)
def wi {α:Type}{l:List α}{k:Nat}{t:α}(h:l[k]? = some t):l.drop k=t::l.drop (k+1):=by
 obtain⟨hk,rfl⟩:=List.getElem?_eq_some_iff.1 h
 exact List.drop_eq_getElem_cons hk
def JL {l:List Tk}{x:PSt}{t:Tk}(h:x.inv l)(ht:l[x.k]? = some t){g':Gr}(hs:stepG x.g t (x.last==4)=(g',0))(junk':List Nat):PSt.inv l ⟨x.k+1,g',junk',t.kind⟩:=by
 obtain⟨h1,h2,h3⟩:=h
 refine⟨(List.getElem?_eq_some_iff.1 ht).1,?_,?_⟩
 ·have:=Ff h2 t (x.last==4);rw[hs]at this;exact this
 ·rw[h3,wi ht,iO rfl (by rw[hs]),hs]
def NJ {l:List Tk}{x:PSt}{t:Tk}(h:x.inv l)(ht:l[x.k]? = some t){e:Int}(hs:(stepG x.g t (x.last==4)).2=e)(he:e≠0):(qR ⟨[],[]⟩ false l).2=e:=by
 rw[h.2.2,wi ht,NB (by rw[hs];exact he),hs]
end Go.Proofs.YtlnlopnpcmahgaaGreatDoor
