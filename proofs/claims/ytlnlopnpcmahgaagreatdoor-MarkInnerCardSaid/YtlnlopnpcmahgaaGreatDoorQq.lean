/-
 Texts joined: XUe.
-/
import Derived.Test.YtlnlopnpcmahgaaGreatDoorQp
import Derived.Test.YtlnlopnpcmahgaaGreatDoorQo
set_option linter.all false
namespace Go.Proofs.YtlnlopnpcmahgaaGreatDoor
set_option maxRecDepth 100000
set_option maxHeartbeats 32000000
open Go Go.RowKit Vm Go.Lib Tryz
open Vm renaming aW->Ca,bf->Cb
open And renaming intro->Ai
open List renaming length_map->Lm,not_mem_nil->Ln,map_nil->Lo,map_cons->Lc,mem_cons->Lk
open Bool renaming not_false->Bf,not_true->Bt
def GZ (t:Tk)(h:t.okTo bc)(nm:Nat):Ev cx 100 nm [.agg (bE t)] am.nil (.bool (!ed t)) []:=by
 have hc:=zl t h
 unfold Ov at hc
 generalize ed t=b at hc ⊢
 cases b<;>(
  refine bh call100 func100 rfl (by kernel_rfl) rfl ?_;intro b0 hb0
  (repeat' first|simp only[ak,ag,results100,ntmps100,al,ay,bE,Bt,Bf,ai,seval,ah]|exact rfl|refine aa (v:=.any) ?_|(first|(refine ae ?_ (hc _) ?_)|(refine ab ?_ (fun _=>hc _) ?_))|((first|apply Ca|apply Cb)<;>intro hb)|refine Ai (by omega) ?_|(apply Ai<;>intro hb)|refine Fin.pure ?_ ?_ ?_|simp only[ap]))
def Dd {l:List Tk}(h:512<l.length):cR l=4:=by unfold cR;rw[if_pos h]
def G0 {l:List Tk}(h:¬ 512<l.length)(h2:(l.any fun t=>!ed t)=true):cR l=8:=by unfold cR;rw[if_neg h,if_pos h2]
def G2 {l:List Tk}(h:¬ 512<l.length)(h2:(l.any fun t=>!ed t)=false){e:Int}(he:(vb ⟨[],[]⟩ false l).2=e)(h0:e≠0):cR l=e:=by
 unfold cR;rw[if_neg h,if_neg (by simp[h2]),if_pos (by rw[he];exact h0),he]
def G3 {l:List Tk}(h:¬ 512<l.length)(h2:(l.any fun t=>!ed t)=false){g:Gr}(he:vb ⟨[],[]⟩ false l=(g,0))(h0:g.v.isEmpty=true\/g.opn.isEmpty=false):cR l=80:=by
 unfold cR;rw[if_neg h,if_neg (by simp[h2]),he,if_neg (by simp),if_pos h0]
def KL {l:List Tk}(h:¬ 512<l.length)(h2:(l.any fun t=>!ed t)=false){g:Gr}(he:vb ⟨[],[]⟩ false l=(g,0))(h0:¬(g.v.isEmpty=true\/g.opn.isEmpty=false)):cR l=0/\dJ l=g.v:=by
 have:cR l=0:=by unfold cR;rw[if_neg h,if_neg (by simp[h2]),he,if_neg (by simp),if_neg h0]
 exact⟨this,by unfold dJ;rw[if_pos this,he]⟩
def CQ {t:Tk}(h:ed t=true):t.kind=1\/t.kind=3\/t.kind=2\/t.kind=4:=by
 unfold ed at h
 rcases wV t.kind with h1|h1|h1|h1|⟨h1,h2,h3,h4⟩
 ·exact .inl h1
 ·exact .inr (.inl h1)
 ·exact .inr (.inr (.inl h1))
 ·exact .inr (.inr (.inr h1))
 ·rw[if_neg (by omega),if_neg h3,if_neg h4]at h;cases h
def fc (b a c:Nat):b7 (b+a) (b+c)=(a<=c/\c<a+16):=propext ⟨fun h=>by unfold b7 at h;omega,fun h=>by unfold b7;omega⟩
def AH (t:Tk):aV (gT t)=[.int .u8 1,.str [],.str t.name,.sl false 3 ((dh t.attrs).map b9),.str [],.int .i64 0]:=rfl
def JW (s:List UInt8):aV (jU s)=[.int .u8 2,.str [],.str [],.sl false 3 [],.str s,.int .i64 0]:=rfl
structure PSt where
 k:Nat
 g:Gr
 junk:List Nat
 last:Nat
def PSt.inv (l:List Tk)(x:PSt):Prop:=x.k<=l.length/\x.g.Ok x.k/\vb ⟨[],[]⟩ false l=vb x.g (x.last==4) (l.drop x.k)
def v6 {α:Type}{l:List α}{k:Nat}{t:α}(h:l[k]? = some t):l.drop k=t::l.drop (k+1):=by
 obtain⟨hk,rfl⟩:=List.getElem?_eq_some_iff.1 h
 exact List.drop_eq_getElem_cons hk
def Jw {l:List Tk}{x:PSt}{t:Tk}(h:x.inv l)(ht:l[x.k]? = some t){g':Gr}(hs:stepG x.g t (x.last==4)=(g',0))(junk':List Nat):PSt.inv l ⟨x.k+1,g',junk',t.kind⟩:=by
 obtain⟨h1,h2,h3⟩:=h
 refine⟨(List.getElem?_eq_some_iff.1 ht).1,?_,?_⟩
 ·have:=EY h2 t (x.last==4);rw[hs]at this;exact this
 ·rw[h3,v6 ht,Jk rfl (by rw[hs]),hs]
def Nt {l:List Tk}{x:PSt}{t:Tk}(h:x.inv l)(ht:l[x.k]? = some t){e:Int}(hs:(stepG x.g t (x.last==4)).2=e)(he:e≠0):(vb ⟨[],[]⟩ false l).2=e:=by
 rw[h.2.2,v6 ht,Nj (by rw[hs];exact he),hs]
end Go.Proofs.YtlnlopnpcmahgaaGreatDoor
