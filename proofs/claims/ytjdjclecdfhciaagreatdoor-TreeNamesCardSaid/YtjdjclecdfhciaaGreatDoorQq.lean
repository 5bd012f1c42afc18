/-
 Texts joined: XUe.
-/
import Derived.Test.YtjdjclecdfhciaaGreatDoorQp
import Derived.Test.YtjdjclecdfhciaaGreatDoorQo
namespace Go.Proofs.YtjdjclecdfhciaaGreatDoor
set_option maxRecDepth 100000
set_option maxHeartbeats 32000000
set_option linter.unusedSimpArgs false
set_option linter.unusedVariables false
open Go Go.RowKit Vm Go.Lib Tryz
open Vm renaming cond_bool→Ca,cond_bit→Cb
open And renaming intro→Ai
open List renaming length_map→Lm,not_mem_nil→Ln,map_nil→Lo,map_cons→Lc,mem_cons→Lk
open Bool renaming not_false→Bf,not_true→Bt
theorem parse1_ev (t:Tk)(h:t.okTo lim)(nm:Nat):Ev cx 66 nm [.agg (tkC t)] Mem.nil (.bool (!tokL t)) []:=by
 have hc:=check_ev t h
 unfold tokE at hc
 generalize tokL t=b at hc ⊢
 cases b<;>(
  refine ev_go rfl (fun cargs w=>call66 cargs w) func66 rfl mixed (by kernel_rfl) rfl ?_;intro b0 hb0
  (repeat' first|simp only[fins,mems,results66,ntmps66,wks,plain_pr,tkC,Bt,Bf,vcs,seval,tys]|exact rfl|refine call_off (v:=.any) ?_|(first|(refine call_fn ?_ (hc _) ?_)|(refine call_fn_g ?_ (fun _=>hc _) ?_))|((first|apply Ca|apply Cb)<;>intro hb)|refine Ai (by omega) ?_|(apply Ai<;>intro hb)|refine Fin.pure ?_ ?_ ?_|simp only[injs]))
theorem parse_many {l:List Tk}(h:512<l.length):parseE l=4:=by unfold parseE;rw[if_pos h]
theorem parse_bad {l:List Tk}(h:¬ 512<l.length)(h2:(l.any fun t=>!tokL t)=true):parseE l=8:=by unfold parseE;rw[if_neg h,if_pos h2]
theorem parse_err {l:List Tk}(h:¬ 512<l.length)(h2:(l.any fun t=>!tokL t)=false){e:Int}(he:(goG ⟨[],[]⟩ false l).2=e)(h0:e≠0):parseE l=e:=by
 unfold parseE;rw[if_neg h,if_neg (by simp[h2]),if_pos (by rw[he];exact h0),he]
theorem parse_xml {l:List Tk}(h:¬ 512<l.length)(h2:(l.any fun t=>!tokL t)=false){g:Gr}(he:goG ⟨[],[]⟩ false l=(g,0))(h0:g.v.isEmpty=true∨g.opn.isEmpty=false):parseE l=80:=by
 unfold parseE;rw[if_neg h,if_neg (by simp[h2]),he,if_neg (by simp),if_pos h0]
theorem parse_ok {l:List Tk}(h:¬ 512<l.length)(h2:(l.any fun t=>!tokL t)=false){g:Gr}(he:goG ⟨[],[]⟩ false l=(g,0))(h0:¬(g.v.isEmpty=true∨g.opn.isEmpty=false)):parseE l=0∧parseT l=g.v:=by
 have:parseE l=0:=by unfold parseE;rw[if_neg h,if_neg (by simp[h2]),he,if_neg (by simp),if_neg h0]
 exact⟨this,by unfold parseT;rw[if_pos this,he]⟩
theorem kind_cases {t:Tk}(h:tokL t=true):t.kind=1∨t.kind=3∨t.kind=2∨t.kind=4:=by
 unfold tokL at h
 rcases tok_kinds t.kind with h1|h1|h1|h1|⟨h1,h2,h3,h4⟩
 ·exact .inl h1
 ·exact .inr (.inl h1)
 ·exact .inr (.inr (.inl h1))
 ·exact .inr (.inr (.inr h1))
 ·rw[if_neg (by omega),if_neg h3,if_neg h4]at h;cases h
theorem fresh_lit (b a c:Nat):Fresh (b+a) (b+c)=(a≤c∧c<a+16):=propext ⟨fun h=>by unfold Fresh at h;omega,fun h=>by unfold Fresh;omega⟩
theorem ndC_elem (t:Tk):ndC (elemN t)=[.int .u8 1,.str [],.str t.name,.sl false 3 ((givenL t.attrs).map atC),.str [],.int .i64 0]:=rfl
theorem ndC_text (s:List UInt8):ndC (textN s)=[.int .u8 2,.str [],.str [],.sl false 3 [],.str s,.int .i64 0]:=rfl
structure PSt where
 k:Nat
 g:Gr
 junk:List Nat
 last:Nat
def PSt.inv (l:List Tk)(x:PSt):Prop:=x.k≤l.length∧x.g.Ok x.k∧goG ⟨[],[]⟩ false l=goG x.g (x.last==4) (l.drop x.k)
theorem drop_cons {α:Type}{l:List α}{k:Nat}{t:α}(h:l[k]? = some t):l.drop k=t::l.drop (k+1):=by
 obtain⟨hk,rfl⟩:=List.getElem?_eq_some_iff.1 h
 exact List.drop_eq_getElem_cons hk
theorem inv_next {l:List Tk}{x:PSt}{t:Tk}(h:x.inv l)(ht:l[x.k]? = some t){g':Gr}(hs:stepG x.g t (x.last==4)=(g',0))(junk':List Nat):PSt.inv l ⟨x.k+1,g',junk',t.kind⟩:=by
 obtain⟨h1,h2,h3⟩:=h
 refine⟨(List.getElem?_eq_some_iff.1 ht).1,?_,?_⟩
 ·have:=step_ok h2 t (x.last==4);rw[hs]at this;exact this
 ·rw[h3,drop_cons ht,goG_take rfl (by rw[hs]),hs]
theorem inv_err {l:List Tk}{x:PSt}{t:Tk}(h:x.inv l)(ht:l[x.k]? = some t){e:Int}(hs:(stepG x.g t (x.last==4)).2=e)(he:e≠0):(goG ⟨[],[]⟩ false l).2=e:=by
 rw[h.2.2,drop_cons ht,goG_err (by rw[hs];exact he),hs]
end Go.Proofs.YtjdjclecdfhciaaGreatDoor
