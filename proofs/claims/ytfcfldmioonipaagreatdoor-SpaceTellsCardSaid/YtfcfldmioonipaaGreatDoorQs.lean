/-
 Texts joined: XKe,XKf,XKg.
-/
import Derived.Test.YtfcfldmioonipaaGreatDoorChecked
import Derived.LoopTactic
import Derived.Test.YtfcfldmioonipaaGreatDoorQr
import Derived.Test.YtfcfldmioonipaaGreatDoorQp
import Derived.Test.YtfcfldmioonipaaGreatDoorQe
namespace Go.Proofs.YtfcfldmioonipaaGreatDoor
set_option linter.unusedSimpArgs false
set_option linter.unusedVariables false
open Go Go.RowKit Vm Go.Lib Tryz
open Vm renaming cond_bool→Ca,cond_bit→Cb
open And renaming intro→Ai
open List renaming length_map→Lm,not_mem_nil→Ln,map_nil→Lo,map_cons→Lc,mem_cons→Lk
open Bool renaming not_false→Bf,not_true→Bt
set_option maxRecDepth 100000 in
set_option maxHeartbeats 16000000 in
theorem barey_good (L:Nat)(hL:True)(n:Nd)(k:Fo)(sp:List UInt8)(hk1:n.kind=1)(hg:(Fo.cons n k .nil).good 12 0=true)(hl:k.size+1≤512)(hok:∀ x∈n::k.flat,x.okTo 1000000∧x.i64)(hs:sp.length≤lim)(hc0:checkU (n::k.flat)=0)(ht0:ptsErr sp=0)(hg0:givenU sp=false)(r:V)(eff:List (Nat×Option Blk))(nm:Nat)
  (hr:(wideU ((Fo.cons n k .nil).bare sp)=true∧r = .tup [.nils,.int .i64 4]∧eff=[])∨(wideU ((Fo.cons n k .nil).bare sp)=false∧r = .tup [.own nm 0 ((Fo.cons n k .nil).bare sp).length,.int .i64 0]∧eff=[(nm,some ⟨6,((Fo.cons n k .nil).bare sp).map (ndY L)⟩)])) :
  Ev (cx.at L) 8 nm [.sl false 6 ((n::k.flat).map ndC),.str sp] Mem.nil r eff:=by
 have hlen:(n::k.flat).length≤512:=by simp[Fo.flat_length];omega
 have hc1:=checkU_ev (n::k.flat) (by unfold lim;omega) (fun x hx=>⟨okTo_nd (hok x hx).1 (by decide),(hok x hx).2⟩)
 have ht1:=tCheck_ev sp hs
 have hgv1:=given_ev sp
 rw[hc0]at hc1;rw[ht0]at ht1;rw[hg0]at hgv1
 have hc:=fun nm=>(hc1 nm).at L
 have ht:=fun nm=>(ht1 nm).at L
 have hgv:=fun nm=>(hgv1 nm).at L
 clear hc1 ht1 hgv1
 have hbl:=Fo.bare_len (.cons n k .nil) sp
 simp only[Fo.size]at hbl
 have hcall:=fun (ob pb lk:Nat) (d1:ob≠pb) (M:Mem) (m:Nat) e1 e2 a1 a2 a3 a4 l1 l2 l3=>(barey_all L hL (n::k.flat) hlen hok ob pb d1 (.cons n k .nil) 12 0 hg (fun x hx=>by simpa [Fo.flat] using hx)).1 0 sp [] [] lk M m (by simp) (by simp;omega) e1 e2 a1 a2 a3 a4 l1 l2 l3
 have hcon:=fun (W:List Nd) (hW:W.length≤lim) nm=>((containsnd_ev W 29 [] barP (fun x _ nm=>bare2_ev x nm) hW rfl nm).rows_le (ny_le L W)).at L
 simp only[List.nil_append,List.length_nil,Lo]at hcall
 unfold bkC at hcall
 generalize (Fo.cons n k .nil).bare sp=T at hcall hr hbl
 generalize n::k.flat=v at hc hcall ⊢
 have hcon:=hcon T (by unfold lim;omega)
 have hcw:(T.any barP)=wideU T:=rfl
 rw[hcw]at hcon
 have htt:(T.map (ndY L)).take T.length=T.map (ndY L):=take_map_len _ _
 refine ev_goW rfl (fun cargs w=>call8 cargs w) func8 rfl mixed (by kernel_rfl) rfl ?_;intro b0 hb0
 repeat' first|simp only[fins,mems,results8,ntmps8,wks,vcs,seval,tys,Cx.at_P]|exact rfl|refine call_off (v:=.any) ?_|((first|apply Ca|apply Cb)<;>intro hb)|refine Ai (by omega) ?_|(apply Ai<;>intro hb)
 (refine mid_can_on (cyG L) (b0+16) ([(1,.str sp),(2,.rp [.sl false 6 (v.map ndC)]),(4,.ptr b0 0 0)]) ([(b0,⟨1,[[.nils]]⟩)]) [some (b0+16)] ?_ ?_ ?_;(focus (show b0≤_;omega));(focus (refine⟨?_,?_⟩<;>(try simp only[cans,canfs,plain_ny,plain_nd,isRow_inst,leLL_same,vcs,seval,tys,Cx.at_P,injs])<;>(try omega))))
 repeat' first|simp only[fins,mems,results8,ntmps8,wks,plain_ny,plain_nd,vcs,seval,tys,Cx.at_P]|exact rfl|refine call_off (v:=.any) ?_|(first|(refine call_fn ?_ (hc _) ?_)|(refine call_fn_g ?_ (fun _=>hc _) ?_))|((first|apply Ca|apply Cb)<;>intro hb)|refine Ai (by omega) ?_|(apply Ai<;>intro hb)
 refine mid_skip ?_
 repeat' first|simp only[fins,mems,results8,ntmps8,wks,plain_ny,plain_nd,Bt,Bf,vcs,seval,tys,Cx.at_P]|exact rfl|refine call_off (v:=.any) ?_|(first|(refine call_fn ?_ (ht _) ?_)|(refine call_fn_g ?_ (fun _=>ht _) ?_)|(refine call_fn ?_ (hgv _) ?_)|(refine call_fn_g ?_ (fun _=>hgv _) ?_))|((first|apply Ca|apply Cb)<;>intro hb)|refine Ai (by omega) ?_|(apply Ai<;>intro hb)
 refine mid_skip ?_
 repeat' first|simp only[fins,mems,results8,ntmps8,wks,plain_ny,plain_nd,vcs,seval,tys,Cx.at_P]|exact rfl|refine call_off (v:=.any) ?_|((first|apply Ca|apply Cb)<;>intro hb)|refine Ai (by omega) ?_|(apply Ai<;>intro hb)
 refine mid_skip ?_
 repeat' first|simp only[fins,mems,results8,ntmps8,wks,plain_ny,plain_nd,vcs,seval,tys,Cx.at_P]|exact rfl|refine call_off (v:=.any) ?_|((first|apply Ca|apply Cb)<;>intro hb)|refine Ai (by omega) ?_|(apply Ai<;>intro hb)
 (refine mid_can (cyG L) (b0+16) ([(1,.str sp),(4,.ptr b0 0 0),(7,.ptr (b0+1) 0 0)]) ([(b0,⟨1,[[.own (b0+2) 0 0]]⟩),(b0+1,⟨1,[[.fn 27 [.rp [.sl false 6 (v.map ndC)],.ptr b0 0 0,.ptr (b0+1) 0 0]]]⟩),(b0+2,⟨6,[]⟩)]) [some b0,some (b0+208),none] ?_ ?_ ?_;(focus (show b0≤_;omega));(focus (refine⟨?_,?_⟩<;>(try simp only[cans,plain_ny,plain_nd,isRow_inst,leLL_same,Bool.and_self,Bool.and_false,Bool.false_and,Lm,vcs,seval,tys,Cx.at_P,injs])<;>(try omega))))
 cases hw:wideU T with
 | true =>
  have hre:r = .tup [.nils,.int .i64 4]∧eff=[]:=by
   rcases hr with ⟨_,h⟩|⟨h,_⟩
   ·exact h
   ·rw[hw]at h;cases h
  obtain⟨rfl,rfl⟩:=hre
  rw[hw]at hcon
  repeat' first|simp only[fins,mems,results8,ntmps8,wks,htt,plain_ny,plain_nd,fresh_self,Lm,vcs,seval,tys,Cx.at_P]|exact rfl|refine call_off (v:=.any) ?_|((refine call_fn_vx (xs:=?_) [b0,b0+48] ?_ ?_ ?_ rfl (hcon _) ?_);rotate_left 1)|((refine call_full (caps:=?_) ?_ ?_ [b0,b0+2,b0+1] (hcall b0 (b0+1) (b0+2) (by omega) _ _ (by omega) (by omega) ?_ ?_ ?_ only_mem (by omega) (by omega) (by omega)) ?_ ?_);rotate_left 1)|refine mid_skip ?_|omega|((first|apply Ca|apply Cb)<;>intro hb)|refine Ai (by omega) ?_|(apply Ai<;>intro hb)
  all_goals ((refine Fin.pure ?_ ?_ ?_<;>simp only[wks,plain_ny,plain_nd,results8,ntmps8,vcs,seval,tys,Cx.at_P]))
 | false =>
  have hre:r = .tup [.own nm 0 T.length,.int .i64 0]∧eff=[(nm,some ⟨6,T.map (ndY L)⟩)]:=by
   rcases hr with ⟨h,_⟩|⟨_,h⟩
   ·rw[hw]at h;cases h
   ·exact h
  obtain⟨rfl,rfl⟩:=hre
  rw[hw]at hcon
  repeat' first|simp only[fins,mems,results8,ntmps8,wks,htt,plain_ny,plain_nd,fresh_self,Lm,vcs,seval,tys,Cx.at_P]|exact rfl|refine call_off (v:=.any) ?_|((refine call_fn_vx (xs:=?_) [b0,b0+48] ?_ ?_ ?_ rfl (hcon _) ?_);rotate_left 1)|((refine call_full (caps:=?_) ?_ ?_ [b0,b0+2,b0+1] (hcall b0 (b0+1) (b0+2) (by omega) _ _ (by omega) (by omega) ?_ ?_ ?_ only_mem (by omega) (by omega) (by omega)) ?_ ?_);rotate_left 1)|refine mid_skip ?_|omega|((first|apply Ca|apply Cb)<;>intro hb)|refine Ai (by omega) ?_|(apply Ai<;>intro hb)
  all_goals ((refine Fin.give [(b0+48,some 0)] [] ?_ ?_ ?_ ?_ ?_ (fun q hq=>by have hqq:=nil_mem q hq;first|(simp only[gives,tgt,Lc,Lo,Lk,Ln,or_false]at hqq ⊢;omega)|(simp only[gives,tgt,Lc,Lo,Lk,Ln,or_false]at hqq))<;>(try simp only[results8,ntmps8,wks,plain_ny,plain_nd,Lm,giv,vcs,seval,tys,Cx.at_P])<;>(try simp only[injs])<;>(try omega)))
theorem bareY_ev (L:Nat)(hL:True)(v:List Nd)(sp:List UInt8)(hv:v.length≤lim)(hok:∀ n∈v,n.okTo 1000000∧n.i64)(hs:sp.length≤lim)(nm:Nat) :
  Ev (cx.at L) 8 nm [.sl false 6 (v.map ndC),.str sp] Mem.nil (treeY L (bareU v sp).1 (bareU v sp).2) []:=by
 by_cases hbad:checkU v≠0∨ptsErr sp≠0∨givenU sp=true
 ·have hb:bareU v sp=([],if checkU v≠0 then checkU v else 8):=by
   unfold bareU
   by_cases h1:checkU v≠0
   ·rw[if_pos h1,if_pos h1]
   ·rw[if_neg h1,if_neg h1,if_pos (hbad.resolve_left h1)]
  rw[hb]
  refine Ev.res_le ((bare_bad v sp hv (fun x hx=>⟨okTo_nd (hok x hx).1 (by decide),(hok x hx).2⟩) hs hbad nm).at L) ?_
  unfold treeY
  simp only[le_tup,leL_cons,leL_nil,le_nils_ys,le_int,Lo,and_self]
 ·have h1:checkU v=0:=Decidable.not_not.1 fun h=>hbad (.inl h)
  have h2:ptsErr sp=0:=Decidable.not_not.1 fun h=>hbad (.inr (.inl h))
  have h3:givenU sp=false:=by
   cases h:givenU sp with
   | false=>rfl
   | true=>exact absurd (.inr (.inr h)) hbad
  obtain⟨n,k,hk,rfl,hg,hl⟩:=tree_ofB (checkU_ok h1).2
  have hb:bareU (n::k.flat) sp=if wideU ((Fo.cons n k .nil).bare sp)=true then ([],4) else ((Fo.cons n k .nil).bare sp,0):=by
   unfold bareU
   rw[if_neg (by simpa using h1),if_neg (by rw[h2,h3];simp),foOf_of hg]
  rw[hb]
  have hgood:=barey_good L hL n k sp hk hg hl hok hs h1 h2 h3
  generalize (Fo.cons n k .nil).bare sp=T at hgood ⊢
  cases hw:wideU T with
  | true =>
   rw[if_pos rfl]
   refine Ev.res_le (hgood _ _ nm (.inl ⟨hw,rfl,rfl⟩)) ?_
   unfold treeY
   simp only[le_tup,leL_cons,leL_nil,le_nils_ys,le_int,Lo,and_self]
  | false =>
   rw[if_neg (by decide)]
   have hpl:=plain_ny L T
   have htk:(T.map (ndY L)).take T.length=T.map (ndY L):=take_map_len _ _
   refine Ev.young (hgood _ _ nm (.inr ⟨hw,rfl,rfl⟩)) (L:=L) (atG L hL) (fun x hx k hk=>?_) ?_ ?_
   ·rw[List.mem_singleton]at hx;subst hx
    simp only[Option.some.injEq]at hk;subst hk
    rfl
   ·simp only[fins,mems,wks,hpl,htk,Lm,vcs,seval,tys,Cx.at_P]<;>omega
   ·unfold treeY
    simp only[V.you,youL,szOf,fins,mems,wks,hpl,htk,Lm,vcs,seval,tys,Cx.at_P]
def isSl:Value→Bool
 | .slice _ _ _=>true
 | _=>false
structure Spo (L U:Nat) (w0 w:World):Prop where
 size:w.heap.size=w0.heap.size
 os:w.os=w0.os
 tape:w.tape=w0.tape
 output:w.output=w0.output
 out:∀ b,(b<L∨U≤b)→w.heap[b]? = w0.heap[b]?
 fro:∀ a,w.frozen? a=w0.frozen? a
 sl:∀ a v,w0.cell? a=some v→isSl v=true→w.cell? a=some v
 ot:∀ a v,w0.cell? a=some v → ∃ v',w.cell? a=some v'
theorem Spo.refl (L U:Nat)(w:World):Spo L U w w:=⟨rfl,rfl,rfl,rfl,fun _ _=>rfl,fun _=>rfl,fun _ _ h _=>h,fun _ v h=>⟨v,h⟩⟩
theorem heap_setCell (w:World)(b p x:Nat)(v:Value)(h:x≠b):(w.setCell ⟨b,p,none⟩ v).heap[x]? = w.heap[x]?:=by
 simp only[World.setCell,Array.getElem?_modify]
 rw[if_neg (fun e=>h e.symm)]
theorem Spo.store {L U:Nat}{w0 w:World}(h:Spo L U w0 w){b p:Nat}{v x:Value}(h1:L≤b)(h2:b<U)(hc:w0.cell? ⟨b,p,none⟩=some v)(hv:isSl v=false):Spo L U w0 (w.setCell ⟨b,p,none⟩ x) where
 size:=by rw[World.size_setCell];exact h.size
 os:=h.os
 tape:=h.tape
 output:=h.output
 out:=fun y hy=>by rw[heap_setCell _ _ _ _ _ (by omega)];exact h.out y hy
 fro:=fun a=>by rw[World.frozen?_setCell];exact h.fro a
 sl:=fun a u hu hs=>by
  by_cases e:(⟨b,p,none⟩:Addr)=a
  ·subst e;rw[hc]at hu;cases hu;rw[hv]at hs;cases hs
  ·rw[World.cell?_setCell_other (h:=e)];exact h.sl a u hu hs
 ot:=fun a u hu=>by
  obtain⟨v',hv'⟩:=h.ot a u hu
  exact cell?_setCell_some hv'
def SpTree (f1 f2 L U:Nat)(w:World)(b o n:Nat):Prop :=
 ∀ i,i<n→L≤b∧b<U∧(∃ v,w.cell? ⟨b,o+i*6+f1,none⟩=some v∧isSl v=false)∧w.frozen? ⟨b,o+i*6+f1,none⟩=false ∧
  ∃ A m c,w.cell? ⟨b,o+i*6+3,none⟩=some (.slice A m c)∧m≤1000000 ∧ ∀ k,k<m → ∃ b' o',A=some ⟨b',o',none⟩∧L≤b'∧b'<U∧w.frozen? ⟨b',o'+k*3+f2,none⟩=false ∧ ∃ v,w.cell? ⟨b',o'+k*3+f2,none⟩=some v∧isSl v=false
set_option maxHeartbeats 4000000 in
theorem spoil_calls (L U b o n c:Nat)(w:World)(hn:n≤1000000)(ht:SpTree 2 2 L U w b o n) :
  Calls Tryz.prog 13 #[.slice (some ⟨b,o,none⟩) n c] w fun e w'=>e = .returned (.tuple #[])∧Spo L U w w':=by
 have hs0:=Spo.refl L U w
 go_enter func13,ntmps13
 go_wp2
 go_loopw [2] (fun s2 wr=>∃ i:Nat,i≤n∧s2 = .int .i64 i∧Spo L U w wr) (fun s2 _=>n-(RowKit.intOf s2).toNat)
 case atStart=>exact⟨0,Nat.zero_le _,rfl,hs0⟩
 case round =>
  obtain⟨i,hi,rfl,hsp⟩:=hrel
  by_cases hlt:i<n
  ·obtain⟨t1,t2,⟨v1,t3,t4⟩,t5,A,m,cA,t6,t7,t8⟩:=ht i hlt
   go_wp2
   obtain⟨wo,rfl⟩:∃ wo:World,wo=wr:=⟨_,rfl⟩
   go_loopw [3] (fun s3 wr2=>∃ k:Nat,k≤m∧s3 = .int .i64 k∧Spo L U w wr2) (fun s3 _=>m-(RowKit.intOf s3).toNat)
   case atStart=>exact⟨0,Nat.zero_le _,rfl,hsp⟩
   case round =>
    obtain⟨k,hk,rfl,hsq⟩:=hrel
    have e1:=hsq.sl _ _ t6 rfl
    by_cases hkm:k<m
    ·obtain⟨b',o',rfl,a1,a2,a3,v2,a4,a5⟩:=t8 k hkm
     obtain⟨v3,a6⟩:=hsq.ot _ _ a4
     have a7:=(hsq.fro ⟨b',o'+k*3+2,none⟩).trans a3
     go_wp2
     exact⟨⟨k+1,by omega,by simp,hsq.store a1 a2 a4 a5⟩,by simp only[RowKit.intOf];omega⟩
    ·obtain⟨v3,a6⟩:=hsq.ot _ _ t3
     have a7:=(hsq.fro ⟨b,o+i*6+2,none⟩).trans t5
     go_wp2
     exact⟨⟨i+1,by omega,by simp,hsq.store t1 t2 t3 t4⟩,by simp only[RowKit.intOf];omega⟩
  ·go_wp2
   exact⟨rfl,_,results_none results13 _ _ _,rfl,hsp⟩
set_option maxHeartbeats 4000000 in
theorem spoil_none (A:Option Addr)(c:Nat)(w:World) :
  Calls Tryz.prog 13 #[.slice A 0 c] w fun e w'=>e = .returned (.tuple #[])∧w'=w:=by
 go_enter func13,ntmps13
 go_wp2
 go_loop [2] (fun s2=>s2 = .int .i64 0) (fun _=>0)
 case atStart=>rfl
 case round =>
  subst hrel
  go_wp2
  exact⟨rfl,_,results_none results13 _ _ _,rfl,rfl⟩
def noN:Names:=fun _=>none
def noD:Nat→Prop:=fun _=>False
def Fz (w:World)(v:V)(cv:Value):Prop:=Is noN noD w v cv
structure Grows (w w':World):Prop where
 size:w.heap.size≤w'.heap.size
 os:w'.os=w.os
 tape:w'.tape=w.tape
 output:w'.output=w.output
 keep:∀ b,b<w.heap.size→w'.heap[b]? = w.heap[b]?
theorem Grows.refl (w:World):Grows w w:=⟨Nat.le_refl _,rfl,rfl,rfl,fun _ _=>rfl⟩
theorem Grows.trans {a b c:World}(h:Grows a b)(g:Grows b c):Grows a c:=⟨Nat.le_trans h.size g.size,g.os.trans h.os,g.tape.trans h.tape,g.output.trans h.output,fun x hx=>(g.keep x (Nat.lt_of_lt_of_le hx h.size)).trans (h.keep x hx)⟩
theorem Fz.grow {w w':World}{v:V}{cv:Value}(h:Fz w v cv)(g:Grows w w'):Fz w' v cv:=Is.step (fun _ _ h=>h) g.size (fun b hb _=>g.keep b hb) (fun _ _ h=>h) h
section
variable {c:Cx} {f:FuncId} {args:List V} {v:V} {w:World} {cargs:Array Value}
theorem ev_pure (h:Ev c f 0 args Mem.nil v [])(hv:v.plain=true)(hcall:(callFunc f cargs).run c.P w = .ok (.enter f cargs) w)(hG:∀ g,Fz w (c.G g) (.pointer (some ⟨g,0,none⟩)))(hn:args.length=cargs.size)
  (ha:∀(i:Nat) (u:V) (cv:Value),args[i]? = some u→cargs[i]? = some cv→Fz w u cv):Calls c.P f cargs w fun e w'=>∃ cv,e = .returned cv∧Fz w' v cv∧Grows w w':=by
 have hd:∀ b,Dom noD noN Mem.nil b→False:=by
  rintro b (h|⟨_,_,h,_⟩)
  ·exact h
  ·cases h
 have up:∀ {u:V} {cv:Value},Fz w u cv→Is noN (Dom noD noN Mem.nil) w u cv:=fun hu=>Is.step (fun _ _ h=>h) (Nat.le_refl _) (fun _ _ _=>rfl) (fun b _ hb=>(hd b hb).elim) hu
 have hr:Rel c.G noD w (Blocks noN Mem.nil) noN Mem.nil w:=⟨Nat.le_refl _,rfl,rfl,rfl,fun _ _ _=>rfl,fun _ _ h=>(by cases h),fun _ _ _ _ h=>(by cases h),fun _ h=>h.elim,fun g=>up (hG g)⟩
 refine((h.2 noD w noN cargs 0 hr (fun _ _=>rfl) (fun _ _=>⟨rfl,rfl⟩) hn (fun i u cv hi hc=>up (ha i u cv hi hc))).calls hcall).mono ?_
 rintro e w' ⟨cv,rfl,ρ',r,m,hvv,_⟩
 exact⟨cv,rfl,hvv.plain (Nat.le_refl _) (fun _ _ _=>rfl) (fun _ _ h=>h.elim) hv,m.size,m.os,m.tape,m.output,fun b hb=>m.kept b hb (fun _ _ h=>(by cases h))⟩
theorem ev_pureB {b:Bool}(h:Ev c f 0 args Mem.nil (.bool b) [])(hcall:(callFunc f cargs).run c.P w = .ok (.enter f cargs) w)(hG:∀ g,Fz w (c.G g) (.pointer (some ⟨g,0,none⟩)))(hn:args.length=cargs.size)
  (ha:∀(i:Nat) (u:V) (cv:Value),args[i]? = some u→cargs[i]? = some cv→Fz w u cv):Calls c.P f cargs w fun e w'=>e = .returned (.bool b)∧Grows w w':=by
 refine(ev_pure h rfl hcall hG hn ha).mono ?_
 rintro e w' ⟨cv,rfl,hv,g⟩
 cases hv
 exact⟨rfl,g⟩
theorem ev_pureI {k:IntKind}{b:Int}(h:Ev c f 0 args Mem.nil (.int k b) [])(hcall:(callFunc f cargs).run c.P w = .ok (.enter f cargs) w)(hG:∀ g,Fz w (c.G g) (.pointer (some ⟨g,0,none⟩)))(hn:args.length=cargs.size)
  (ha:∀(i:Nat) (u:V) (cv:Value),args[i]? = some u→cargs[i]? = some cv→Fz w u cv):Calls c.P f cargs w fun e w'=>e = .returned (.int k b)∧Grows w w':=by
 refine(ev_pure h rfl hcall hG hn ha).mono ?_
 rintro e w' ⟨cv,rfl,hv,g⟩
 cases hv
 exact⟨rfl,g⟩
theorem ev_pureT {k:IntKind}{b:Int}{u:V}(h:Ev c f 0 args Mem.nil (.tup [u,.int k b]) [])(hu:u.plain=true)(hcall:(callFunc f cargs).run c.P w = .ok (.enter f cargs) w)(hG:∀ g,Fz w (c.G g) (.pointer (some ⟨g,0,none⟩)))(hn:args.length=cargs.size)
    (ha:∀(i:Nat) (u:V) (cv:Value),args[i]? = some u→cargs[i]? = some cv→Fz w u cv):Calls c.P f cargs w fun e w'=>∃ x,e = .returned (.tuple #[x,.int k b])∧Fz w' u x∧Grows w w':=by
  refine(ev_pure h (by simp only[V.plain,plainL,hu,Bool.and_self]) hcall hG hn ha).mono ?_
  rintro e w' ⟨cv,rfl,hv,g⟩
  cases hv with
  | tup hn hu =>
    rename_i cvs
    match cvs,hn,hu with
    |⟨[x,y]⟩,_,hu =>
      have h1:=hu 1 _ y rfl rfl
      cases h1
      exact⟨x,rfl,hu 0 _ x rfl rfl,g⟩
end
theorem glob_any (w:World)(g:Nat):Fz w (cx.G g) (.pointer (some ⟨g,0,none⟩)):=.any _
theorem glob_at {L:Nat}{w:World}(h:L≤w.heap.size)(g:Nat):Fz w ((cx.at L).G g) (.pointer (some ⟨g,0,none⟩)):=by
 show Is noN noD w (if g+1=L then V.rp [] else V.any) _
 split
 ·exact .rp (fun _=>undef) (fun h=>h) (by omega) (fun j u hj=>by cases hj) (fun j u hj=>by cases hj)
 ·exact .any _
theorem Fz.tree {L:Nat}{w:World}{l:List Nd}{x:Value}(h:Fz w (.ys L 6 (l.map (ndY L))) x):Fz w (.sl false 6 (l.map ndC)) x :=
 Is.rows_le (h.le (.sl false 6 (l.map (ndY L))) (by rw[le_ys_sl];exact⟨rfl,rfl,rfl⟩)) (ny_le L l)
theorem frozen_no {w:World}{b p q:Nat}(h:∃ cs t fz,w.heap[b]? = some (.cells cs t fz) ∧ ∀ p,p<q → ¬(fz.1≤p∧p<fz.2))(hp:p<q):w.frozen? ⟨b,p,none⟩=false:=by
 obtain⟨cs,t,⟨f1,f2⟩,h1,h2⟩:=h
 have:=h2 p hp
 simp only[World.frozen?,h1,Bool.and_eq_false_iff,decide_eq_false_iff_not]
 simp only at this
 omega
theorem young_tree {L:Nat}{w:World}{l:List Nd}{x:Value}(h:Fz w (.ys L 6 (l.map (ndY L))) x)(hk:∀ n∈l,n.kind=2→n.attrs=[])(ha:∀ n∈l,n.attrs.length≤1000000) :
  ∃ A c,x = .slice A l.length c∧(l.length=0 ∨ ∃ b o,A=some ⟨b,o,none⟩∧SpTree 2 2 L w.heap.size w b o l.length):=by
 unfold Fz at h
 generalize hrows:l.map (ndY L)=rows at h
 have hlen:rows.length=l.length:=by rw[← hrows,Lm]
 cases h with
 | ys0 =>
  have:l.length=0:=by rw[← hlen];rfl
  exact⟨_,_,by rw[this],.inl this⟩
 | ys cv hc hL hD hb hf hr hx hu =>
  refine⟨_,_,by rw[← hlen],.inr ⟨_,_,rfl,fun i hi=>?_⟩⟩
  obtain⟨n,hn⟩:∃ n,l[i]? = some n:=⟨_,List.getElem?_eq_getElem hi⟩
  have hrow:rows[i]? = some (ndY L n):=by rw[← hrows,List.getElem?_map,hn];rfl
  have hm:=List.mem_of_getElem? hn
  rename_i b o c
  have c2:(ndY L n)[2]? = some (.str n.name):=by unfold ndY;split<;>rfl
  refine⟨hL,hb,⟨cv i 2,hx i 2 _ _ hrow c2,?_⟩,frozen_no hf (by omega),?_⟩
  ·have:=hu i 2 _ _ hrow c2
   generalize cv i 2=y at this
   cases this;rfl
  ·by_cases hk2:n.kind=2
   ·have c3:(ndY L n)[3]? = some (.sl false 3 []):=by unfold ndY;rw[if_pos hk2];unfold ndC;rw[hk n hm hk2];rfl
    have h1:=hx i 3 _ _ hrow c3
    have h2:=hu i 3 _ _ hrow c3
    generalize cv i 3=y at h1 h2
    cases h2 with
    | sl0=>exact⟨_,_,_,h1,Nat.zero_le _,fun k hk=>absurd hk (Nat.not_lt_zero _)⟩
    | sl=>exact⟨_,_,_,h1,Nat.zero_le _,fun k hk=>absurd hk (Nat.not_lt_zero _)⟩
   ·have c3:(ndY L n)[3]? = some (.ys L 3 (n.attrs.map atC)):=by unfold ndY;rw[if_neg hk2];rfl
    have h1:=hx i 3 _ _ hrow c3
    have h2:=hu i 3 _ _ hrow c3
    generalize cv i 3=y at h1 h2
    have hal:=ha n hm
    generalize hat:n.attrs.map atC=ats at h2
    have hatl:ats.length=n.attrs.length:=by rw[← hat,Lm]
    cases h2 with
    | ys0=>exact⟨_,_,_,h1,Nat.zero_le _,fun k hk=>absurd hk (Nat.not_lt_zero _)⟩
    | ys cw wc wL wD wb wf wr wx wu =>
     refine⟨_,_,_,h1,by omega,fun k hk=>⟨_,_,rfl,wL,wb,frozen_no wf (by omega),?_⟩⟩
     obtain⟨a,haa⟩:∃ a,n.attrs[k]? = some a:=⟨_,List.getElem?_eq_getElem (by omega)⟩
     have hra:ats[k]? = some (atC a):=by rw[← hat,List.getElem?_map,haa];rfl
     refine⟨cw k 2,wx k 2 _ _ hra rfl,?_⟩
     have:=wu k 2 _ _ hra rfl
     generalize cw k 2=y at this
     cases this;rfl
theorem cell_same {w w':World}{b p:Nat}(h:w'.heap[b]? = w.heap[b]?):w'.cell? ⟨b,p,none⟩=w.cell? ⟨b,p,none⟩:=World.cell?_of_block h
theorem frozen_same {w w':World}{b p:Nat}(h:w'.heap[b]? = w.heap[b]?):w'.frozen? ⟨b,p,none⟩=w.frozen? ⟨b,p,none⟩:=by
 simp only[World.frozen?,h]
theorem SpTree.keep {f1 f2 L U b o n:Nat}{w w':World}(h:SpTree f1 f2 L U w b o n)(hk:∀ b,L≤b→b<U→w'.heap[b]? = w.heap[b]?):SpTree f1 f2 L U w' b o n:=by
 intro i hi
 obtain⟨t1,t2,t3,t5,A,m,cA,t6,t7,t8⟩:=h i hi
 have hb:=hk b t1 t2
 refine⟨t1,t2,by rw[cell_same hb];exact t3,by rw[frozen_same hb];exact t5,A,m,cA,by rw[cell_same hb];exact t6,t7,fun k hkm=>?_⟩
 obtain⟨b',o',e,a1,a2,a3,a4⟩:=t8 k hkm
 have hb':=hk b' a1 a2
 exact⟨b',o',e,a1,a2,by rw[frozen_same hb'];exact a3,by rw[cell_same hb'];exact a4⟩
end Go.Proofs.YtfcfldmioonipaaGreatDoor
