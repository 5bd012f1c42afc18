/-
 Texts joined: XOk,XOl,XIb,XJf,XJg,XJv,XKa,XKf,XKg.
-/
import Derived.Test.YtfcfldmioonipaaChecked
import Derived.LoopTactic
import Derived.Test.YtfcfldmioonipaaQq
import Derived.Test.YtfcfldmioonipaaQp
import Derived.Test.YtfcfldmioonipaaQo
import Derived.Test.YtfcfldmioonipaaQn
import Derived.Test.YtfcfldmioonipaaQe
namespace Go.Proofs.Ytfcfldmioonipaa
set_option maxRecDepth 100000
set_option maxHeartbeats 32000000
set_option linter.unusedSimpArgs false
set_option linter.unusedVariables false
open Go Go.RowKit Vm Go.Lib Try
open Vm renaming cond_bool→Ca,cond_bit→Cb
open And renaming intro→Ai
open List renaming length_map→Lm,not_mem_nil→Ln,map_nil→Lo,map_cons→Lc,mem_cons→Lk
open Bool renaming not_false→Bf,not_true→Bt
theorem rTwin_own (v:List Nd)(hv:v.length≤1000)(ha:∀ n∈v,n.attrs.length≤1000)(nm:Nat):Ev cx 6 nm [.sl false 6 (v.map ndC)] Mem.nil (.own nm 0 v.length) [(nm,some ⟨6,v.map ndC⟩)]:=by
 refine ev_go rfl (fun cargs w=>call6 cargs w) func6 rfl mixed (by kernel_rfl) rfl ?_;intro b0 hb0
 repeat' first|simp only[fins,mems,results6,ntmps6,wks,vcs,seval,tys]|exact rfl|refine call_off (v:=.any) ?_|((first|apply Ca|apply Cb)<;>intro hb)|refine Ai (by omega) ?_|(apply Ai<;>intro hb)
 (refine loop_can2F cxG (fun x:Nat=>v.length-x) (fun x=>x≤v.length) (b0+16) (fun x=>[(0,.sl false 6 (v.map ndC)),(3,.own b0 0 x),(4,.int .i64 x)]) (fun x=>[(b0,⟨6,(v.take x).map ndC⟩)]) (0) [none] ?_ ?_ ?_ ?_;rotate_left 1;(focus (show b0≤_;omega));(focus (refine⟨?_,?_⟩<;>(try simp only[cans,canfs,plain_nd,isRow_inst,List.take_zero,Lo,List.length_nil,Lm,vcs,seval,tys,injs])<;>(try omega)));rotate_left 1)
 ·exact Nat.zero_le _
 ·intro k hk
  by_cases hlt:k<v.length
  ·obtain⟨x,hx⟩:∃ x,v[k]? = some x:=⟨_,List.getElem?_eq_getElem hlt⟩
   have hat:=nd_at hx
   have hxa:=ha x (List.mem_of_getElem? hx)
   have d1:decide ((k:Int)<(v.length:Int))=true:=decide_eq_true (by omega)
   have d2:decide (k<v.length)=true:=decide_eq_true hlt
   have hki:(k:Int)<(v.length:Int):=by omega
   have hwk:IntKind.i64.wrap ((k:Int)+1)=((k+1:Nat):Int):=wrap_in (by omega) (by omega)
   have hkl:(v.take k).length=k:=by rw[List.length_take];omega
   have htk:((v.take k).map ndC).take k=(v.take k).map ndC:=List.take_of_length_le (by rw[Lm,hkl];omega)
   have hta:(x.attrs.map atC).take x.attrs.length=x.attrs.map atC:=take_map_len _ _
   have hsn:(v.take (k+1)).map ndC=(v.take k).map ndC++[ndC x]:=by
    obtain⟨h1,h2⟩:=List.getElem?_eq_some_iff.1 hx
    rw[List.take_succ_eq_append_getElem h1,h2];simp
   repeat' first|simp only[fins,mems,results6,ntmps6,wks,plain_nd,plain_at,hat,ndC,hlt,hki,d1,d2,hwk,htk,hkl,hta,one_atL,List.nil_append,List.length_nil,Nat.zero_add,Lm,vcs,seval,tys]|exact rfl|refine call_off (v:=.any) ?_|((first|apply Ca|apply Cb)<;>intro hb)|refine Ai (by omega) ?_|(apply Ai<;>intro hb)
   all_goals ((refine again_can2F cxG (k+1) [some (b0+320)] ?_ ?_ ?_ ?_;rotate_left 2;(focus (show b0≤_;omega));(focus (refine⟨?_,?_⟩<;>(try simp only[cans,canfs,hwk,hsn,htk,hkl,hta,ndC,isRow_inst,plain_nd,plain_at,finLL_append,finLL_plain _ _ (plain_nd _),finLLOk_append,finLLOk_plain _ _ (plain_nd _),leLL_snoc,leLL_same,List.length_append,List.length_cons,List.length_nil,Lm,vcs,seval,tys,injs])<;>(try omega)))))
   all_goals (first|(show v.length-(k+1)<v.length-k;omega)|exact hlt|skip)
  ·have hkm:k=v.length:=by omega
   subst hkm
   have d1:decide ((v.length:Int)<(v.length:Int))=false:=decide_eq_false (by omega)
   have d2:decide (v.length<v.length)=false:=decide_eq_false (by omega)
   ((repeat' first|simp only[fins,mems,results6,ntmps6,wks,d1,d2,plain_nd,List.take_length,Lm,vcs,seval,tys]|exact rfl|refine call_off (v:=.any) ?_|((first|apply Ca|apply Cb)<;>intro hb)|refine Ai (by omega) ?_|(apply Ai<;>intro hb));(all_goals (first|(refine Fin.auto (r:=?_) (l:=?_) ?_ ?_ ?_ ?_ ?_ ?_ ?_;rotate_left 1;(simp only[results6,ntmps6,envL_cons,envL_nil,memL_cons,memL_nil,d1,d2,plain_nd,List.take_length,Lm,vcs,seval,tys]);(exact rfl);rotate_left 1;(simp only[V.owns,ownsL,List.cons_append,List.nil_append]);(exact rfl);all_goals (try simp only[results6,ntmps6,envL_cons,envL_nil,memL_cons,memL_nil,d1,d2,plain_nd,List.take_length,Lm,ownx,vcs,seval,tys]);all_goals (try simp only[injs]))|skip)))
theorem rTwin_fz (v:List Nd)(hv:v.length≤1000)(ha:∀ n∈v,n.attrs.length≤1000)(nm:Nat):Ev cx 6 nm [.sl false 6 (v.map ndC)] Mem.nil (.sl false 6 (v.map ndC)) []:=by
 have hpl:=plain_nd v
 have htk:(v.map ndC).take v.length=v.map ndC:=take_map_len _ _
 refine Ev.freeze (rTwin_own v hv ha nm) ?_ ?_
 ·simp only[fins,mems,wks,hpl,htk,Lm,vcs,seval,tys]<;>omega
 ·simp only[fins,mems,wks,hpl,htk,Lm,vcs,seval,tys]
theorem atG (L:Nat)(_hL:True):L=0 ∨ ∃ cs,(cx.at L).G (L-1) = .rp cs:=by
 rcases Nat.eq_zero_or_pos L with h0|h0
 ·exact .inl h0
 refine .inr ⟨[],?_⟩
 show(if L-1+1=L then V.rp [] else V.any)=V.rp []
 rw[if_pos (by omega)]
theorem cyG (L:Nat):∀ g,((cx.at L).G g).plain=true:=Cx.at_plain cxG L
def ndE (L:Nat)(n:Nd):List V:=[.int .u8 n.kind,.str n.space,.str n.name,.ys L 3 (n.attrs.map atC),.str n.text,.int .i64 n.many]
theorem plain_ndE (L:Nat)(n:Nd):plainL (ndE L n)=true:=by
 simp only[ndE,plainL,V.plain,plain_at,Bool.and_self]
theorem plain_ndC (n:Nd):plainL (ndC n)=true:=by
 simp only[ndC,plainL,V.plain,plain_at,Bool.and_self]
def isSl:Value→Bool
 | .slice _ _ _=>true
 | _=>false
structure Spo (L U:Nat) (w0 w:World):Prop where
 size:w.heap.size=w0.heap.size
 os:w.os=w0.os
 tape:w.tape=w0.tape
 output:w.output=w0.output
 out:∀ b,(b<L∨U≤b)→w.heap[b]? = w0.heap[b]?
 fro:∀ a,w.frozen? a=w0.frozen? a
 sl:∀ a v,w0.cell? a=some v→isSl v=true→w.cell? a=some v
 ot:∀ a v,w0.cell? a=some v → ∃ v',w.cell? a=some v'
theorem Spo.refl (L U:Nat)(w:World):Spo L U w w:=⟨rfl,rfl,rfl,rfl,fun _ _=>rfl,fun _=>rfl,fun _ _ h _=>h,fun _ v h=>⟨v,h⟩⟩
theorem heap_setCell (w:World)(b p x:Nat)(v:Value)(h:x≠b):(w.setCell ⟨b,p,none⟩ v).heap[x]? = w.heap[x]?:=by
 simp only[World.setCell,Array.getElem?_modify]
 rw[if_neg (fun e=>h e.symm)]
theorem Spo.store {L U:Nat}{w0 w:World}(h:Spo L U w0 w){b p:Nat}{v x:Value}(h1:L≤b)(h2:b<U)(hc:w0.cell? ⟨b,p,none⟩=some v)(hv:isSl v=false):Spo L U w0 (w.setCell ⟨b,p,none⟩ x) where
 size:=by rw[World.size_setCell];exact h.size
 os:=h.os
 tape:=h.tape
 output:=h.output
 out:=fun y hy=>by rw[heap_setCell _ _ _ _ _ (by omega)];exact h.out y hy
 fro:=fun a=>by rw[World.frozen?_setCell];exact h.fro a
 sl:=fun a u hu hs=>by
  by_cases e:(⟨b,p,none⟩:Addr)=a
  ·subst e;rw[hc]at hu;cases hu;rw[hv]at hs;cases hs
  ·rw[World.cell?_setCell_other (h:=e)];exact h.sl a u hu hs
 ot:=fun a u hu=>by
  obtain⟨v',hv'⟩:=h.ot a u hu
  exact cell?_setCell_some hv'
def SpTree (f1 f2 L U:Nat)(w:World)(b o n:Nat):Prop :=
 ∀ i,i<n→L≤b∧b<U∧(∃ v,w.cell? ⟨b,o+i*6+f1,none⟩=some v∧isSl v=false)∧w.frozen? ⟨b,o+i*6+f1,none⟩=false ∧
  ∃ A m c,w.cell? ⟨b,o+i*6+3,none⟩=some (.slice A m c)∧m≤1000000 ∧ ∀ k,k<m → ∃ b' o',A=some ⟨b',o',none⟩∧L≤b'∧b'<U∧w.frozen? ⟨b',o'+k*3+f2,none⟩=false ∧ ∃ v,w.cell? ⟨b',o'+k*3+f2,none⟩=some v∧isSl v=false
def noN:Names:=fun _=>none
def noD:Nat→Prop:=fun _=>False
def Fz (w:World)(v:V)(cv:Value):Prop:=Is noN noD w v cv
structure Grows (w w':World):Prop where
 size:w.heap.size≤w'.heap.size
 os:w'.os=w.os
 tape:w'.tape=w.tape
 output:w'.output=w.output
 keep:∀ b,b<w.heap.size→w'.heap[b]? = w.heap[b]?
theorem Grows.refl (w:World):Grows w w:=⟨Nat.le_refl _,rfl,rfl,rfl,fun _ _=>rfl⟩
theorem Grows.trans {a b c:World}(h:Grows a b)(g:Grows b c):Grows a c:=⟨Nat.le_trans h.size g.size,g.os.trans h.os,g.tape.trans h.tape,g.output.trans h.output,fun x hx=>(g.keep x (Nat.lt_of_lt_of_le hx h.size)).trans (h.keep x hx)⟩
theorem Fz.grow {w w':World}{v:V}{cv:Value}(h:Fz w v cv)(g:Grows w w'):Fz w' v cv:=Is.step (fun _ _ h=>h) g.size (fun b hb _=>g.keep b hb) (fun _ _ h=>h) h
section
variable {c:Cx} {f:FuncId} {args:List V} {v:V} {w:World} {cargs:Array Value}
theorem ev_pure (h:Ev c f 0 args Mem.nil v [])(hv:v.plain=true)(hcall:(callFunc f cargs).run c.P w = .ok (.enter f cargs) w)(hG:∀ g,Fz w (c.G g) (.pointer (some ⟨g,0,none⟩)))(hn:args.length=cargs.size)
  (ha:∀(i:Nat) (u:V) (cv:Value),args[i]? = some u→cargs[i]? = some cv→Fz w u cv):Calls c.P f cargs w fun e w'=>∃ cv,e = .returned cv∧Fz w' v cv∧Grows w w':=by
 have hd:∀ b,Dom noD noN Mem.nil b→False:=by
  rintro b (h|⟨_,_,h,_⟩)
  ·exact h
  ·cases h
 have up:∀ {u:V} {cv:Value},Fz w u cv→Is noN (Dom noD noN Mem.nil) w u cv:=fun hu=>Is.step (fun _ _ h=>h) (Nat.le_refl _) (fun _ _ _=>rfl) (fun b _ hb=>(hd b hb).elim) hu
 have hr:Rel c.G noD w (Blocks noN Mem.nil) noN Mem.nil w:=⟨Nat.le_refl _,rfl,rfl,rfl,fun _ _ _=>rfl,fun _ _ h=>(by cases h),fun _ _ _ _ h=>(by cases h),fun _ h=>h.elim,fun g=>up (hG g)⟩
 refine((h.2 noD w noN cargs 0 hr (fun _ _=>rfl) (fun _ _=>⟨rfl,rfl⟩) hn (fun i u cv hi hc=>up (ha i u cv hi hc))).calls hcall).mono ?_
 rintro e w' ⟨cv,rfl,ρ',r,m,hvv,_⟩
 exact⟨cv,rfl,hvv.plain (Nat.le_refl _) (fun _ _ _=>rfl) (fun _ _ h=>h.elim) hv,m.size,m.os,m.tape,m.output,fun b hb=>m.kept b hb (fun _ _ h=>(by cases h))⟩
theorem ev_pureB {b:Bool}(h:Ev c f 0 args Mem.nil (.bool b) [])(hcall:(callFunc f cargs).run c.P w = .ok (.enter f cargs) w)(hG:∀ g,Fz w (c.G g) (.pointer (some ⟨g,0,none⟩)))(hn:args.length=cargs.size)
  (ha:∀(i:Nat) (u:V) (cv:Value),args[i]? = some u→cargs[i]? = some cv→Fz w u cv):Calls c.P f cargs w fun e w'=>e = .returned (.bool b)∧Grows w w':=by
 refine(ev_pure h rfl hcall hG hn ha).mono ?_
 rintro e w' ⟨cv,rfl,hv,g⟩
 cases hv
 exact⟨rfl,g⟩
theorem ev_pureT {k:IntKind}{b:Int}{u:V}(h:Ev c f 0 args Mem.nil (.tup [u,.int k b]) [])(hu:u.plain=true)(hcall:(callFunc f cargs).run c.P w = .ok (.enter f cargs) w)(hG:∀ g,Fz w (c.G g) (.pointer (some ⟨g,0,none⟩)))(hn:args.length=cargs.size)
    (ha:∀(i:Nat) (u:V) (cv:Value),args[i]? = some u→cargs[i]? = some cv→Fz w u cv):Calls c.P f cargs w fun e w'=>∃ x,e = .returned (.tuple #[x,.int k b])∧Fz w' u x∧Grows w w':=by
  refine(ev_pure h (by simp only[V.plain,plainL,hu,Bool.and_self]) hcall hG hn ha).mono ?_
  rintro e w' ⟨cv,rfl,hv,g⟩
  cases hv with
  | tup hn hu =>
    rename_i cvs
    match cvs,hn,hu with
    |⟨[x,y]⟩,_,hu =>
      have h1:=hu 1 _ y rfl rfl
      cases h1
      exact⟨x,rfl,hu 0 _ x rfl rfl,g⟩
end
theorem glob_any (w:World)(g:Nat):Fz w (cx.G g) (.pointer (some ⟨g,0,none⟩)):=.any _
theorem glob_at {L:Nat}{w:World}(h:L≤w.heap.size)(g:Nat):Fz w ((cx.at L).G g) (.pointer (some ⟨g,0,none⟩)):=by
 show Is noN noD w (if g+1=L then V.rp [] else V.any) _
 split
 ·exact .rp (fun _=>undef) (fun h=>h) (by omega) (fun j u hj=>by cases hj) (fun j u hj=>by cases hj)
 ·exact .any _
theorem frozen_no {w:World}{b p q:Nat}(h:∃ cs t fz,w.heap[b]? = some (.cells cs t fz) ∧ ∀ p,p<q → ¬(fz.1≤p∧p<fz.2))(hp:p<q):w.frozen? ⟨b,p,none⟩=false:=by
 obtain⟨cs,t,⟨f1,f2⟩,h1,h2⟩:=h
 have:=h2 p hp
 simp only[World.frozen?,h1,Bool.and_eq_false_iff,decide_eq_false_iff_not]
 simp only at this
 omega
theorem cell_same {w w':World}{b p:Nat}(h:w'.heap[b]? = w.heap[b]?):w'.cell? ⟨b,p,none⟩=w.cell? ⟨b,p,none⟩:=World.cell?_of_block h
theorem frozen_same {w w':World}{b p:Nat}(h:w'.heap[b]? = w.heap[b]?):w'.frozen? ⟨b,p,none⟩=w.frozen? ⟨b,p,none⟩:=by
 simp only[World.frozen?,h]
theorem SpTree.keep {f1 f2 L U b o n:Nat}{w w':World}(h:SpTree f1 f2 L U w b o n)(hk:∀ b,L≤b→b<U→w'.heap[b]? = w.heap[b]?):SpTree f1 f2 L U w' b o n:=by
 intro i hi
 obtain⟨t1,t2,t3,t5,A,m,cA,t6,t7,t8⟩:=h i hi
 have hb:=hk b t1 t2
 refine⟨t1,t2,by rw[cell_same hb];exact t3,by rw[frozen_same hb];exact t5,A,m,cA,by rw[cell_same hb];exact t6,t7,fun k hkm=>?_⟩
 obtain⟨b',o',e,a1,a2,a3,a4⟩:=t8 k hkm
 have hb':=hk b' a1 a2
 exact⟨b',o',e,a1,a2,by rw[frozen_same hb'];exact a3,by rw[cell_same hb'];exact a4⟩
end Go.Proofs.Ytfcfldmioonipaa
