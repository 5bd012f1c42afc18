/-
 Texts joined: XKh.
-/
import Derived.Test.YtfcfldmioonipaaGreatDoorQs
import Derived.Test.YtfcfldmioonipaaGreatDoorQr
import Derived.Test.YtfcfldmioonipaaGreatDoorQp
import Derived.Test.YtfcfldmioonipaaGreatDoorQh
import Derived.Test.YtfcfldmioonipaaGreatDoorQo
namespace Go.Proofs.YtfcfldmioonipaaGreatDoor
set_option linter.unusedSimpArgs false
set_option linter.unusedVariables false
open Go Go.RowKit Vm Go.Lib Tryz
open Vm renaming cond_bool→Ca,cond_bit→Cb
open And renaming intro→Ai
open List renaming length_map→Lm,not_mem_nil→Ln,map_nil→Lo,map_cons→Lc,mem_cons→Lk
open Bool renaming not_false→Bf,not_true→Bt
theorem Fo.res_text:∀(F:Fo) (K:KnT),(∀ n∈F.flat,n.kind=2→n.attrs=[]) → ∀ x∈(F.res K).1,x.kind=2→x.attrs=[]
 | .nil,_,_=>fun x hx=>by simp[Fo.res]at hx
 | .cons n k r,K,h=>fun x hx h2=>by
  have hr:∀ n∈r.flat,n.kind=2→n.attrs=[]:=fun y hy=>h y (by simp[Fo.flat,hy])
  have hk:∀ n∈k.flat,n.kind=2→n.attrs=[]:=fun y hy=>h y (by simp[Fo.flat,hy])
  simp only[Fo.res]at hx
  split at hx
  ·rcases List.mem_cons.1 hx with rfl|hx
   ·exact h _ (by simp[Fo.flat]) h2
   ·exact r.res_text K hr x hx h2
  ·rename_i hn
   rcases List.mem_cons.1 hx with rfl|hx
   ·exact absurd h2 hn
   ·rcases List.mem_append.1 hx with hx|hx
    ·exact k.res_text _ hk x hx h2
    ·exact r.res_text K hr x hx h2
theorem Fo.bare_text:∀(F:Fo) (sp:List UInt8),(∀ n∈F.flat,n.kind=2→n.attrs=[]) → ∀ x∈F.bare sp,x.kind=2→x.attrs=[]
 | .nil,_,_=>fun x hx=>by simp[Fo.bare]at hx
 | .cons n k r,sp,h=>fun x hx h2=>by
  have hr:∀ n∈r.flat,n.kind=2→n.attrs=[]:=fun y hy=>h y (by simp[Fo.flat,hy])
  have hk:∀ n∈k.flat,n.kind=2→n.attrs=[]:=fun y hy=>h y (by simp[Fo.flat,hy])
  simp only[Fo.bare,List.mem_append]at hx
  rcases hx with hx|hx
  ·split at hx
   ·rw[List.mem_singleton]at hx;subst hx
    exact h _ (by simp[Fo.flat]) h2
   ·rename_i hn
    rcases List.mem_cons.1 hx with rfl|hx
    ·exact absurd h2 hn
    ·exact k.bare_text _ hk x hx h2
  ·exact r.bare_text sp hr x hx h2
theorem text_none {n:Nd}(h:mayN n=true)(h2:n.kind=2):n.attrs=[]:=by
 unfold mayN at h
 rw[if_pos h2]at h
 simp only[Bool.and_eq_true,List.isEmpty_iff]at h
 exact h.1.1.1.2
theorem forest_text {v:List Nd}(h:checkB v=0):∀ n∈(foOf v).flat,n.kind=2→n.attrs=[]:=by
 obtain⟨n,k,hk,rfl,hg,hl⟩:=tree_ofB h
 rw[foOf_of hg]
 exact fun x hx h2=>text_none (Fo.good_all hg x hx).1 h2
theorem resolve_text (v:List Nd):∀ x∈(resolveU v).1,x.kind=2→x.attrs=[]:=by
 intro x hx
 unfold resolveU at hx
 split at hx
 ·cases hx
 ·rename_i h1
  split at hx
  ·cases hx
  ·split at hx
   ·exact Fo.res_text _ _ (forest_text (Decidable.not_not.1 h1)) x hx
   ·cases hx
theorem bareU_text (v:List Nd)(sp:List UInt8):∀ x∈(bareU v sp).1,x.kind=2→x.attrs=[]:=by
 intro x hx
 unfold bareU at hx
 split at hx
 ·cases hx
 ·rename_i h1
  split at hx
  ·cases hx
  ·split at hx
   ·cases hx
   ·exact Fo.bare_text _ _ (forest_text (checkU_ok (Decidable.not_not.1 h1)).2) x hx
theorem checkU_8 (v:List Nd):checkU v=if checkU v=0 then 0 else 8:=by
 unfold checkU checkB
 split
 ·rfl
 ·split<;>rfl
set_option maxRecDepth 100000 in
theorem rCheckU_ev (v:List Nd)(hv:v.length≤1000)(hok:∀ n∈v,n.okTo lim)(nm:Nat):Ev cx 12 nm [.sl false 6 (v.map ndC)] Mem.nil (.int .i64 (checkU v)) []:=by
 have hm:=rMayU_ev v hv hok
 rw[checkU_8]
 by_cases h:checkU v=0
 ·rw[if_pos h]
  rw[decide_eq_true h]at hm
  refine ev_go rfl (fun cargs w=>call12 cargs w) func12 rfl mixed (by kernel_rfl) rfl ?_;intro b0 hb0
  (repeat' first|simp only[fins,mems,results12,ntmps12,wks,Bt,plain_nd,vcs,seval,tys]|exact rfl|refine call_off (v:=.any) ?_|(first|(refine call_fn ?_ (hm _) ?_)|(refine call_fn_g ?_ (fun _=>hm _) ?_))|((first|apply Ca|apply Cb)<;>intro hb)|refine Ai (by omega) ?_|(apply Ai<;>intro hb)|refine Fin.pure ?_ ?_ ?_|simp only[injs])
 ·rw[if_neg h]
  rw[decide_eq_false h]at hm
  refine ev_go rfl (fun cargs w=>call12 cargs w) func12 rfl mixed (by kernel_rfl) rfl ?_;intro b0 hb0
  (repeat' first|simp only[fins,mems,results12,ntmps12,wks,Bf,plain_nd,vcs,seval,tys]|exact rfl|refine call_off (v:=.any) ?_|(first|(refine call_fn ?_ (hm _) ?_)|(refine call_fn_g ?_ (fun _=>hm _) ?_))|((first|apply Ca|apply Cb)<;>intro hb)|refine Ai (by omega) ?_|(apply Ai<;>intro hb)|refine Fin.pure ?_ ?_ ?_|simp only[injs])
theorem fz1 {w:World}{a:V}{x:Value}(h1:Fz w a x):∀(i:Nat) (u:V) (cv:Value),[a][i]? = some u → #[x][i]? = some cv→Fz w u cv:=by
 intro i u cv h g
 match i with
 | 0=>cases h;cases g;exact h1
 | i+1=>simp at h
theorem fz2 {w:World}{a b:V}{x y:Value}(h1:Fz w a x)(h2:Fz w b y):∀(i:Nat) (u:V) (cv:Value),[a,b][i]? = some u → #[x,y][i]? = some cv→Fz w u cv:=by
 intro i u cv h g
 match i with
 | 0=>cases h;cases g;exact h1
 | 1=>cases h;cases g;exact h2
 | i+2=>simp at h
theorem fz3 {w:World}{a b c:V}{x y z:Value}(h1:Fz w a x)(h2:Fz w b y)(h3:Fz w c z):∀(i:Nat) (u:V) (cv:Value),[a,b,c][i]? = some u → #[x,y,z][i]? = some cv→Fz w u cv:=by
 intro i u cv h g
 match i with
 | 0=>cases h;cases g;exact h1
 | 1=>cases h;cases g;exact h2
 | 2=>cases h;cases g;exact h3
 | i+3=>simp at h
theorem spoil_tree {L U:Nat}{l:List Nd}{x:Value}{w:World}(hl:l.length≤1000000)(h:∃ A c,x = .slice A l.length c∧(l.length=0 ∨ ∃ b o,A=some ⟨b,o,none⟩∧SpTree 2 2 L U w b o l.length)) :
  Calls Tryz.prog 13 #[x] w fun e w'=>e = .returned (.tuple #[])∧Spo L U w w':=by
 obtain⟨A,c,rfl,h0|⟨b,o,rfl,ht⟩⟩:=h
 ·rw[h0]
  refine(spoil_none A c w).mono ?_
  rintro e w' ⟨rfl,rfl⟩
  exact⟨rfl,Spo.refl _ _ _⟩
 ·exact spoil_calls L U b o l.length c w hl ht
theorem Grows.spo {a w w':World}{L U:Nat}(g:Grows a w)(s:Spo L U w w')(h:a.heap.size≤L):Grows a w' :=
 ⟨by rw[s.size];exact g.size,s.os.trans g.os,s.tape.trans g.tape,s.output.trans g.output,fun b hb=>(s.out b (.inl (by omega))).trans (g.keep b hb)⟩
theorem keep_tree {L U n:Nat}{x:Value}{w w':World}(h:∃ A c,x = .slice A n c∧(n=0 ∨ ∃ b o,A=some ⟨b,o,none⟩∧SpTree 2 2 L U w b o n))(hk:∀ b,L≤b→b<U→w'.heap[b]? = w.heap[b]?) :
  ∃ A c,x = .slice A n c∧(n=0 ∨ ∃ b o,A=some ⟨b,o,none⟩∧SpTree 2 2 L U w' b o n):=by
 obtain⟨A,c,rfl,h0|⟨b,o,rfl,ht⟩⟩:=h
 ·exact⟨A,c,rfl,.inl h0⟩
 ·exact⟨_,c,rfl,.inr ⟨b,o,rfl,ht.keep hk⟩⟩
set_option maxRecDepth 100000 in
set_option maxHeartbeats 16000000 in
theorem spaceTells_calls (v:List Nd)(o:List UInt8)(hv:v.length≤lim)(hok:∀ x∈v,x.okTo lim∧x.i64)(ho:o.length≤lim)(x0:Value)(w:World)(h0:Fz w (.sl false 6 (v.map ndC)) x0) :
  Calls Tryz.prog 3 #[x0,.string ⟨o.toArray⟩] w fun e w'=>e = .returned (.bool true)∧Grows w w':=by
 have C0:∀ W,Fz W (.sl false 6 (v.map ndC)) x0→Calls Tryz.prog 4 #[x0,.int .i64 100,.int .i64 5000] W fun e w'=>e = .returned (.bool (greatV v 100 5000))∧Grows W w':=fun W h =>
  ev_pureB (great10_ev v 100 5000 (by omega) (by omega) hv (fun x hx=>(hok x hx).1) 0) (call4 _ _) (glob_any W) rfl (fz3 h (.int _ _) (.int _ _))
 cases hg:greatV v 100 5000 with
 | true =>
  rw[hg]at C0
  have C1:=C0 w h0
  clear C0
  go_enter func3,ntmps3
  go_wp2_with (first|(with_reducible refine C1.mono ?_;rintro e w1 ⟨rfl,g1⟩))
  go_ret
  exact⟨rfl,g1⟩
 | false =>
  rw[hg]at C0
  have C1:=C0 w h0
  clear C0
  by_cases hl:o.length≤1000
  ·obtain⟨hv1,hv2⟩:=great_small10 (by omega) (by omega) hg
   have hvo:∀ n∈v,n.okTo 20000∧n.i64:=fun n hn=>⟨(hv2 n hn).2.1,(hok n hn).2⟩
   have hv6:∀ n∈v,n.okTo 1000000∧n.i64:=fun n hn=>⟨okTo_nd (hvo n hn).1 (by decide),(hvo n hn).2⟩
   have hA:=res_fit (v:=v) (B:=20000) (by omega) hvo
   have hB:=bare_fit (v:=v) (sp:=o) (B:=20000) hvo
   have hAl:=res_length v
   have hBl:=bare_length v o
   have hAt:=resolve_text v
   have hBt:=bareU_text v o
   have C2:∀ W,Fz W (.sl false 6 (v.map ndC)) x0→Calls Tryz.prog 5 #[x0] W fun e w'=>∃ cv,e = .returned cv∧Fz w' (.sl false 6 (v.map ndC)) cv∧Grows W w':=fun W h =>
    ev_pure (rTwin_fz v (by omega) (fun n hn=>by have:=(hvo n hn).1.1;have:=(hv2 n hn).1;omega) 0) (by simp only[V.plain];exact plain_nd v) (call5 _ _) (glob_any W) rfl (fz1 h)
   have C3:∀ W x,Fz W (.sl false 6 (v.map ndC)) x→Calls Tryz.prog 6 #[x] W fun e w'=>∃ a,e = .returned (.tuple #[a,.int .i64 (resolveU v).2])∧Fz w' (.sl false 6 ((resolveU v).1.map ndC)) a ∧
     (∃ A c,a = .slice A (resolveU v).1.length c∧((resolveU v).1.length=0 ∨ ∃ b o,A=some ⟨b,o,none⟩∧SpTree 2 2 W.heap.size w'.heap.size w' b o (resolveU v).1.length))∧Grows W w':=fun W x h=>by
    have h1:=resolveY_ev W.heap.size trivial v hv hv6 0
    unfold treeY at h1
    refine(ev_pureT h1 (by simp only[V.plain];exact plain_ny _ _) (call6 _ _) (glob_at (Nat.le_refl _)) rfl (fz1 h)).mono ?_
    rintro e w' ⟨a,rfl,h2,g⟩
    exact⟨a,rfl,h2.tree,young_tree h2 hAt (fun n hn=>by have:=(hA n hn).1.1;omega),g⟩
   have C4:∀ W,Fz W (.sl false 6 (v.map ndC)) x0→Calls Tryz.prog 7 #[x0] W fun e w'=>∃ a,e = .returned (.tuple #[a,.int .i64 (resolveU v).2])∧Fz w' (.sl false 6 ((resolveU v).1.map ndC)) a∧Grows W w':=fun W h=>by
    have h1:=rResolve_ev v (by omega) (fun n hn=>(hok n hn).1) 0
    unfold treeV at h1
    exact ev_pureT h1 (by simp only[V.plain];exact plain_nd _) (call7 _ _) (glob_any W) rfl (fz1 h)
   have C5:∀ W x,Fz W (.sl false 6 (v.map ndC)) x→Calls Tryz.prog 8 #[x,.string ⟨o.toArray⟩] W fun e w'=>∃ a,e = .returned (.tuple #[a,.int .i64 (bareU v o).2])∧Fz w' (.sl false 6 ((bareU v o).1.map ndC)) a ∧
     (∃ A c,a = .slice A (bareU v o).1.length c∧((bareU v o).1.length=0 ∨ ∃ b q,A=some ⟨b,q,none⟩∧SpTree 2 2 W.heap.size w'.heap.size w' b q (bareU v o).1.length))∧Grows W w':=fun W x h=>by
    have h1:=bareY_ev W.heap.size trivial v o hv hv6 ho 0
    unfold treeY at h1
    refine(ev_pureT h1 (by simp only[V.plain];exact plain_ny _ _) (call8 _ _) (glob_at (Nat.le_refl _)) rfl (fz2 h (.str o))).mono ?_
    rintro e w' ⟨a,rfl,h2,g⟩
    exact⟨a,rfl,h2.tree,young_tree h2 hBt (fun n hn=>by have:=(hB n hn).1.1;omega),g⟩
   have C6:∀ W,Fz W (.sl false 6 (v.map ndC)) x0→Calls Tryz.prog 9 #[x0,.string ⟨o.toArray⟩] W fun e w'=>∃ a,e = .returned (.tuple #[a,.int .i64 (bareU v o).2])∧Fz w' (.sl false 6 ((bareU v o).1.map ndC)) a∧Grows W w':=fun W h=>by
    have h1:=rBare_ev v o (by omega) hv6 ho 0
    unfold treeV at h1
    exact ev_pureT h1 (by simp only[V.plain];exact plain_nd _) (call9 _ _) (glob_any W) rfl (fz2 h (.str o))
   have C7:∀(l:List Nd) W x y,l.length≤lim→(∀ t∈l,t.attrs.length≤lim)→Fz W (.sl false 6 (l.map ndC)) x→Fz W (.sl false 6 (l.map ndC)) y→Calls Tryz.prog 10 #[x,y] W fun e w'=>e = .returned (.bool true)∧Grows W w':=fun l W x y h1 h2 h3 h4=>by
    have h5:=sameNd_ev l l h1 h1 h2 h2 0
    rw[decide_eq_true rfl]at h5
    exact ev_pureB h5 (call10 _ _) (glob_any W) rfl (fz2 h3 h4)
   have C8:∀ W x,Fz W (.sl false 6 (v.map ndC)) x→Calls Tryz.prog 11 #[x] W fun e w'=>e = .returned (.int .i64 (checkU v))∧Grows W w':=fun W x h =>
    ev_pureI (checkU_ev v hv hok 0) (call11 _ _) (glob_any W) rfl (fz1 h)
   have C9:∀ W,Fz W (.sl false 6 (v.map ndC)) x0→Calls Tryz.prog 12 #[x0] W fun e w'=>e = .returned (.int .i64 (checkU v))∧Grows W w':=fun W h =>
    ev_pureI (rCheckU_ev v (by omega) (fun n hn=>(hok n hn).1) 0) (call12 _ _) (glob_any W) rfl (fz1 h)
   have bA:∀ t∈(resolveU v).1,t.attrs.length≤lim:=fun t ht=>by have:=(hA t ht).1.1;unfold lim;omega
   have bB:∀ t∈(bareU v o).1,t.attrs.length≤lim:=fun t ht=>by have:=(hB t ht).1.1;unfold lim;omega
   have bV:∀ t∈v,t.attrs.length≤lim:=fun t ht=>by have:=(hvo t ht).1.1;unfold lim;omega
   generalize resolveU v=RA at *
   generalize bareU v o=RB at *
   obtain⟨A,eA⟩:=RA
   obtain⟨B,eB⟩:=RB
   dsimp only at *
   have lA:A.length≤lim:=by omega
   have lB:B.length≤lim:=by omega
   have lA':A.length≤1000000:=by omega
   have lB':B.length≤1000000:=by omega
   clear hA hB hAt hBt hv6 hvo hv2 hAl hBl
   go_enter func3,ntmps3
   go_wp2_with (first
    |(with_reducible refine C1.mono ?_;rintro e w1 ⟨rfl,g1⟩;have q1:=h0.grow g1)
    |(with_reducible refine(C2 _ q1).mono ?_;rintro e w2 ⟨own,rfl,p2,g2⟩;have q2:=q1.grow g2)
    |(with_reducible refine(C3 _ _ p2).mono ?_;rintro e w3 ⟨a,rfl,fa3,ta,g3⟩;have p3:=p2.grow g3;have q3:=q2.grow g3)
    |(with_reducible refine(C4 _ q3).mono ?_;rintro e w4 ⟨b,rfl,fb4,g4⟩;have p4:=p3.grow g4;have q4:=q3.grow g4;have fa4:=fa3.grow g4)
    |(with_reducible refine(C5 _ _ p4).mono ?_;rintro e w5 ⟨c,rfl,fc5,tc,g5⟩;have p5:=p4.grow g5;have q5:=q4.grow g5;have fa5:=fa4.grow g5;have fb5:=fb4.grow g5)
    |(with_reducible refine(C6 _ q5).mono ?_;rintro e w6 ⟨d,rfl,fd6,g6⟩;have p6:=p5.grow g6;have q6:=q5.grow g6;have fa6:=fa5.grow g6;have fb6:=fb5.grow g6;have fc6:=fc5.grow g6)
    |(with_reducible refine(C7 A _ _ _ lA bA fa6 fb6).mono ?_;rintro e w7 ⟨rfl,g7⟩;have p7:=p6.grow g7;have q7:=q6.grow g7;have fc7:=fc6.grow g7;have fd7:=fd6.grow g7)
    |(with_reducible refine(C7 B _ _ _ lB bB fc7 fd7).mono ?_;rintro e w8 ⟨rfl,g8⟩;have p8:=p7.grow g8;have q8:=q7.grow g8)
    |(with_reducible refine(C8 _ _ p8).mono ?_;rintro e w9 ⟨rfl,g9⟩;have q9:=q8.grow g9)
    |(with_reducible refine(C9 _ q9).mono ?_;rintro e w10 ⟨rfl,g10⟩)
    |(have ta2:=keep_tree ta (fun b _ hb=>(((((((g4.trans g5).trans g6).trans g7).trans g8).trans g9).trans g10).keep b hb));with_reducible refine(spoil_tree lA' ta2).mono ?_;rintro e w11 ⟨rfl,s11⟩)
    |(have tc2:=keep_tree (w':=w11) tc (fun b hb1 hb2=>(s11.out b (.inr (Nat.le_trans g4.size hb1))).trans (((((g6.trans g7).trans g8).trans g9).trans g10).keep b hb2));with_reducible refine(spoil_tree lB' tc2).mono ?_;rintro e w12 ⟨rfl,s12⟩;have G12:=((g3.trans (g4.trans (g5.trans (g6.trans (g7.trans (g8.trans (g9.trans g10))))))).spo s11 (Nat.le_refl _)).spo s12 (Nat.le_trans g3.size g4.size))
    |(with_reducible refine(C7 v _ _ _ hv bV (p2.grow G12) (q2.grow G12)).mono ?_;rintro e w13 ⟨rfl,g13⟩))
   go_ret
   exact⟨rfl,g1.trans (g2.trans (G12.trans g13))⟩
  ·go_enter func3,ntmps3
   go_wp2_with (first|(with_reducible refine C1.mono ?_;rintro e w1 ⟨rfl,g1⟩))
   go_ret
   exact⟨rfl,g1⟩
theorem spaceTells_main (v:List Nd)(o:List UInt8)(hv:v.length≤lim)(hok:∀ x∈v,x.okTo lim∧x.i64)(ho:o.length≤lim)(nm:Nat):Ev cx 3 nm [.sl false 6 (v.map ndC),.str o] Mem.nil (.bool true) []:=by
 refine⟨trivial,fun X w ρ cargs B hr hfr hB hlen hargs=>?_⟩
 match cargs,hlen,hargs with
 |⟨[x0,x1]⟩,hlen2,hargs =>
 have e0:=hargs 0 _ x0 rfl rfl
 have e1:=hargs 1 _ x1 rfl rfl
 cases e1
 have h0:Fz w (.sl false 6 (v.map ndC)) x0:=e0.plain (Nat.le_refl _) (fun _ _ _=>rfl) (fun _ _ h=>h.elim) (by simp only[V.plain];exact plain_nd v)
 refine .inl ⟨call3 _ _,(spaceTells_calls v o hv hok ho x0 w h0).mono ?_⟩
 rintro e w' ⟨rfl,g⟩
 obtain⟨r1,m1⟩:=hr.grow (w':=w') g.size g.os g.tape g.output g.keep
 exact⟨_,rfl,ρ,r1,m1,.bool _,fun _ _=>rfl⟩
theorem spaceTells_args (xs:List V)(h:ShapeArgs cx.P Tryz.f3.params.toList xs):Ev cx 3 0 xs Mem.nil (.bool true) []:=by
 rw[Tryz.params3]at h
 obtain⟨_,v1,_,rfl,h1,_,v2,_,rfl,h2,h3⟩:=h
 obtain rfl:=args_nil h3
 obtain⟨v,rfl,hv,hok⟩:=nds_shape h1
 obtain⟨o,rfl,ho⟩:=shape_str kind_9 h2
 rw[argV_one kind_22 (by simp),argV_one kind_9 (by simp)]
 exact spaceTells_main v o hv hok (by unfold lim;omega) 0
end Go.Proofs.YtfcfldmioonipaaGreatDoor
