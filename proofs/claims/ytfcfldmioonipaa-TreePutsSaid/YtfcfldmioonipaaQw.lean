/-
 Texts joined: XKt.
-/
import Derived.Deep.RegionHeld3
import Derived.Test.YtfcfldmioonipaaQv
import Derived.Test.YtfcfldmioonipaaQp
namespace Go.Proofs.Ytfcfldmioonipaa
set_option linter.unusedSimpArgs false
set_option linter.unusedVariables false
open Go Go.RowKit Vm Go.Lib Try
open Vm renaming cond_bool→Ca,cond_bit→Cb
open And renaming intro→Ai
open List renaming length_map→Lm,not_mem_nil→Ln,map_nil→Lo,map_cons→Lc,mem_cons→Lk
open Bool renaming not_false→Bf,not_true→Bt
theorem Is.fz {X:Nat→Prop}{w0 w:World}{I:Nat→Prop}{ρ:Names}{M:Mem}(h:Rel cx.G X w0 I ρ M w){v u:V}{cv:Value}(hv:Is ρ (Dom X ρ M) w v cv)(hok:v.finOk [] M)(hu:v.fin [] M=u):Fz w u cv:=by
 subst hu
 exact fin_is (cx:=cx) h (fun nm y hy=>by simp[newName]at hy) (fun b hb=>hb.elim) (fun nm l _ hM hl hb=>hb) hv hok
theorem Grows.cell {w w':World}(g:Grows w w'){b o:Nat}{v:Value}(h:w.cell? ⟨b,o,none⟩=some v):w'.cell? ⟨b,o,none⟩=some v:=by
 have hb:b<w.heap.size:=by
  unfold World.cell? at h
  split at h
  ·rename_i heq;exact lt_of_heap heq
  ·cases h
 rw[cell_same (g.keep b hb)];exact h
theorem fz_part {w:World}{l:List (List Nd)}{A:Option Addr}{c:Nat}(h:Fz w (.sl false 1 (l.map partC)) (.slice A l.length c)){k:Nat}{v:List Nd}(hv:l[k]? = some v):∃ b o x,A=some ⟨b,o,none⟩∧w.cell? ⟨b,o+k,none⟩=some x∧Fz w (.sl false 6 (v.map ndC)) x:=by
 unfold Fz at h
 generalize hr:l.map partC=rows at h
 generalize hn:l.length=m at h
 cases h with
 | sl0 =>
  have:l=[]:=List.eq_nil_of_length_eq_zero hn
  subst this;cases hv
 | sl cv hc ht hD hb hrr hx hu =>
  have hrow:rows[k]? = some (partC v):=by rw[← hr,List.getElem?_map,hv];rfl
  have h1:=hx k 0 _ _ hrow rfl
  rw[Nat.mul_one,Nat.add_zero]at h1
  exact⟨_,_,_,rfl,h1,hu k 0 _ _ hrow rfl⟩
theorem fz6 {w:World}{a0 a1 a2 a3 a4 a5:V}{x0 x1 x2 x3 x4 x5:Value}(h0:Fz w a0 x0)(h1:Fz w a1 x1)(h2:Fz w a2 x2)(h3:Fz w a3 x3)(h4:Fz w a4 x4)(h5:Fz w a5 x5):Fz w (.agg [a0,a1,a2,a3,a4,a5]) (.agg #[x0,x1,x2,x3,x4,x5]):=by
 refine .agg rfl fun i u cv h g=>?_
 match i with
 | 0=>cases h;cases g;exact h0
 | 1=>cases h;cases g;exact h1
 | 2=>cases h;cases g;exact h2
 | 3=>cases h;cases g;exact h3
 | 4=>cases h;cases g;exact h4
 | 5=>cases h;cases g;exact h5
 | i+6=>simp at h
set_option maxRecDepth 100000 in
set_option maxHeartbeats 16000000 in
theorem puts_tail (n:Nd)(l:List (List Nd))(hn:n.okTo lim∧n.i64)(hok:∀ v∈l,v.length≤lim ∧ ∀ x∈v,x.okTo lim∧x.i64)(hg:greatV [n] 1 2000=false)(h8:l.length≤8)(X:Nat→Prop)(w0:World)(ρ0:Names)(b0 m:Nat)(e:Env)(M:Mem)(ρ:Names)(a:Act)(w:World)(hl:Lies cx Try.f3.ntmps X w0 (Blocks ρ0 Mem.nil) ρ0 b0 m e M ρ a w)(hK:PutsK n l b0 m e M) :
  putsTail.wp cx.P (bodyPost cx.P Try.f3 (fun e w'=>e = .returned (.bool true)∧Grows w w')) a w:=by
 obtain⟨k1,k2,k5,m0,m1,hgr⟩:=hK
 obtain⟨tm,df⟩:=a
 have hsz:=hl.env.size
 have hdf:df=[]:=hl.env.defers
 subst hdf
 have h81:tm.size=81:=hsz
 have i1:=hl.env.is 1 (by rw[show Try.f3.ntmps=81 from rfl];omega)
 have i2:=hl.env.is 2 (by rw[show Try.f3.ntmps=81 from rfl];omega)
 have i5:=hl.env.is 5 (by rw[show Try.f3.ntmps=81 from rfl];omega)
 rw[k1]at i1;rw[k2]at i2;rw[k5]at i5
 have v1:=Is.fz (u:=.sl false 1 (l.map partC)) hl.rel i1 (by simp only[V.finOk];exact plain_pt l) rfl
 have v2:=Is.fz (u:=.rp (ndC n)) hl.rel i2 (by
  intro _
  rw[m0]
  refine⟨rfl,?_⟩
  rw[rowOf_eq,rowsOf,m0]
  exact plain_ndC n) (by
  simp only[V.fin,newName_nil]
  rw[rowOf_eq,rowsOf,m0];rfl)
 have v5:=Is.fz (u:=.sl false 1 (l.map partC)) hl.rel i5 (by
  intro _
  rw[rowsOf,m1]
  refine⟨.inr ⟨rfl,by simp⟩,?_⟩
  rw[List.drop_zero,take_map_len];exact plain_pt l) (by
  simp only[V.fin,newName_nil]
  rw[rowsOf,szOf,m1,List.drop_zero,take_map_len])
 obtain⟨f,hf1,hf2⟩:=tmps_lit h81
 rw[hf2]at v1 v2 v5
 have hlit:((List.range 81).map f).toArray = #[f 0,f 1,f 2,f 3,f 4,f 5,f 6,f 7,f 8,f 9,f 10,f 11,f 12,f 13,f 14,f 15,f 16,f 17,f 18,f 19,f 20,f 21,f 22,f 23,f 24,f 25,f 26,f 27,f 28,f 29,f 30,f 31,f 32,f 33,f 34,f 35,f 36,f 37,f 38,f 39,f 40,f 41,f 42,f 43,f 44,f 45,f 46,f 47,f 48,f 49,f 50,f 51,f 52,f 53,f 54,f 55,f 56,f 57,f 58,f 59,f 60,f 61,f 62,f 63,f 64,f 65,f 66,f 67,f 68,f 69,f 70,f 71,f 72,f 73,f 74,f 75,f 76,f 77,f 78,f 79,f 80]:=rfl
 rw[hlit]at hf1
 subst hf1
 clear hlit hf2 h81 hsz i1 i2 i5 k1 k2 k5 m0 m1 hl
 obtain⟨A1,c1,e1⟩:=fz_slice v1
 obtain⟨A5,c5,e5⟩:=fz_slice v5
 rw[Lm]at e1 e5
 rw[e1]at v1
 rw[e5]at v5
 rw[e1,e5]
 generalize hf2:f 2=x2 at v2
 cases v2 with
 | rp cv hd hb hc hu =>
  rename_i bp op
  have d0:=hc 0 _ rfl
  have d1:=hc 1 _ rfl
  have d2:=hc 2 _ rfl
  have d3:=hc 3 _ rfl
  have d4:=hc 4 _ rfl
  have d5:=hc 5 _ rfl
  have b0:=hu 0 _ rfl
  have b1:=hu 1 _ rfl
  have b2:=hu 2 _ rfl
  have b3:=hu 3 _ rfl
  have b4:=hu 4 _ rfl
  have b5:=hu 5 _ rfl
  generalize cv 0=y0 at d0 b0
  generalize cv 1=y1 at d1 b1
  generalize cv 2=y2 at d2 b2
  generalize cv 3=y3 at d3 b3
  generalize cv 4=y4 at d4 b4
  generalize cv 5=y5 at d5 b5
  rw[Nat.add_zero]at d0
  have hn1:∀ x∈[n],x.attrs.length≤30∧x.okTo 20000∧_:=(great_small10 (by omega) (by omega) hg).2
  have hnn:=hn1 n (by simp)
  have hlv:∀ v∈l,v.length≤520 ∧ ∀ x∈v,x.attrs.length≤30∧x.okTo 20000:=fun v hv=>by
   obtain⟨a1,a2⟩:=great_small10 (by omega) (by omega) (hgr v hv)
   exact⟨a1,fun x hx=>⟨(a2 x hx).1,(a2 x hx).2.1⟩⟩
  have hTm:∀ x∈putTr n l,x.attrs.length≤30:=fun x hx=>by
   unfold putTr at hx
   split at hx
   ·rcases List.mem_cons.1 hx with rfl|hx
    ·exact hnn.1
    ·obtain⟨v,hv,hxv⟩:=List.mem_flatten.1 hx
     exact((hlv v hv).2 x hxv).1
   ·cases hx
  have hTl:(putTr n l).length≤100000:=by
   unfold putTr
   split
   ·have h1:=allN_le (B:=520) (fun v hv=>(hlv v hv).1) l.length
    unfold allN at h1
    rw[List.take_length]at h1
    simp only[List.length_cons,List.length_flatten]
    omega
   ·simp
  have n0:Fz w (.agg (ndC n)) (.agg #[y0,y1,y2,y3,y4,y5]):=fz6 b0 b1 b2 b3 b4 b5
  have CP:∀ W,Fz W (.agg (ndC n)) (.agg #[y0,y1,y2,y3,y4,y5])→Fz W (.sl false 1 (l.map partC)) (.slice A5 l.length c5)→Calls Try.prog 7 #[.agg #[y0,y1,y2,y3,y4,y5],.slice A5 l.length c5] W fun e w'=>∃ a,e = .returned (.tuple #[a,.int .i64 (putEr n l)])∧Fz w' (.sl false 6 ((putTr n l).map ndC)) a∧YT W.heap.size w'.heap.size (putTr n l).length w' a∧Grows W w':=fun W h1 h2=>by
   refine(ev_pureT (putYU_ev W.heap.size n l hn.1 (by unfold lim;omega) hok 0) (by simp only[V.plain];exact plain_ne _ _) (call7 _ _) (glob_at (Nat.le_refl _)) rfl (fz2 h1 h2)).mono ?_
   rintro e w' ⟨a,rfl,h3,g⟩
   exact⟨a,rfl,h3.treeE,young_treeE h3 (fun x hx=>by have:=hTm x hx;omega),g⟩
  have CR:∀ W,Fz W (.agg (ndC n)) (.agg #[y0,y1,y2,y3,y4,y5])→Fz W (.sl false 1 (l.map partC)) (.slice A1 l.length c1)→Calls Try.prog 8 #[.agg #[y0,y1,y2,y3,y4,y5],.slice A1 l.length c1] W fun e w'=>∃ a,e = .returned (.tuple #[a,.int .i64 (putEr n l)])∧Fz w' (.sl false 6 ((putTr n l).map ndC)) a∧Grows W w':=fun W h1 h2 =>
   ev_pureT (rPut_ev n l (okTo_nd hnn.2.1 (by decide)) (by have:=hnn.1;omega) h8 (fun v hv=>⟨by have:=(hlv v hv).1;omega,fun x hx=>okTo_nd ((hlv v hv).2 x hx).2 (by decide)⟩) 0) (by simp only[V.plain];exact plain_nd _) (call8 _ _) (glob_any W) rfl (fz2 h1 h2)
  have CS:∀(m:List Nd) W x y,m.length≤lim→(∀ t∈m,t.attrs.length≤lim)→Fz W (.sl false 6 (m.map ndC)) x→Fz W (.sl false 6 (m.map ndC)) y→Calls Try.prog 9 #[x,y] W fun e w'=>e = .returned (.bool true)∧Grows W w':=fun m W x y a1 a2 h3 h4=>by
   have h5:=sameNd_ev m m a1 a1 a2 a2 0
   rw[decide_eq_true rfl]at h5
   exact ev_pureB h5 (call9 _ _) (glob_any W) rfl (fz2 h3 h4)
  have bT:∀ t∈putTr n l,t.attrs.length≤lim:=fun t ht=>by have:=hTm t ht;unfold lim;omega
  have lT:(putTr n l).length≤lim:=by unfold lim;omega
  have lT6:(putTr n l).length≤1000000:=by omega
  generalize putTr n l=T at *
  generalize putEr n l=eT at *
  dsimp only
  unfold putsTail Try.f3
  simp only[Option.getD_some,dropS]
  rw[show cx.P=Try.prog from rfl]
  go_wp2_with (first
   |(with_reducible refine(CP _ n0 v5).mono ?_;rintro e w1 ⟨x,rfl,x1,tx,g1⟩;have d01:=g1.cell d0;have d11:=g1.cell d1;have d21:=g1.cell d2;have d31:=g1.cell d3;have d41:=g1.cell d4;have d51:=g1.cell d5;have n1:=n0.grow g1;have l1:=v1.grow g1)
   |(with_reducible refine(CR _ n1 l1).mono ?_;rintro e w2 ⟨y,rfl,y2,g2⟩;have x2:=x1.grow g2)
   |(with_reducible refine(CS T _ _ _ lT bT x2 y2).mono ?_;rintro e w3 ⟨rfl,g3⟩)
   |(have tx3:=tx.keep (w':=w3) (fun b _ hb=>(g2.trans g3).keep b hb);with_reducible refine(YT.spoil lT6 tx3).mono ?_;rintro e w4 ⟨rfl,s4⟩;have G4:=(g1.trans (g2.trans g3)).spo s4 (Nat.le_refl _)))
  go_loopw [11,12] (fun s11 s12 wr=>∃ k:Nat,k≤l.length∧s11 = .bool true∧s12 = .int .i64 k∧Grows w wr) (fun _ s12 _=>l.length-(RowKit.intOf s12).toNat)
  case atStart=>exact⟨0,Nat.zero_le _,rfl,rfl,G4⟩
  case round =>
   obtain⟨k,hk,rfl,rfl,gr⟩:=hrel
   by_cases hlt:k<l.length
   ·obtain⟨v,hv⟩:∃ v,l[k]? = some v:=⟨_,List.getElem?_eq_getElem hlt⟩
    have hvl:=hlv v (List.mem_of_getElem? hv)
    obtain⟨ba,oa,xa,rfl,ca,fa⟩:=fz_part (v1.grow gr) hv
    obtain⟨bb,ob,xb,rfl,cb,fb⟩:=fz_part (v5.grow gr) hv
    have lv:v.length≤lim:=by have:=hvl.1;unfold lim;omega
    have bv:∀ t∈v,t.attrs.length≤lim:=fun t ht=>by have:=(hvl.2 t ht).1;unfold lim;omega
    have CV:=fun W h3 h4=>CS v W xb xa lv bv h3 h4
    clear CP CR CS
    have gd:Grows wr wr.drew:=⟨Nat.le_refl _,rfl,rfl,rfl,fun _ _=>rfl⟩
    have cbd:wr.drew.cell? ⟨bb,ob+k,none⟩=some xb:=cb
    have cad:wr.drew.cell? ⟨ba,oa+k,none⟩=some xa:=ca
    go_wp2
    go_region_held3 (fun w'=>w'.cell? ⟨bb,ob+k,none⟩=some xb∧w'.cell? ⟨ba,oa+k,none⟩=some xa∧Grows wr w')
     (first|exact⟨cbd,cad,gd⟩|(refine⟨Grows.cell (by assumption) (by assumption),Grows.cell (by assumption) (by assumption),Grows.trans (by assumption) (by assumption)⟩))
     (first|(go_at_call 9;refine(CV _ (fb.grow (by assumption)) (fa.grow (by assumption))).mono ?_;rintro e w' ⟨rfl,g5⟩))
    all_goals go_wp2
    all_goals (exact⟨⟨k+1,by omega,rfl,by simp,gr.trans ⟨g5.size,g5.os,g5.tape,g5.output,g5.keep⟩⟩,by simp only[RowKit.intOf];omega⟩)
   ·go_wp2
    go_ret
    exact⟨rfl,gr⟩
theorem pts_shape {n:Nat}{vs:List V}(h:Shape cx.P n 25 vs):∃ l:List (List Nd),vs=[.sl false 1 (l.map partC)]∧l.length≤lim ∧ ∀ v∈l,v.length≤lim ∧ ∀ x∈v,x.okTo lim∧x.i64:=by
 obtain⟨_,rs,rfl,l1,m1,g1⟩:=shape_slice kind_25 h
 obtain⟨x1,rfl,f1⟩:=rows_map partC (fun v=>v.length≤lim ∧ ∀ x∈v,x.okTo lim∧x.i64) (fun r hr=>by
  obtain⟨l,e,hl,hs⟩:=nds_shape (g1 r hr)
  exact⟨l,e,hl,hs⟩)
 rw[Lm]at m1
 exact⟨x1,rfl,by unfold lim;omega,f1⟩
theorem treePuts_args (xs:List V)(h:ShapeArgs cx.P Try.f3.params.toList xs):Ev cx 3 0 xs Mem.nil (.bool true) []:=by
 rw[Try.params3]at h
 obtain⟨_,v1,_,rfl,h1,_,v2,_,rfl,h2,h3⟩:=h
 obtain rfl:=args_nil h3
 obtain⟨n,rfl,hn⟩:=nd_shape h1
 obtain⟨l,rfl,hl,hs⟩:=pts_shape h2
 rw[argV_struct kind_24,argV_one kind_25 (by simp)]
 exact treePuts_main n l hn hl hs (fun hg h8 X w0 ρ0 b0 m e M ρ a w hL hK=>puts_tail n l hn hs hg h8 X w0 ρ0 b0 m e M ρ a w hL hK) 0
end Go.Proofs.Ytfcfldmioonipaa
