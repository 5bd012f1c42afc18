/-
 Texts joined: XKm.
-/
import Derived.Test.YtfcfldmioonipaaQs
import Derived.Test.YtfcfldmioonipaaQr
import Derived.Test.YtfcfldmioonipaaQo
import Derived.Test.YtfcfldmioonipaaQi
import Derived.Test.YtfcfldmioonipaaQn
import Derived.Test.YtfcfldmioonipaaQp
namespace Go.Proofs.Ytfcfldmioonipaa
set_option linter.unusedSimpArgs false
set_option linter.unusedVariables false
open Go Go.RowKit Vm Go.Lib Try
open Vm renaming cond_bool→Ca,cond_bit→Cb
open And renaming intro→Ai
open List renaming length_map→Lm,not_mem_nil→Ln,map_nil→Lo,map_cons→Lc,mem_cons→Lk
open Bool renaming not_false→Bf,not_true→Bt
theorem kidsU_len (v:List Nd)(p:Int)(hv:v.length≤1000):(kidsU v p).length≤100000:=by
 by_cases h:askedE v p=0
 ·obtain⟨en,hbo,q,rfl,hq⟩:=asked_case h
  obtain⟨n,k,d,r,g1,g2,g3,g4,g5,g6,g7,g8⟩:=place hbo hq
  rw[kids_at hbo hq g5 g6,Fo.tops_length]
  have h1:=count_le_size k
  have h2:=congrArg List.length g4
  simp only[List.length_drop,List.length_cons,List.length_append,Fo.flat_length]at h2
  omega
 ·rw[kids_none h];simp
theorem subU_mem {v:List Nd}{p:Int}{x:Nd}(h:x∈subU v p):x∈v:=by
 unfold subU at h
 cases hb:behindO v with
 | none=>rw[hb]at h;cases h
 | some en =>
  rw[hb]at h
  simp only at h
  split at h
  ·cases h
  ·exact List.mem_of_mem_drop (List.mem_of_mem_take h)
theorem subU_len (v:List Nd)(p:Int):(subU v p).length≤v.length:=by
 unfold subU
 cases hb:behindO v with
 | none=>simp
 | some en =>
  simp only
  split
  ·simp
  ·simp only[List.length_take,List.length_drop];omega
set_option maxRecDepth 100000 in
set_option maxHeartbeats 16000000 in
theorem treeTells_calls (v o:List Nd)(at_:Int)(hv:v.length≤lim)(hok:∀ x∈v,x.okTo lim∧x.i64)(hv':o.length≤lim)(hok':∀ x∈o,x.okTo lim∧x.i64)(x0 x1:Value)(w:World)(h0:Fz w (.sl false 6 (v.map ndC)) x0)(h1:Fz w (.sl false 6 (o.map ndC)) x1) :
  Calls Try.prog 4 #[x0,x1,.int .i64 at_] w fun e w'=>e = .returned (.bool true)∧Grows w w':=by
 obtain⟨A0,c0,rfl⟩:=fz_slice h0
 rw[Lm]at h0 ⊢
 have C0:∀ W,Fz W (.sl false 6 (v.map ndC)) (.slice A0 v.length c0)→Calls Try.prog 5 #[.slice A0 v.length c0,.int .i64 600,.int .i64 3000] W fun e w'=>e = .returned (.bool (greatV v 600 3000))∧Grows W w':=fun W h =>
  ev_pureB (great10_ev v 600 3000 (by omega) (by omega) hv (fun x hx=>(hok x hx).1) 0) (call5 _ _) (glob_any W) rfl (fz3 h (.int _ _) (.int _ _))
 have D0:∀ W,Fz W (.sl false 6 (o.map ndC)) x1→Calls Try.prog 5 #[x1,.int .i64 100,.int .i64 3000] W fun e w'=>e = .returned (.bool (greatV o 100 3000))∧Grows W w':=fun W h =>
  ev_pureB (great10_ev o 100 3000 (by omega) (by omega) hv' (fun x hx=>(hok' x hx).1) 0) (call5 _ _) (glob_any W) rfl (fz3 h (.int _ _) (.int _ _))
 cases hg:greatV v 600 3000 with
 | true =>
  rw[hg]at C0
  have C1:=C0 w h0
  clear C0 D0
  go_enter func4,ntmps4
  go_wp2_with (first|(with_reducible refine C1.mono ?_;rintro e w1 ⟨rfl,g1⟩))
  go_ret
  exact⟨rfl,g1⟩
 | false =>
  rw[hg]at C0
  have C1:=C0 w h0
  clear C0
  by_cases hmid:100<v.length∧v.length≤512
  ·obtain⟨m1,m2⟩:=hmid
   clear D0
   go_enter func4,ntmps4
   go_wp2_with (first|(with_reducible refine C1.mono ?_;rintro e w1 ⟨rfl,g1⟩))
   go_ret
   exact⟨rfl,g1⟩
  have hmd:v.length≤100∨512<v.length:=by omega
  cases hgo:greatV o 100 3000 with
  | true =>
   rw[hgo]at D0
   rcases hmd with hmd|hmd
   ·go_enter func4,ntmps4
    go_wp2_with (first|(with_reducible refine C1.mono ?_;rintro e w1 ⟨rfl,g1⟩;have q1:=h1.grow g1)|(with_reducible refine(D0 _ q1).mono ?_;rintro e w2 ⟨rfl,g2⟩))
    go_ret
    exact⟨rfl,g1.trans g2⟩
   ·go_enter func4,ntmps4
    go_wp2_with (first|(with_reducible refine C1.mono ?_;rintro e w1 ⟨rfl,g1⟩;have q1:=h1.grow g1)|(with_reducible refine(D0 _ q1).mono ?_;rintro e w2 ⟨rfl,g2⟩))
    go_ret
    exact⟨rfl,g1.trans g2⟩
  | false =>
   rw[hgo]at D0
   obtain⟨hv1,hv2⟩:=great_small10 (by omega) (by omega) hg
   obtain⟨ho1,ho2⟩:=great_small10 (by omega) (by omega) hgo
   have hvl:∀ n∈v,n.okTo lim:=fun n hn=>(hok n hn).1
   have C2:∀ W,Fz W (.sl false 6 (v.map ndC)) (.slice A0 v.length c0)→Calls Try.prog 6 #[.slice A0 v.length c0] W fun e w'=>∃ cv,e = .returned cv∧Fz w' (.sl false 6 (v.map ndC)) cv∧Grows W w':=fun W h =>
    ev_pure (rTwin_fz v (by omega) (fun n hn=>by have:=(hv2 n hn).1;omega) 0) (by simp only[V.plain];exact plain_nd v) (call6 _ _) (glob_any W) rfl (fz1 h)
   have C3:∀ W x,Fz W (.sl false 6 (v.map ndC)) x→Calls Try.prog 11 #[x] W fun e w'=>∃ a,e = .returned (.tuple #[a,.int .i64 (toksU v).2])∧Fz w' (.sl false 4 ((toksU v).1.map tkC)) a∧Grows W w':=fun W x h=>by
    have h1:=toksU_ev v hv hok 0
    unfold tokV at h1
    exact ev_pureT h1 (by simp only[V.plain];exact plain_tk _) (call11 _ _) (glob_any W) rfl (fz1 h)
   have C4:∀ W x,Fz W (.sl false 6 (v.map ndC)) x→Calls Try.prog 12 #[x] W fun e w'=>∃ a,e = .returned (.tuple #[a,.int .i64 (toksU v).2])∧Fz w' (.sl false 4 ((toksU v).1.map tkC)) a∧Grows W w':=fun W x h=>by
    have h1:=rTokens_ev v (by omega) hvl 0
    unfold tokV at h1
    exact ev_pureT h1 (by simp only[V.plain];exact plain_tk _) (call12 _ _) (glob_any W) rfl (fz1 h)
   have C5:∀ W x,Fz W (.sl false 6 (v.map ndC)) x→Calls Try.prog 13 #[x,.int .i64 at_] W fun e w'=>∃ a,e = .returned (.tuple #[a,.int .i64 (askedE v at_)])∧Fz w' (.sl false 1 ((kidsU v at_).map noC)) a∧Grows W w':=fun W x h =>
    ev_pureT (kidsT_ev v at_ hv hok 0) (by simp only[V.plain];exact plain_no _) (call13 _ _) (glob_any W) rfl (fz2 h (.int _ _))
   have C6:∀ W x,Fz W (.sl false 6 (v.map ndC)) x→Calls Try.prog 14 #[x,.int .i64 at_] W fun e w'=>∃ a,e = .returned (.tuple #[a,.int .i64 (askedE v at_)])∧Fz w' (.sl false 1 ((kidsU v at_).map noC)) a∧Grows W w':=fun W x h =>
    ev_pureT (rKids_ev v at_ (by omega) hvl 0) (by simp only[V.plain];exact plain_no _) (call14 _ _) (glob_any W) rfl (fz2 h (.int _ _))
   have C7:∀ W x,Fz W (.sl false 6 (v.map ndC)) x→Calls Try.prog 15 #[x,.int .i64 at_] W fun e w'=>∃ a,e = .returned (.tuple #[a,.int .i64 (subE v at_)])∧Fz w' (.sl false 6 ((subU v at_).map ndC)) a∧YT W.heap.size w'.heap.size (subU v at_).length w' a∧Grows W w':=fun W x h=>by
    refine(ev_pureT (subYU_ev W.heap.size v at_ hv hok 0) (by simp only[V.plain];exact plain_ne _ _) (call15 _ _) (glob_at (Nat.le_refl _)) rfl (fz2 h (.int _ _))).mono ?_
    rintro e w' ⟨a,rfl,h2,g⟩
    exact⟨a,rfl,h2.treeE,young_treeE h2 (fun n hn=>by have:=(hv2 n (subU_mem hn)).1;omega),g⟩
   have C8:∀ W x,Fz W (.sl false 6 (v.map ndC)) x→Calls Try.prog 16 #[x,.int .i64 at_] W fun e w'=>∃ a,e = .returned (.tuple #[a,.int .i64 (subE v at_)])∧Fz w' (.sl false 6 ((subU v at_).map ndC)) a∧Grows W w':=fun W x h =>
    ev_pureT (rSub_ev v at_ (by omega) hvl (fun n hn=>by have:=(hv2 n hn).1;omega) 0) (by simp only[V.plain];exact plain_nd _) (call16 _ _) (glob_any W) rfl (fz2 h (.int _ _))
   have C9:∀ W x,Fz W (.sl false 6 (v.map ndC)) x→Calls Try.prog 17 #[x,.int .i64 at_] W fun e w'=>e = .returned (.tuple #[.string ⟨(wordsU v at_).toArray⟩,.int .i64 (askedE v at_)])∧Grows W w':=fun W x h=>by
    refine(ev_pureT (wordsT_ev v at_ hv hok 0) rfl (call17 _ _) (glob_any W) rfl (fz2 h (.int _ _))).mono ?_
    rintro e w' ⟨a,rfl,h2,g⟩
    cases h2
    exact⟨rfl,g⟩
   have C10:∀ W x,Fz W (.sl false 6 (v.map ndC)) x→Calls Try.prog 18 #[x,.int .i64 at_] W fun e w'=>e = .returned (.tuple #[.string ⟨(wordsU v at_).toArray⟩,.int .i64 (askedE v at_)])∧Grows W w':=fun W x h=>by
    refine(ev_pureT (rWords_ev v at_ (by omega) hvl 0) rfl (call18 _ _) (glob_any W) rfl (fz2 h (.int _ _))).mono ?_
    rintro e w' ⟨a,rfl,h2,g⟩
    cases h2
    exact⟨rfl,g⟩
   have C11:∀ W x,Fz W (.sl false 6 (v.map ndC)) x→Calls Try.prog 19 #[x] W fun e w'=>∃ a,e = .returned a∧Fz w' (.sl false 6 (v.map ndC)) a∧YT W.heap.size w'.heap.size v.length w' a∧Grows W w':=fun W x h=>by
    refine(ev_pure (twinYs_ev W.heap.size v (by omega) (fun n hn=>by have:=(hv2 n hn).1;omega) 0) (by simp only[V.plain];exact plain_ne _ _) (call19 _ _) (glob_at (Nat.le_refl _)) rfl (fz1 h)).mono ?_
    rintro e w' ⟨a,rfl,h2,g⟩
    exact⟨a,rfl,h2.treeE,young_treeE h2 (fun n hn=>by have:=(hv2 n hn).1;omega),g⟩
   have C12:∀ W x y,Fz W (.sl false 4 ((toksU v).1.map tkC)) x→Fz W (.sl false 4 ((toksU v).1.map tkC)) y→Calls Try.prog 20 #[x,y] W fun e w'=>e = .returned (.bool true)∧Grows W w':=fun W x y h3 h4=>by
    have hl:=toksU_len v
    have hb:=toksU_fit (v:=v) (K:=20000) (fun n hn=>(hv2 n hn).2.1)
    have h5:=sameTk_ev (toksU v).1 (toksU v).1 (by unfold lim;omega) (by unfold lim;omega) (fun t ht=>by have:=(hb t ht).2;unfold lim;omega) (fun t ht=>by have:=(hb t ht).2;unfold lim;omega) 0
    rw[decide_eq_true rfl]at h5
    exact ev_pureB h5 (call20 _ _) (glob_any W) rfl (fz2 h3 h4)
   have C13:∀ W x y,Fz W (.sl false 1 ((kidsU v at_).map noC)) x→Fz W (.sl false 1 ((kidsU v at_).map noC)) y→Calls Try.prog 21 #[x,y] W fun e w'=>e = .returned (.bool true)∧Grows W w':=fun W x y h3 h4 =>
    ev_pureB (sameInts_ev (kidsU v at_) (kidsU_len v at_ (by omega)) 0) (call21 _ _) (glob_any W) rfl (fz2 h3 h4)
   have CS:∀(l m:List Nd) W x y,l.length≤lim→m.length≤lim→(∀ t∈l,t.attrs.length≤lim)→(∀ t∈m,t.attrs.length≤lim)→Fz W (.sl false 6 (l.map ndC)) x→Fz W (.sl false 6 (m.map ndC)) y→Calls Try.prog 9 #[x,y] W fun e w'=>e = .returned (.bool (decide (l=m)))∧Grows W w':=fun l m W x y a1 a2 a3 a4 h3 h4 =>
    ev_pureB (sameNd_ev l m a1 a2 a3 a4 0) (call9 _ _) (glob_any W) rfl (fz2 h3 h4)
   have CT:∀(l m:List Nd) W x y,l.length≤lim→m.length≤lim→(∀ t∈l,t.attrs.length≤lim)→(∀ t∈m,t.attrs.length≤lim)→Fz W (.sl false 6 (l.map ndC)) x→Fz W (.sl false 6 (m.map ndC)) y→Calls Try.prog 24 #[x,y] W fun e w'=>e = .returned (.bool (decide (l=m)))∧Grows W w':=fun l m W x y a1 a2 a3 a4 h3 h4 =>
    ev_pureB (sameT_ev l m a1 a2 a3 a4 0) (call24 _ _) (glob_any W) rfl (fz2 h3 h4)
   have C14:∀ W x,Fz W (.sl false 6 (v.map ndC)) x→Calls Try.prog 22 #[x] W fun e w'=>e = .returned (.int .i64 (checkB v))∧Grows W w':=fun W x h =>
    ev_pureI (checkT_ev v hv hok 0) (call22 _ _) (glob_any W) rfl (fz1 h)
   have C15:∀ W x,Fz W (.sl false 6 (v.map ndC)) x→Calls Try.prog 23 #[x] W fun e w'=>e = .returned (.int .i64 (checkB v))∧Grows W w':=fun W x h =>
    ev_pureI (rCheckT_ev v (by omega) hvl 0) (call23 _ _) (glob_any W) rfl (fz1 h)
   have bV:∀ t∈v,t.attrs.length≤lim:=fun t ht=>by have:=(hv2 t ht).1;unfold lim;omega
   have bO:∀ t∈o,t.attrs.length≤lim:=fun t ht=>by have:=(ho2 t ht).1;unfold lim;omega
   have bS:∀ t∈subU v at_,t.attrs.length≤lim:=fun t ht=>bV t (subU_mem ht)
   have lS:=subU_len v at_
   have lS':(subU v at_).length≤lim:=by unfold lim;omega
   have lS6:(subU v at_).length≤1000000:=by omega
   have lV6:v.length≤1000000:=by omega
   have S1:=CS (subU v at_) (subU v at_)
   have S2:=CS v o
   have S3:=CS v v
   have T1:=CT v o
   have T2:=CT v v
   rw[decide_eq_true rfl]at S1 S3 T2
   generalize decide (v=o)=bo at S2 T1
   generalize toksU v=tk at *
   obtain⟨tk,te⟩:=tk
   dsimp only at *
   generalize subU v at_=sv at *
   generalize kidsU v at_=kv at *
   generalize wordsU v at_=wv at *
   generalize askedE v at_=ae at *
   generalize subE v at_=se at *
   generalize checkB v=cb at *
   clear CS CT hv2 ho2 hvl hok hok' lS
   rcases hmd with hmd|hmd
   ·go_enter func4,ntmps4
    go_wp2_with (first
     |(with_reducible refine C1.mono ?_;rintro e w1 ⟨rfl,g1⟩;have p1:=h0.grow g1;have q1:=h1.grow g1)
     |(with_reducible refine(D0 _ q1).mono ?_;rintro e w2 ⟨rfl,g2⟩;have p2:=p1.grow g2;have q2:=q1.grow g2)
     |(with_reducible refine(C2 _ p2).mono ?_;rintro e w3 ⟨own,rfl,o3,g3⟩;have p3:=p2.grow g3;have q3:=q2.grow g3)
     |(with_reducible refine(C3 _ _ o3).mono ?_;rintro e w4 ⟨a,rfl,a4,g4⟩;have p4:=p3.grow g4;have o4:=o3.grow g4;have q4:=q3.grow g4)
     |(with_reducible refine(C4 _ _ p4).mono ?_;rintro e w5 ⟨b,rfl,b5,g5⟩;have p5:=p4.grow g5;have o5:=o4.grow g5;have q5:=q4.grow g5;have a5:=a4.grow g5)
     |(with_reducible refine(C5 _ _ o5).mono ?_;rintro e w6 ⟨c,rfl,c6,g6⟩;have p6:=p5.grow g6;have o6:=o5.grow g6;have q6:=q5.grow g6;have a6:=a5.grow g6;have b6:=b5.grow g6)
     |(with_reducible refine(C6 _ _ p6).mono ?_;rintro e w7 ⟨d,rfl,d7,g7⟩;have p7:=p6.grow g7;have o7:=o6.grow g7;have q7:=q6.grow g7;have a7:=a6.grow g7;have b7:=b6.grow g7;have c7:=c6.grow g7)
     |(with_reducible refine(C7 _ _ o7).mono ?_;rintro e w8 ⟨x,rfl,x8,tx,g8⟩;have p8:=p7.grow g8;have o8:=o7.grow g8;have q8:=q7.grow g8;have a8:=a7.grow g8;have b8:=b7.grow g8;have c8:=c7.grow g8;have d8:=d7.grow g8)
     |(with_reducible refine(C8 _ _ p8).mono ?_;rintro e w9 ⟨y,rfl,y9,g9⟩;have p9:=p8.grow g9;have o9:=o8.grow g9;have q9:=q8.grow g9;have a9:=a8.grow g9;have b9:=b8.grow g9;have c9:=c8.grow g9;have d9:=d8.grow g9;have x9:=x8.grow g9)
     |(with_reducible refine(C9 _ _ o9).mono ?_;rintro e w10 ⟨rfl,g10⟩;have p10:=p9.grow g10;have o10:=o9.grow g10;have q10:=q9.grow g10;have a10:=a9.grow g10;have b10:=b9.grow g10;have c10:=c9.grow g10;have d10:=d9.grow g10;have x10:=x9.grow g10;have y10:=y9.grow g10)
     |(with_reducible refine(C10 _ _ p10).mono ?_;rintro e w11 ⟨rfl,g11⟩;have p11:=p10.grow g11;have o11:=o10.grow g11;have q11:=q10.grow g11;have a11:=a10.grow g11;have b11:=b10.grow g11;have c11:=c10.grow g11;have d11:=d10.grow g11;have x11:=x10.grow g11;have y11:=y10.grow g11)
     |(with_reducible refine(C11 _ _ o11).mono ?_;rintro e w12 ⟨z,rfl,z12,tz,g12⟩;have p12:=p11.grow g12;have o12:=o11.grow g12;have q12:=q11.grow g12;have a12:=a11.grow g12;have b12:=b11.grow g12;have c12:=c11.grow g12;have d12:=d11.grow g12;have x12:=x11.grow g12;have y12:=y11.grow g12)
     |(with_reducible refine(C12 _ _ _ a12 b12).mono ?_;rintro e w13 ⟨rfl,g13⟩;have p13:=p12.grow g13;have o13:=o12.grow g13;have q13:=q12.grow g13;have c13:=c12.grow g13;have d13:=d12.grow g13;have x13:=x12.grow g13;have y13:=y12.grow g13;have z13:=z12.grow g13)
     |(with_reducible refine(C13 _ _ _ c13 d13).mono ?_;rintro e w14 ⟨rfl,g14⟩;have p14:=p13.grow g14;have o14:=o13.grow g14;have q14:=q13.grow g14;have x14:=x13.grow g14;have y14:=y13.grow g14;have z14:=z13.grow g14)
     |(with_reducible refine(S1 _ _ _ lS' lS' bS bS x14 y14).mono ?_;rintro e w15 ⟨rfl,g15⟩;have p15:=p14.grow g15;have o15:=o14.grow g15;have q15:=q14.grow g15;have z15:=z14.grow g15)
     |(with_reducible refine(C14 _ _ o15).mono ?_;rintro e w16 ⟨rfl,g16⟩;have p16:=p15.grow g16;have o16:=o15.grow g16;have q16:=q15.grow g16;have z16:=z15.grow g16)
     |(with_reducible refine(C15 _ _ p16).mono ?_;rintro e w17 ⟨rfl,g17⟩;have p17:=p16.grow g17;have o17:=o16.grow g17;have q17:=q16.grow g17;have z17:=z16.grow g17)
     |(with_reducible refine(T1 _ _ _ hv hv' bV bO o17 q17).mono ?_;rintro e w18 ⟨rfl,g18⟩;have p18:=p17.grow g18;have o18:=o17.grow g18;have q18:=q17.grow g18;have z18:=z17.grow g18)
     |(with_reducible refine(S2 _ _ _ hv hv' bV bO p18 q18).mono ?_;rintro e w19 ⟨rfl,g19⟩;have p19:=p18.grow g19;have o19:=o18.grow g19;have z19:=z18.grow g19)
     |(with_reducible refine(T2 _ _ _ hv hv bV bV o19 p19).mono ?_;rintro e w20 ⟨rfl,g20⟩;have p20:=p19.grow g20;have z20:=z19.grow g20)
     |(with_reducible refine(S3 _ _ _ hv hv bV bV z20 p20).mono ?_;rintro e w21 ⟨rfl,g21⟩)
     |(have tx2:=tx.keep (w':=w21) (fun b _ hb=>(((((((((((((g9.trans g10).trans g11).trans g12).trans g13).trans g14).trans g15).trans g16).trans g17).trans g18).trans g19).trans g20).trans g21)).keep b hb);with_reducible refine(YT.spoil lS6 tx2).mono ?_;rintro e w22 ⟨rfl,s22⟩)
     |(have tz2:=tz.keep (w':=w22) (fun b hb1 hb2=>(s22.out b (.inr (Nat.le_trans (((g9.trans g10).trans g11)).size hb1))).trans ((((((((((g13.trans g14).trans g15).trans g16).trans g17).trans g18).trans g19).trans g20).trans g21)).keep b hb2));with_reducible refine(YT.spoil lV6 tz2).mono ?_;rintro e w23 ⟨rfl,s23⟩;have G23:=(((((((((((((((((((g4.trans g5).trans g6).trans g7).trans g8).trans g9).trans g10).trans g11).trans g12).trans g13).trans g14).trans g15).trans g16).trans g17).trans g18).trans g19).trans g20).trans g21)).spo s22 ((((g4.trans g5).trans g6).trans g7)).size).spo s23 ((((((((g4.trans g5).trans g6).trans g7).trans g8).trans g9).trans g10).trans g11)).size)
     |(with_reducible refine(S3 _ _ _ hv hv bV bV (o3.grow G23) (p3.grow G23)).mono ?_;rintro e w24 ⟨rfl,g24⟩))
    go_ret
    exact⟨rfl,g1.trans (g2.trans (g3.trans (G23.trans g24)))⟩
   ·go_enter func4,ntmps4
    go_wp2_with (first
     |(with_reducible refine C1.mono ?_;rintro e w1 ⟨rfl,g1⟩;have p1:=h0.grow g1;have q1:=h1.grow g1)
     |(with_reducible refine(D0 _ q1).mono ?_;rintro e w2 ⟨rfl,g2⟩;have p2:=p1.grow g2;have q2:=q1.grow g2)
     |(with_reducible refine(C2 _ p2).mono ?_;rintro e w3 ⟨own,rfl,o3,g3⟩;have p3:=p2.grow g3;have q3:=q2.grow g3)
     |(with_reducible refine(C3 _ _ o3).mono ?_;rintro e w4 ⟨a,rfl,a4,g4⟩;have p4:=p3.grow g4;have o4:=o3.grow g4;have q4:=q3.grow g4)
     |(with_reducible refine(C4 _ _ p4).mono ?_;rintro e w5 ⟨b,rfl,b5,g5⟩;have p5:=p4.grow g5;have o5:=o4.grow g5;have q5:=q4.grow g5;have a5:=a4.grow g5)
     |(with_reducible refine(C5 _ _ o5).mono ?_;rintro e w6 ⟨c,rfl,c6,g6⟩;have p6:=p5.grow g6;have o6:=o5.grow g6;have q6:=q5.grow g6;have a6:=a5.grow g6;have b6:=b5.grow g6)
     |(with_reducible refine(C6 _ _ p6).mono ?_;rintro e w7 ⟨d,rfl,d7,g7⟩;have p7:=p6.grow g7;have o7:=o6.grow g7;have q7:=q6.grow g7;have a7:=a6.grow g7;have b7:=b6.grow g7;have c7:=c6.grow g7)
     |(with_reducible refine(C7 _ _ o7).mono ?_;rintro e w8 ⟨x,rfl,x8,tx,g8⟩;have p8:=p7.grow g8;have o8:=o7.grow g8;have q8:=q7.grow g8;have a8:=a7.grow g8;have b8:=b7.grow g8;have c8:=c7.grow g8;have d8:=d7.grow g8)
     |(with_reducible refine(C8 _ _ p8).mono ?_;rintro e w9 ⟨y,rfl,y9,g9⟩;have p9:=p8.grow g9;have o9:=o8.grow g9;have q9:=q8.grow g9;have a9:=a8.grow g9;have b9:=b8.grow g9;have c9:=c8.grow g9;have d9:=d8.grow g9;have x9:=x8.grow g9)
     |(with_reducible refine(C9 _ _ o9).mono ?_;rintro e w10 ⟨rfl,g10⟩;have p10:=p9.grow g10;have o10:=o9.grow g10;have q10:=q9.grow g10;have a10:=a9.grow g10;have b10:=b9.grow g10;have c10:=c9.grow g10;have d10:=d9.grow g10;have x10:=x9.grow g10;have y10:=y9.grow g10)
     |(with_reducible refine(C10 _ _ p10).mono ?_;rintro e w11 ⟨rfl,g11⟩;have p11:=p10.grow g11;have o11:=o10.grow g11;have q11:=q10.grow g11;have a11:=a10.grow g11;have b11:=b10.grow g11;have c11:=c10.grow g11;have d11:=d10.grow g11;have x11:=x10.grow g11;have y11:=y10.grow g11)
     |(with_reducible refine(C11 _ _ o11).mono ?_;rintro e w12 ⟨z,rfl,z12,tz,g12⟩;have p12:=p11.grow g12;have o12:=o11.grow g12;have q12:=q11.grow g12;have a12:=a11.grow g12;have b12:=b11.grow g12;have c12:=c11.grow g12;have d12:=d11.grow g12;have x12:=x11.grow g12;have y12:=y11.grow g12)
     |(with_reducible refine(C12 _ _ _ a12 b12).mono ?_;rintro e w13 ⟨rfl,g13⟩;have p13:=p12.grow g13;have o13:=o12.grow g13;have q13:=q12.grow g13;have c13:=c12.grow g13;have d13:=d12.grow g13;have x13:=x12.grow g13;have y13:=y12.grow g13;have z13:=z12.grow g13)
     |(with_reducible refine(C13 _ _ _ c13 d13).mono ?_;rintro e w14 ⟨rfl,g14⟩;have p14:=p13.grow g14;have o14:=o13.grow g14;have q14:=q13.grow g14;have x14:=x13.grow g14;have y14:=y13.grow g14;have z14:=z13.grow g14)
     |(with_reducible refine(S1 _ _ _ lS' lS' bS bS x14 y14).mono ?_;rintro e w15 ⟨rfl,g15⟩;have p15:=p14.grow g15;have o15:=o14.grow g15;have q15:=q14.grow g15;have z15:=z14.grow g15)
     |(with_reducible refine(C14 _ _ o15).mono ?_;rintro e w16 ⟨rfl,g16⟩;have p16:=p15.grow g16;have o16:=o15.grow g16;have q16:=q15.grow g16;have z16:=z15.grow g16)
     |(with_reducible refine(C15 _ _ p16).mono ?_;rintro e w17 ⟨rfl,g17⟩;have p17:=p16.grow g17;have o17:=o16.grow g17;have q17:=q16.grow g17;have z17:=z16.grow g17)
     |(with_reducible refine(T1 _ _ _ hv hv' bV bO o17 q17).mono ?_;rintro e w18 ⟨rfl,g18⟩;have p18:=p17.grow g18;have o18:=o17.grow g18;have q18:=q17.grow g18;have z18:=z17.grow g18)
     |(with_reducible refine(S2 _ _ _ hv hv' bV bO p18 q18).mono ?_;rintro e w19 ⟨rfl,g19⟩;have p19:=p18.grow g19;have o19:=o18.grow g19;have z19:=z18.grow g19)
     |(with_reducible refine(T2 _ _ _ hv hv bV bV o19 p19).mono ?_;rintro e w20 ⟨rfl,g20⟩;have p20:=p19.grow g20;have z20:=z19.grow g20)
     |(with_reducible refine(S3 _ _ _ hv hv bV bV z20 p20).mono ?_;rintro e w21 ⟨rfl,g21⟩)
     |(have tx2:=tx.keep (w':=w21) (fun b _ hb=>(((((((((((((g9.trans g10).trans g11).trans g12).trans g13).trans g14).trans g15).trans g16).trans g17).trans g18).trans g19).trans g20).trans g21)).keep b hb);with_reducible refine(YT.spoil lS6 tx2).mono ?_;rintro e w22 ⟨rfl,s22⟩)
     |(have tz2:=tz.keep (w':=w22) (fun b hb1 hb2=>(s22.out b (.inr (Nat.le_trans (((g9.trans g10).trans g11)).size hb1))).trans ((((((((((g13.trans g14).trans g15).trans g16).trans g17).trans g18).trans g19).trans g20).trans g21)).keep b hb2));with_reducible refine(YT.spoil lV6 tz2).mono ?_;rintro e w23 ⟨rfl,s23⟩;have G23:=(((((((((((((((((((g4.trans g5).trans g6).trans g7).trans g8).trans g9).trans g10).trans g11).trans g12).trans g13).trans g14).trans g15).trans g16).trans g17).trans g18).trans g19).trans g20).trans g21)).spo s22 ((((g4.trans g5).trans g6).trans g7)).size).spo s23 ((((((((g4.trans g5).trans g6).trans g7).trans g8).trans g9).trans g10).trans g11)).size)
     |(with_reducible refine(S3 _ _ _ hv hv bV bV (o3.grow G23) (p3.grow G23)).mono ?_;rintro e w24 ⟨rfl,g24⟩))
    go_ret
    exact⟨rfl,g1.trans (g2.trans (g3.trans (G23.trans g24)))⟩
theorem treeTells_main (v o:List Nd)(a:Int)(hv:v.length≤lim)(hok:∀ x∈v,x.okTo lim∧x.i64)(hv':o.length≤lim)(hok':∀ x∈o,x.okTo lim∧x.i64)(nm:Nat):Ev cx 4 nm [.sl false 6 (v.map ndC),.sl false 6 (o.map ndC),.int .i64 a] Mem.nil (.bool true) []:=by
 refine⟨trivial,fun X w ρ cargs B hr hfr hB hlen hargs=>?_⟩
 match cargs,hlen,hargs with
 |⟨[x0,x1,x2]⟩,hlen2,hargs =>
 have e0:=hargs 0 _ x0 rfl rfl
 have e1:=hargs 1 _ x1 rfl rfl
 have e2:=hargs 2 _ x2 rfl rfl
 cases e2
 have h0:Fz w (.sl false 6 (v.map ndC)) x0:=e0.plain (Nat.le_refl _) (fun _ _ _=>rfl) (fun _ _ h=>h.elim) (by simp only[V.plain];exact plain_nd v)
 have h1:Fz w (.sl false 6 (o.map ndC)) x1:=e1.plain (Nat.le_refl _) (fun _ _ _=>rfl) (fun _ _ h=>h.elim) (by simp only[V.plain];exact plain_nd o)
 refine .inl ⟨call4 _ _,(treeTells_calls v o a hv hok hv' hok' x0 x1 w h0 h1).mono ?_⟩
 rintro e w' ⟨rfl,g⟩
 obtain⟨r1,m1⟩:=hr.grow (w':=w') g.size g.os g.tape g.output g.keep
 exact⟨_,rfl,ρ,r1,m1,.bool _,fun _ _=>rfl⟩
theorem treeTells_args (xs:List V)(h:ShapeArgs cx.P Try.f4.params.toList xs):Ev cx 4 0 xs Mem.nil (.bool true) []:=by
 rw[Try.params4]at h
 obtain⟨_,v1,_,rfl,h1,_,v2,_,rfl,h2,_,v3,_,rfl,h3,h4⟩:=h
 obtain rfl:=args_nil h4
 obtain⟨v,rfl,hv,hok⟩:=nds_shape h1
 obtain⟨o,rfl,ho,hoo⟩:=nds_shape h2
 obtain⟨a,rfl,ha⟩:=shape_int kind_3 h3
 rw[argV_one kind_27 (by simp),argV_one kind_27 (by simp),argV_one kind_3 (by simp)]
 exact treeTells_main v o a hv hok ho hoo 0
end Go.Proofs.Ytfcfldmioonipaa
