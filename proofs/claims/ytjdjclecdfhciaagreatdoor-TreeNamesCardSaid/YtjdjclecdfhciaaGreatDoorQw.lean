/-
 Texts joined: XSr,XSs,XSt.
-/
import Derived.Test.YtjdjclecdfhciaaGreatDoorQu
import Derived.Test.YtjdjclecdfhciaaGreatDoorQv
import Derived.Test.YtjdjclecdfhciaaGreatDoorQs
import Derived.Test.YtjdjclecdfhciaaGreatDoorQn
import Derived.Test.YtjdjclecdfhciaaGreatDoorQr
namespace Go.Proofs.YtjdjclecdfhciaaGreatDoor
set_option maxRecDepth 100000
set_option maxHeartbeats 32000000
set_option linter.unusedSimpArgs false
set_option linter.unusedVariables false
open Go Go.RowKit Vm Go.Lib Go.Proofs.Tryz
open Vm renaming cond_bool→Ca,cond_bit→Cb
open And renaming intro→Ai
open List renaming length_map→Lm,not_mem_nil→Ln,map_nil→Lo,map_cons→Lc,mem_cons→Lk
open Bool renaming not_false→Bf,not_true→Bt
theorem dps2:(∀ M t s r v,dpLe M (.sl t s r) v=(V.sl t s r=v))∧(∀ M t s r,dpOk M (.sl t s r)=(plainLL r=true))∧(∀ M k n v,dpLe M (.int k n) v=(V.int k n=v))∧(∀ M k n,dpOk M (.int k n)=True) :=
 ⟨fun M t s r v=>by simp only[dpLe,V.fin],fun M t s r=>by simp only[dpOk,V.finOk],fun M k n v=>by simp only[dpLe,V.fin],fun M k n=>by simp only[dpOk,V.finOk]⟩
def parseA (s:List UInt8):List Nd×Int:=if (lexA s).2.2≠0 then ([],(lexA s).2.2) else (parseT (lexA s).1,parseE (lexA s).1)
theorem parseA_bad {s:List UInt8}(h:(parseA s).2≠0):(parseA s).1=[]:=by
 unfold parseA at h ⊢
 split
 ·rfl
 ·rename_i h2
  rw[if_neg h2]at h
  unfold parseT;rw[if_neg h]
theorem toks_fit {s:List UInt8}(hs:s.length≤16384)(h:(lexA s).2.2=0):(lexA s).1.length≤600 ∧ ∀ t∈(lexA s).1,t.okTo 1000000∧t.attrs.length≤30:=by
 obtain⟨h1,_,h3,_⟩:=(lex_may s).1 h
 refine⟨by omega,fun t ht=>⟨okTo_le (lex_okTo h t ht) (by omega),?_⟩⟩
 have:=tok_attrs16 (h1 t ht)
 omega
theorem parse10_ev (s:List UInt8)(hs:s.length≤16384)(nm:Nat):Ev cx 27 nm [.str s] Mem.nil (treeV (parseA s).1 (parseA s).2) []:=by
 have hl:=lex_ev s (by unfold lim;omega)
 unfold lexV at hl
 have hfit:=fun h=>toks_fit hs h
 have hA:parseA s=if (lexA s).2.2≠0 then ([],(lexA s).2.2) else (parseT (lexA s).1,parseE (lexA s).1):=rfl
 rw[hA]
 clear hA
 generalize (lexA s).1=L at hl hfit ⊢
 generalize (lexA s).2.1=A at hl ⊢
 generalize (lexA s).2.2=E at hl hfit ⊢
 by_cases hE:E=0
 ·obtain⟨f1,f2⟩:=hfit hE
  have hp:=parse_fz L f1 f2
  rw[if_neg (by simpa using hE)]
  subst hE
  unfold treeV at hp ⊢
  have hpl:=plain_nd (parseT L)
  refine ev_go rfl (fun cargs w=>call27 cargs w) func27 rfl mixed (by kernel_rfl) rfl ?_;intro b0 hb0
  (repeat' first|simp only[fins,mems,results27,ntmps27,wks,hpl,plain_tk,vcs,seval,tys]|exact rfl|refine call_off (v:=.any) ?_|(first|(refine call_fn ?_ (hl _) ?_)|(refine call_fn_g ?_ (fun _=>hl _) ?_)|(refine call_fn ?_ (hp _) ?_)|(refine call_fn_g ?_ (fun _=>hp _) ?_))|((first|apply Ca|apply Cb)<;>intro hb)|refine Ai (by omega) ?_|(apply Ai<;>intro hb)|refine Fin.pure ?_ ?_ ?_|simp only[injs])
 ·rw[if_pos hE]
  have q:(E != 0)=true:=by simpa using hE
  unfold treeV
  refine ev_go rfl (fun cargs w=>call27 cargs w) func27 rfl mixed (by kernel_rfl) rfl ?_;intro b0 hb0
  (repeat' first|simp only[fins,mems,results27,ntmps27,wks,q,plain_tk,Lo,Bt,Bf,vcs,seval,tys]|exact rfl|refine call_off (v:=.any) ?_|(first|(refine call_fn ?_ (hl _) ?_)|(refine call_fn_g ?_ (fun _=>hl _) ?_))|((first|apply Ca|apply Cb)<;>intro hb)|refine Ai (by omega) ?_|(apply Ai<;>intro hb)|refine Fin.pure ?_ ?_ ?_|simp only[injs])
def noTree (s:List UInt8)(e:Int):Bool:=decide ((parseA s).2=e)&&(parseA s).1.isEmpty
theorem odd10_ev (s:List UInt8)(e:Int)(hs:s.length≤16384)(nm:Nat):Ev cx 28 nm [.str s,.int .i64 e] Mem.nil (.bool (noTree s e)) []:=by
 have hp:=parse10_ev s hs
 unfold treeV at hp
 have hb:noTree s e=(((parseA s).2==e)&&((((parseA s).1.length:Nat):Int)==0)):=by
  unfold noTree
  have h1:((((parseA s).1.length:Nat):Int)==0)=(parseA s).1.isEmpty:=len_zero _
  rw[h1];rfl
 rw[hb]
 generalize (parseA s).1=v at hp ⊢
 generalize (parseA s).2=f at hp ⊢
 refine ev_go rfl (fun cargs w=>call28 cargs w) func28 rfl mixed (by kernel_rfl) rfl ?_;intro b0 hb0
 (repeat' first|simp only[fins,mems,results28,ntmps28,wks,plain_nd,Lm,vcs,seval,tys]|exact rfl|refine call_off (v:=.any) ?_|(first|(refine call_fn ?_ (hp _) ?_)|(refine call_fn_g ?_ (fun _=>hp _) ?_))|((first|apply Ca|apply Cb)<;>intro hb)|refine Ai (by omega) ?_|(apply Ai<;>intro hb)|refine Fin.pure ?_ ?_ ?_|simp only[injs])
theorem elem_ev (n:List UInt8)(m:Int)(nm:Nat):Ev cx 32 nm [.str n,.int .i64 m] Mem.nil (.agg [.int .u8 1,.str [],.str n,.nils,.str [],.int .i64 m]) []:=by
 refine ev_go rfl (fun cargs w=>call32 cargs w) func32 rfl mixed (by kernel_rfl) rfl ?_;intro b0 hb0
 (repeat' first|simp only[fins,mems,results32,ntmps32,wks,vcs,seval,tys]|exact rfl|refine call_off (v:=.any) ?_|((first|apply Ca|apply Cb)<;>intro hb)|refine Ai (by omega) ?_|(apply Ai<;>intro hb)|refine Fin.pure ?_ ?_ ?_|simp only[injs])
def tex1:List UInt8:=[60,97,62,116,60,98,47,62,60,47,97,62]
def tev1:List Nd:=[⟨1,[],[97],[],[],2⟩,⟨2,[],[],[],[116],0⟩,⟨1,[],[98],[],[],0⟩]
theorem tex1_is:parseA tex1=(tev1,0):=by
 unfold parseA;rw[lexW_eq];decide +kernel
theorem tev1_may:checkB tev1=0:=by decide +kernel
theorem alive10_ev (nm:Nat):Ev cx 22 nm [] Mem.nil (.bool true) []:=by
 have hp:=parse10_ev tex1 (by decide)
 rw[tex1_is]at hp
 unfold treeV tex1 at hp
 simp only at hp
 have hc:=checkT_ev tev1 (by decide) (fun n hn=>by simp only[tev1,Lk,Ln,or_false]at hn;rcases hn with rfl|rfl|rfl<;>simp[Nd.okTo,Nd.i64,lim])
 rw[tev1_may]at hc
 have hs:=sameNd_ev tev1 tev1 (by decide) (by decide) (by decide +kernel) (by decide +kernel)
 rw[decide_eq_true rfl]at hs
 have hpl:=plain_nd tev1
 have hel1:=elem_ev [97] 2
 have hel2:=elem_ev [98] 0
 have hT':tev1.map ndC=[[.int .u8 1,.str [],.str [97],.sl false 3 [],.str [],.int .i64 2],[.int .u8 2,.str [],.str [],.sl false 3 [],.str [116],.int .i64 0],[.int .u8 1,.str [],.str [98],.sl false 3 [],.str [],.int .i64 0]]:=rfl
 generalize hT:tev1.map ndC=T at hp hc hs hpl hT'
 refine ev_go rfl (fun cargs w=>call22 cargs w) func22 rfl mixed (by kernel_rfl) rfl ?_;intro b0 hb0
 repeat' first|simp only[results22,ntmps22,wks,hpl,vcs,seval,tys]|exact rfl|((first|(refine call_fn ?_ (hp _) ?_)|(refine call_fn_g ?_ (fun _=>hp _) ?_)|(refine call_fn ?_ (hc _) ?_)|(refine call_fn_g ?_ (fun _=>hc _) ?_)|(refine call_fn ?_ (hel1 _) ?_)|(refine call_fn_g ?_ (fun _=>hel1 _) ?_));(focus (simp only[results22,ntmps22,wks,hpl,vcs,seval,tys]<;>exact rfl)))|((first|(refine call_fn ?_ (hel2 _) ?_)|(refine call_fn_g ?_ (fun _=>hel2 _) ?_));(focus (simp only[results22,ntmps22,wks,hpl,vcs,seval,tys]<;>exact rfl)))|((first|apply Ca|apply Cb)<;>intro hb)|refine Ai (by omega) ?_|(apply Ai<;>intro hb)
 refine call_fn_gvd (xs:=?_) [b0+224] ?_ (fun _=>hs _) (fun _=>?_) (fun _=>?_) rfl ?_
 rotate_left 1
 ·simp only[mems,wks,vcs,seval,tys]<;>exact rfl
 ·simp only[dps,dps2,fins,mems,wks,finLL_cons,finLL_nil,finLLOk_cons,finLLOk_nil,leLL_cons,hT',plainL,V.plain,hpl,le_nils_sl,Lc,Lo,Bool.and_self,Bool.true_and,vcs,seval,tys]
 ·simp only[dps,dps2,fins,mems,wks,finLL_cons,finLL_nil,finLLOk_cons,finLLOk_nil,leLL_cons,plainL,V.plain,hT'.symm,hpl,Lc,Lo,Bool.and_self,Bool.true_and,vcs,seval,tys]
 (repeat' first|simp only[results22,ntmps22,wks,hpl,vcs,seval,tys]|exact rfl|((first|(refine call_fn ?_ (hp _) ?_)|(refine call_fn_g ?_ (fun _=>hp _) ?_)|(refine call_fn ?_ (hc _) ?_)|(refine call_fn_g ?_ (fun _=>hc _) ?_));(focus (simp only[results22,ntmps22,wks,hpl,vcs,seval,tys]<;>exact rfl)))|((first|apply Ca|apply Cb)<;>intro hb)|refine Ai (by omega) ?_|(apply Ai<;>intro hb)|refine Fin.pure ?_ ?_ ?_|simp only[injs])
theorem inc_fit {v:List Nd}{o:List Nat}{K:Nat}(h:∀ x∈v,x.okTo K):∀ x∈incG v o,x.okTo K:=by
 intro x hx
 unfold incG at hx
 split at hx
 ·rename_i k _
  obtain⟨i,hi⟩:=List.mem_iff_getElem?.1 hx
  rw[List.getElem?_modify]at hi
  cases hv:v[i]? with
  | none=>rw[hv]at hi;simp at hi
  | some y =>
   rw[hv]at hi
   have:=h y (List.mem_of_getElem? hv)
   split at hi
   ·simp at hi;subst hi;exact this
   ·simp at hi;subst hi;exact this
 ·exact h x hx
theorem add_fit {g:Gr}{K:Nat}(h:∀ x∈g.v,x.okTo K){x:Nd}(hx:x.okTo K):∀ y∈addG g x,y.okTo K:=by
 intro y hy
 rcases List.mem_append.1 hy with hy|hy
 ·exact inc_fit h y hy
 ·simp at hy;subst hy;exact hx
theorem text_fit {t:Tk}{K:Nat}(h:t.okTo K):(textN t.text).okTo K:=⟨by simp[textN],by simp[textN],by simp[textN],h.2.2.1,fun a ha=>by simp[textN]at ha⟩
theorem elem_fit {t:Tk}{K:Nat}(h:t.okTo K):(elemN t).okTo K:=⟨by simp[elemN,givenL];exact h.1,by simp[elemN],h.2.1,by simp[elemN],fun a ha=>by
 simp only[elemN,givenL,List.mem_map]at ha
 obtain⟨b,hb,rfl⟩:=ha
 exact⟨by simp,h.2.2.2 b hb⟩⟩
theorem step_fit {g:Gr}{K:Nat}(h:∀ x∈g.v,x.okTo K){t:Tk}(ht:t.okTo K)(txt:Bool):∀ x∈(stepG g t txt).1.v,x.okTo K:=by
 unfold stepG
 split
 ·split
  ·exact h
  ·split
   ·exact h
   ·exact add_fit h (text_fit ht)
 ·split
  ·split<;>exact h
  ·split
   ·exact h
   ·split
    ·exact h
    ·exact add_fit h (elem_fit ht)
theorem go_fit {K:Nat} : ∀(l:List Tk) (g:Gr) (txt:Bool) (n:Nat),(∀ x∈g.v,x.okTo K)→g.Ok n→(∀ t∈l,t.okTo K)→(∀ x∈(goG g txt l).1.v,x.okTo K)∧(goG g txt l).1.Ok (n+l.length)
 | [],g,txt,n,h,hg,_=>⟨h,by simpa [goG] using hg⟩
 | t::r,g,txt,n,h,hg,hl=>by
  have h1:=step_fit h (hl t (.head _)) txt
  have h2:=step_ok hg t txt
  rw[goG]
  split
  ·obtain⟨h3,h4⟩:=go_fit r (stepG g t txt).1 (t.kind==4) (n+1) h1 h2 (fun u hu=>hl u (.tail _ hu))
   exact⟨h3,by rw[show n+(t::r).length=n+1+r.length by simp;omega];exact h4⟩
  ·refine⟨h1,h2.in_,h2.deep,fun x hx=>?_,?_⟩
   ·have:=h2.many x hx;simp only[List.length_cons];omega
   ·have:=h2.len;simp only[List.length_cons];omega
theorem parse_fit {l:List Tk}{K:Nat}(hl:l.length≤600)(h:∀ t∈l,t.okTo K):(parseT l).length≤600 ∧ ∀ x∈parseT l,x.okTo K∧x.i64:=by
 obtain⟨h1,h2⟩:=go_fit l ⟨[],[]⟩ false 0 (fun x hx=>by simp at hx) start_ok h
 unfold parseT
 split
 ·refine⟨by have:=h2.len;omega,fun x hx=>⟨h1 x hx,?_⟩⟩
  have:=h2.many x hx
  unfold Nd.i64;omega
 ·exact⟨by simp,fun x hx=>by simp at hx⟩
theorem parseA_fit {s:List UInt8}(hs:s.length≤16384):(parseA s).1.length≤600 ∧ ∀ x∈(parseA s).1,x.okTo 1000000∧x.i64:=by
 unfold parseA
 split
 ·exact⟨by simp,fun x hx=>by simp at hx⟩
 ·rename_i h
  obtain⟨f1,f2⟩:=toks_fit hs (by simpa using h)
  exact parse_fit f1 (fun t ht=>(f2 t ht).1)
theorem okTo_nd {n:Nd}{a b:Nat}(h:n.okTo a)(hab:a≤b):n.okTo b:=by
 obtain⟨h1,h2,h3,h4,h5⟩:=h
 exact⟨by omega,by omega,by omega,by omega,fun x hx=>by obtain⟨a1,a2,a3⟩:=h5 x hx;exact⟨by omega,by omega,by omega⟩⟩
def At.fits (a:At):Prop:=a.space.length≤lim∧a.name.length≤lim∧a.value.length≤lim
theorem at_shape {n:Nat}{vs:List V}(h:Shape cx.P n 60 vs):∃ x:At,vs=atC x∧x.fits:=by
 obtain⟨n',h⟩:=shape_struct kind_60 h
 obtain⟨_,_,rfl,h1,_,_,rfl,h2,_,_,rfl,h3,h7⟩:=h
 obtain⟨a1,rfl,r1⟩:=shape_str kind_9 h1
 obtain⟨a2,rfl,r2⟩:=shape_str kind_9 h2
 obtain⟨a3,rfl,r3⟩:=shape_str kind_9 h3
 obtain rfl:=shapeT_nil h7
 exact⟨⟨a1,a2,a3⟩,rfl,Nat.le_trans r1 (by decide),Nat.le_trans r2 (by decide),Nat.le_trans r3 (by decide)⟩
theorem nd_shape {n:Nat}{vs:List V}(h:Shape cx.P n 43 vs):∃ x:Nd,vs=ndC x∧(x.okTo lim∧x.i64):=by
 obtain⟨n',h⟩:=shape_struct kind_43 h
 obtain⟨_,_,rfl,h1,_,_,rfl,h2,_,_,rfl,h3,_,_,rfl,h4,_,_,rfl,h5,_,_,rfl,h6,h7⟩:=h
 obtain⟨a1,rfl,r1,_⟩:=shape_int kind_5 h1
 obtain⟨a2,rfl,r2⟩:=shape_str kind_9 h2
 obtain⟨a3,rfl,r3⟩:=shape_str kind_9 h3
 obtain⟨_,rs,rfl,l1,m1,g1⟩:=shape_slice kind_41 h4
 obtain⟨a5,rfl,r5⟩:=shape_str kind_9 h5
 obtain⟨a6,rfl,r6,r6'⟩:=shape_int kind_3 h6
 obtain rfl:=shapeT_nil h7
 obtain⟨x1,rfl,f1⟩:=rows_map atC At.fits (fun r hr=>at_shape (g1 r hr))
 rw[Lm]at m1
 have r1':(0:Int)≤a1:=r1
 obtain⟨b1,rfl⟩:∃ b:Nat,a1=b:=⟨a1.toNat,by omega⟩
 exact⟨⟨b1,a2,a3,x1,a5,a6⟩,rfl,⟨by show x1.length≤lim;unfold lim;omega,Nat.le_trans r2 (by decide),Nat.le_trans r3 (by decide),Nat.le_trans r5 (by decide),f1⟩,r6,r6'⟩
theorem nds_shape {n:Nat}{vs:List V}(h:Shape cx.P n 22 vs):∃ l:List Nd,vs=[.sl false 6 (l.map ndC)]∧l.length≤lim ∧ ∀ x∈l,x.okTo lim∧x.i64:=by
 obtain⟨_,rs,rfl,l1,m1,g1⟩:=shape_slice kind_22 h
 obtain⟨x1,rfl,f1⟩:=rows_map ndC (fun x=>x.okTo lim∧x.i64) (fun r hr=>nd_shape (g1 r hr))
 rw[Lm]at m1
 exact⟨x1,rfl,by unfold lim;omega,f1⟩
def tokV (T:List Tk)(e:Int):V:=.tup [.sl false 4 (T.map tkC),.int .i64 e]
def toksT (n:Nd)(k:Fo):List Tk:=if toksE n k=0 then (Fo.cons n k .nil).toks else []
theorem tokens_fz (n:Nd)(k:Fo)(hk1:n.kind=1)(hg:(Fo.cons n k .nil).good 12 0=true)(hl:k.size+1≤512)(hok:∀ x∈n::k.flat,x.okTo lim∧x.i64)(nm:Nat):Ev cx 23 nm [.sl false 6 ((n::k.flat).map ndC)] Mem.nil (tokV (toksT n k) (toksE n k)) []:=by
 unfold toksT
 by_cases h:toksE n k=0
 ·have h3:=tokens_all n k hk1 hg hl hok _ _ nm (.inr ⟨h,rfl,rfl⟩)
  rw[if_pos h,h]
  generalize (Fo.cons n k .nil).toks=T at h3 ⊢
  have hpl:=plain_tk T
  have htk:(T.map tkC).take T.length=T.map tkC:=take_map_len _ _
  refine Ev.freeze h3 ?_ ?_
  ·simp only[fins,mems,wks,hpl,htk,Lm,vcs,seval,tys]<;>omega
  ·unfold tokV
   simp only[fins,mems,wks,hpl,htk,Lm,vcs,seval,tys]
 ·have h3:=tokens_all n k hk1 hg hl hok _ _ nm (.inl ⟨h,rfl,rfl⟩)
  rw[if_neg h]
  refine Ev.res_le h3 ?_
  unfold tokV
  simp only[le_tup,leL_cons,leL_nil,le_nils_sl,le_int,Lo,and_self]
theorem tokens_nofz (v:List Nd)(hv:v.length≤lim)(hok:∀ n∈v,n.okTo lim∧n.i64)(h:behindO v=none)(nm:Nat):Ev cx 23 nm [.sl false 6 (v.map ndC)] Mem.nil (tokV [] 8) []:=by
 refine Ev.res_le (tokens_no v hv hok h nm) ?_
 unfold tokV
 simp only[le_tup,leL_cons,leL_nil,le_nils_sl,le_int,Lo,and_self]
theorem tree_of {v:List Nd}{en:List Nat}(h:behindO v=some en):∃ n k,n.kind=1∧v=n::k.flat∧(Fo.cons n k .nil).good 12 0=true∧k.size+1≤512∧v.length=k.size+1:=by
 obtain⟨n,k,h1,h2,h3,h4,_⟩:=behind_iff.1 h
 have hl:v.length=k.size+1:=by rw[h2];simp[Fo.flat_length]
 exact⟨n,k,h1,h2,h3,by omega,hl⟩
end Go.Proofs.YtjdjclecdfhciaaGreatDoor
