/-
 Texts joined: XPd,XPf,XSr,XSs,XSt,XSv,XJc,XJd,XJe.
-/
import Derived.Test.YtfcfldmioonipaaQo
import Derived.Test.YtfcfldmioonipaaQe
import Derived.Test.YtfcfldmioonipaaQh
import Derived.Test.YtfcfldmioonipaaQn
import Derived.Test.YtfcfldmioonipaaQl
import Derived.Test.YtfcfldmioonipaaQm
namespace Go.Proofs.Ytfcfldmioonipaa
set_option maxRecDepth 100000
set_option maxHeartbeats 32000000
set_option linter.unusedSimpArgs false
set_option linter.unusedVariables false
open Go Go.RowKit Vm Go.Lib Try
open Vm renaming cond_bool→Ca,cond_bit→Cb
open And renaming intro→Ai
open List renaming length_map→Lm,not_mem_nil→Ln,map_nil→Lo,map_cons→Lc,mem_cons→Lk
open Bool renaming not_false→Bf,not_true→Bt
theorem attrsW_get {l:List Pr}{a:Pr}(h:a∈l):(attrW a).length≤(attrsW l).length:=by
 unfold attrsW
 rw[List.length_flatMap]
 exact sum_map_le (f:=fun x=>(attrW x).length) h
theorem toksW_get {l:List Tk}{t:Tk}(h:t∈l):(tokW t).length≤(toksW l).length:=by
 unfold toksW
 rw[List.length_flatMap]
 exact sum_map_le (f:=fun x=>(tokW x).length) h
theorem tok_okTo {t:Tk}(ht:tokL t=true){n:Nat}(hn:(tokW t).length≤n):t.okTo (n+16):=by
 obtain⟨k,m,l,x⟩:=t
 unfold tokL at ht
 dsimp only at ht
 unfold tokW at hn
 dsimp only at hn
 have hx:=(escW_length false x).1
 split at ht
 ·rename_i hk
  rw[if_neg (show ¬ k=4 by omega),if_neg (show ¬ k=2 by omega)]at hn
  simp only[Bool.and_eq_true,List.isEmpty_iff]at ht
  obtain⟨⟨_,h2⟩,rfl⟩:=ht
  have h16:=(attrs_iff.1 h2).1
  simp only[List.length_append,List.length_cons,List.length_nil]at hn
  refine⟨by show l.length≤n+16;omega,by show m.length≤n+16;omega,by simp,fun a ha=>?_⟩
  have h3:=attrsW_get ha
  have h4:=(escW_length true a.value).1
  simp only[attrW,List.length_append,List.length_cons,List.length_nil]at h3
  omega
 ·split at ht
  ·rename_i hk
   subst hk
   rw[if_neg (by decide),if_pos rfl]at hn
   simp only[Bool.and_eq_true,List.isEmpty_iff]at ht
   obtain⟨⟨_,rfl⟩,rfl⟩:=ht
   simp only[List.length_append,List.length_cons,List.length_nil]at hn
   exact⟨by simp,by show m.length≤n+16;omega,by simp,fun a ha=>by simp at ha⟩
  ·split at ht
   ·rename_i hk
    subst hk
    rw[if_pos rfl]at hn
    simp only[Bool.and_eq_true,List.isEmpty_iff]at ht
    obtain⟨⟨⟨rfl,rfl⟩,_⟩,_⟩:=ht
    exact⟨by simp,by simp,by show x.length≤n+16;omega,fun a ha=>by simp at ha⟩
   ·cases ht
theorem okTo_le {t:Tk}{a b:Nat}(h:t.okTo a)(hab:a≤b):t.okTo b:=by
 obtain⟨h1,h2,h3,h4⟩:=h
 exact⟨by omega,by omega,by omega,fun x hx=>by have:=h4 x hx;omega⟩
theorem lex_okTo {s:List UInt8}(h:(lexA s).2.2=0):∀ t∈(lexA s).1,t.okTo (6*s.length+16):=by
 obtain⟨h1,_,_,_,_,h6⟩:=(lex_may s).1 h
 intro t ht
 exact tok_okTo (h1 t ht) (Nat.le_trans (toksW_get ht) h6)
theorem tok_attrs16 {t:Tk}(ht:tokL t=true):t.attrs.length≤16:=by
 unfold tokL at ht
 split at ht
 ·simp only[Bool.and_eq_true]at ht
  exact(attrs_iff.1 ht.1.2).1
 ·split at ht
  ·simp only[Bool.and_eq_true,List.isEmpty_iff]at ht
   rw[ht.1.2];simp
  ·split at ht
   ·simp only[Bool.and_eq_true,List.isEmpty_iff]at ht
    rw[ht.1.1.2];simp
   ·cases ht
theorem toks_fit {s:List UInt8}(hs:s.length≤16384)(h:(lexA s).2.2=0):(lexA s).1.length≤600 ∧ ∀ t∈(lexA s).1,t.okTo 1000000∧t.attrs.length≤30:=by
 obtain⟨h1,_,h3,_⟩:=(lex_may s).1 h
 refine⟨by omega,fun t ht=>⟨okTo_le (lex_okTo h t ht) (by omega),?_⟩⟩
 have:=tok_attrs16 (h1 t ht)
 omega
def At.fits (a:At):Prop:=a.space.length≤lim∧a.name.length≤lim∧a.value.length≤lim
theorem at_shape {n:Nat}{vs:List V}(h:Shape cx.P n 59 vs):∃ x:At,vs=atC x∧x.fits:=by
 obtain⟨n',h⟩:=shape_struct kind_59 h
 obtain⟨_,_,rfl,h1,_,_,rfl,h2,_,_,rfl,h3,h7⟩:=h
 obtain⟨a1,rfl,r1⟩:=shape_str kind_9 h1
 obtain⟨a2,rfl,r2⟩:=shape_str kind_9 h2
 obtain⟨a3,rfl,r3⟩:=shape_str kind_9 h3
 obtain rfl:=shapeT_nil h7
 exact⟨⟨a1,a2,a3⟩,rfl,Nat.le_trans r1 (by decide),Nat.le_trans r2 (by decide),Nat.le_trans r3 (by decide)⟩
theorem nd_shape {n:Nat}{vs:List V}(h:Shape cx.P n 24 vs):∃ x:Nd,vs=ndC x∧(x.okTo lim∧x.i64):=by
 obtain⟨n',h⟩:=shape_struct kind_24 h
 obtain⟨_,_,rfl,h1,_,_,rfl,h2,_,_,rfl,h3,_,_,rfl,h4,_,_,rfl,h5,_,_,rfl,h6,h7⟩:=h
 obtain⟨a1,rfl,r1,_⟩:=shape_int kind_5 h1
 obtain⟨a2,rfl,r2⟩:=shape_str kind_9 h2
 obtain⟨a3,rfl,r3⟩:=shape_str kind_9 h3
 obtain⟨_,rs,rfl,l1,m1,g1⟩:=shape_slice kind_22 h4
 obtain⟨a5,rfl,r5⟩:=shape_str kind_9 h5
 obtain⟨a6,rfl,r6,r6'⟩:=shape_int kind_3 h6
 obtain rfl:=shapeT_nil h7
 obtain⟨x1,rfl,f1⟩:=rows_map atC At.fits (fun r hr=>at_shape (g1 r hr))
 rw[Lm]at m1
 have r1':(0:Int)≤a1:=r1
 obtain⟨b1,rfl⟩:∃ b:Nat,a1=b:=⟨a1.toNat,by omega⟩
 exact⟨⟨b1,a2,a3,x1,a5,a6⟩,rfl,⟨by show x1.length≤lim;unfold lim;omega,Nat.le_trans r2 (by decide),Nat.le_trans r3 (by decide),Nat.le_trans r5 (by decide),f1⟩,r6,r6'⟩
theorem nds_shape {n:Nat}{vs:List V}(h:Shape cx.P n 27 vs):∃ l:List Nd,vs=[.sl false 6 (l.map ndC)]∧l.length≤lim ∧ ∀ x∈l,x.okTo lim∧x.i64:=by
 obtain⟨_,rs,rfl,l1,m1,g1⟩:=shape_slice kind_27 h
 obtain⟨x1,rfl,f1⟩:=rows_map ndC (fun x=>x.okTo lim∧x.i64) (fun r hr=>nd_shape (g1 r hr))
 rw[Lm]at m1
 exact⟨x1,rfl,by unfold lim;omega,f1⟩
def tokV (T:List Tk)(e:Int):V:=.tup [.sl false 4 (T.map tkC),.int .i64 e]
def toksT (n:Nd)(k:Fo):List Tk:=if toksE n k=0 then (Fo.cons n k .nil).toks else []
theorem tokens_fz (n:Nd)(k:Fo)(hk1:n.kind=1)(hg:(Fo.cons n k .nil).good 12 0=true)(hl:k.size+1≤512)(hok:∀ x∈n::k.flat,x.okTo lim∧x.i64)(nm:Nat):Ev cx 11 nm [.sl false 6 ((n::k.flat).map ndC)] Mem.nil (tokV (toksT n k) (toksE n k)) []:=by
 unfold toksT
 by_cases h:toksE n k=0
 ·have h3:=tokens_all n k hk1 hg hl hok _ _ nm (.inr ⟨h,rfl,rfl⟩)
  rw[if_pos h,h]
  generalize (Fo.cons n k .nil).toks=T at h3 ⊢
  have hpl:=plain_tk T
  have htk:(T.map tkC).take T.length=T.map tkC:=take_map_len _ _
  refine Ev.freeze h3 ?_ ?_
  ·simp only[fins,mems,wks,hpl,htk,Lm,vcs,seval,tys]<;>omega
  ·unfold tokV
   simp only[fins,mems,wks,hpl,htk,Lm,vcs,seval,tys]
 ·have h3:=tokens_all n k hk1 hg hl hok _ _ nm (.inl ⟨h,rfl,rfl⟩)
  rw[if_neg h]
  refine Ev.res_le h3 ?_
  unfold tokV
  simp only[le_tup,leL_cons,leL_nil,le_nils_sl,le_int,Lo,and_self]
theorem tokens_nofz (v:List Nd)(hv:v.length≤lim)(hok:∀ n∈v,n.okTo lim∧n.i64)(h:behindO v=none)(nm:Nat):Ev cx 11 nm [.sl false 6 (v.map ndC)] Mem.nil (tokV [] 8) []:=by
 refine Ev.res_le (tokens_no v hv hok h nm) ?_
 unfold tokV
 simp only[le_tup,leL_cons,leL_nil,le_nils_sl,le_int,Lo,and_self]
theorem tree_of {v:List Nd}{en:List Nat}(h:behindO v=some en):∃ n k,n.kind=1∧v=n::k.flat∧(Fo.cons n k .nil).good 12 0=true∧k.size+1≤512∧v.length=k.size+1:=by
 obtain⟨n,k,h1,h2,h3,h4,_⟩:=behind_iff.1 h
 have hl:v.length=k.size+1:=by rw[h2];simp[Fo.flat_length]
 exact⟨n,k,h1,h2,h3,by omega,hl⟩
theorem Fo.app_assoc:∀(F G H:Fo),(F.app G).app H=F.app (G.app H)
 | .nil,_,_=>rfl
 | .cons n k r,g,h=>by simp[Fo.app,r.app_assoc]
theorem at_app {α:Type}{a b:List α}{x:α}{i:Nat}(h:i=a.length):(a++x::b)[i]? = some x:=by subst h;simp
structure Wh where
 D:Fo
 R:Fo
 q:Nat
 i:Nat
def Wh.inv (k:Fo)(x:Wh):Prop:=x.D.app x.R=k∧x.q=1+x.D.size∧x.i=x.D.count
theorem noC_at {l:List Nat}{i q:Nat}(h:l[i]? = some q):(l.map noC)[i]? = some (noC q)∧i<l.length:=by
 refine⟨by rw[List.getElem?_map,h];rfl,(List.getElem?_eq_some_iff.1 h).1⟩
theorem kids_fz (v:List Nd)(hv:v.length≤lim)(hok:∀ n∈v,n.okTo lim∧n.i64){en:List Nat}(hbo:behindO v=some en)(p e:Nat)(hp:p<v.length)(hep:en[p]? = some e)(nm:Nat):Ev cx 13 nm [.sl false 6 (v.map ndC),.int .i64 p] Mem.nil (.tup [.sl false 1 ((hopL en e (p+1)).map noC),.int .i64 0]) []:=by
 have h3:=kids_yes v hv hok hbo p e hp hep nm
 have hll:(hopL en e (p+1)).length≤512:=by
  have h1:=hops_len (en:=en) (stop:=e) (e-(p+1)) (p+1)
  obtain⟨_,_,h512,hup⟩:=ends_ok hbo
  have:=hup p e hep
  unfold hopL;omega
 generalize hopL en e (p+1)=T at h3 hll ⊢
 have hpl:=plain_no T
 have htk:(T.map noC).take T.length=T.map noC:=take_map_len _ _
 refine Ev.freeze h3 ?_ ?_
 ·simp only[fins,mems,wks,hpl,htk,Lm,vcs,seval,tys]<;>omega
 ·simp only[fins,mems,wks,hpl,htk,Lm,vcs,seval,tys]
theorem strip_gdf (v:V):(V.gd false v).strip true = .gd false v:=rfl
def behI:Option Nat→Int
 | none=>-1
 | some e=>(e:Int)
structure BhSt where
 i:Nat
 next:Nat
 text:Bool
theorem rNode_ev (v:List Nd)(hv:v.length≤100000)(hok:∀ n∈v,n.okTo lim)(rec:Nat→Option Nat)(L:Nat)(hL:L≤13)(hrec:L≤12 → ∀ q:Nat,q≤100000 → ∀ nm,Ev cx 58 nm [.sl false 6 (v.map ndC),.int .i64 q,.int .i64 (L+1:Nat)] Mem.nil (.int .i64 (behI (rec q))) [])
    (hle:∀ q e,rec q=some e→q<e∧e≤v.length) (p:Nat) (hp:p≤100000) (nm:Nat) :
    Ev cx 58 nm [.sl false 6 (v.map ndC),.int .i64 p,.int .i64 L] Mem.nil (.int .i64 (behI (nodeB rec v (decide (12<L)) p))) []:=by
  unfold nodeB
  cases hx:v[p]? with
  | none =>
    have hge:v.length≤p:=List.getElem?_eq_none_iff.1 hx
    have c1:decide ((v.length:Int)≤(p:Int))=true:=decide_eq_true (by omega)
    have c2:decide (v.length≤p)=true:=decide_eq_true hge
    have hat0:(v.map ndC)[p]? = none:=by rw[List.getElem?_map,hx];rfl
    simp only[behI]
    refine ev_go rfl (fun cargs w=>call58 cargs w) func58 rfl mixed (by kernel_rfl) rfl ?_;intro b0 hb0
    (repeat' first|simp only[fins,mems,results58,ntmps58,wks,c1,c2,hat0,strip_gdf,Option.getD_none,List.drop_nil,List.take_nil,List.getElem?_nil,Lm,vcs,seval,tys]|exact rfl|refine call_off (v:=.any) ?_|(refine call_off (v:=.any) ?_)|((first|apply Ca|apply Cb)<;>intro hb)|refine Ai (by omega) ?_|(apply Ai<;>intro hb)|refine Fin.pure ?_ ?_ ?_|simp only[injs])
  | some x =>
    have hat:=nd_at hx
    have hpl:=(List.getElem?_eq_some_iff.1 hx).1
    have hpi:(p:Int)<(v.length:Int):=by omega
    have c1:decide ((v.length:Int)≤(p:Int))=false:=decide_eq_false (by omega)
    have c2:decide (v.length≤p)=false:=decide_eq_false (by omega)
    have hmay:=rMayN_ev x (hok x (List.mem_of_getElem? hx))
    simp only
    cases hb:okB v (decide (12<L)) x with
    | false =>
      rw[if_neg (by simp)]
      simp only[behI]
      unfold okB at hb
      cases hm:mayN x with
      | false =>
        rw[hm]at hmay
        refine ev_go rfl (fun cargs w=>call58 cargs w) func58 rfl mixed (by kernel_rfl) rfl ?_;intro b0 hb0
        (repeat' first|simp only[fins,mems,results58,ntmps58,wks,c1,c2,strip_gdf,hat,ndC,hpl,hpi,Bf,Lm,vcs,seval,tys]|exact rfl|refine call_off (v:=.any) ?_|(first|(refine call_fn ?_ (hmay _) ?_)|(refine call_fn_g ?_ (fun _=>hmay _) ?_))|(refine call_off (v:=.any) ?_)|((first|apply Ca|apply Cb)<;>intro hb)|refine Ai (by omega) ?_|(apply Ai<;>intro hb)|refine Fin.pure ?_ ?_ ?_|simp only[injs])
      | true =>
        rw[hm]at hmay hb
        by_cases h0:x.many<0
        · have e1:decide (x.many<0)=true:=decide_eq_true h0
          refine ev_go rfl (fun cargs w=>call58 cargs w) func58 rfl mixed (by kernel_rfl) rfl ?_;intro b0 hb0
          (repeat' first|simp only[fins,mems,results58,ntmps58,wks,c1,c2,e1,strip_gdf,hat,ndC,hpl,hpi,Bt,Lm,vcs,seval,tys]|exact rfl|refine call_off (v:=.any) ?_|(first|(refine call_fn ?_ (hmay _) ?_)|(refine call_fn_g ?_ (fun _=>hmay _) ?_))|(refine call_off (v:=.any) ?_)|((first|apply Ca|apply Cb)<;>intro hb)|refine Ai (by omega) ?_|(apply Ai<;>intro hb)|refine Fin.pure ?_ ?_ ?_|simp only[injs])
        · have e1:decide (x.many<0)=false:=decide_eq_false h0
          by_cases h1:(v.length:Int)<x.many
          · have e2:decide ((v.length:Int)<x.many)=true:=decide_eq_true h1
            refine ev_go rfl (fun cargs w=>call58 cargs w) func58 rfl mixed (by kernel_rfl) rfl ?_;intro b0 hb0
            (repeat' first|simp only[fins,mems,results58,ntmps58,wks,c1,c2,e1,e2,strip_gdf,hat,ndC,hpl,hpi,Bt,Lm,vcs,seval,tys]|exact rfl|refine call_off (v:=.any) ?_|(first|(refine call_fn ?_ (hmay _) ?_)|(refine call_fn_g ?_ (fun _=>hmay _) ?_))|(refine call_off (v:=.any) ?_)|((first|apply Ca|apply Cb)<;>intro hb)|refine Ai (by omega) ?_|(apply Ai<;>intro hb)|refine Fin.pure ?_ ?_ ?_|simp only[injs])
          · have e2:decide ((v.length:Int)<x.many)=false:=decide_eq_false h1
            rw[decide_eq_true (show 0≤x.many by omega),decide_eq_true (show x.many≤(v.length:Int) by omega)]at hb
            simp only[Bool.and_self,Bool.true_and,Bool.not_eq_false',Bool.and_eq_true,beq_iff_eq,decide_eq_true_eq]at hb
            have e3:((x.kind:Int)==1)=true:=by rw[hb.1];rfl
            have e4:decide ((12:Int)<(L:Int))=true:=decide_eq_true (by omega)
            have e5:decide (12<L)=true:=decide_eq_true (by omega)
            refine ev_go rfl (fun cargs w=>call58 cargs w) func58 rfl mixed (by kernel_rfl) rfl ?_;intro b0 hb0
            (repeat' first|simp only[fins,mems,results58,ntmps58,wks,c1,c2,e1,e2,e3,e4,e5,hat,ndC,hpl,hpi,Bt,Lm,vcs,seval,tys]|exact rfl|refine call_off (v:=.any) ?_|(first|(refine call_fn ?_ (hmay _) ?_)|(refine call_fn_g ?_ (fun _=>hmay _) ?_))|(refine call_off (v:=.any) ?_)|((first|apply Ca|apply Cb)<;>intro hb)|refine Ai (by omega) ?_|(apply Ai<;>intro hb)|refine Fin.pure ?_ ?_ ?_|simp only[injs])
    | true =>
      rw[if_pos rfl]
      unfold okB at hb
      simp only[Bool.and_eq_true,decide_eq_true_eq,Bool.not_eq_true',Bool.and_eq_false_iff,beq_eq_false_iff_ne,decide_eq_false_iff_not]at hb
      obtain⟨⟨⟨hm,h0⟩,h1⟩,h2⟩:=hb
      rw[hm]at hmay
      have e1:decide (x.many<0)=false:=decide_eq_false (by omega)
      have e2:decide ((v.length:Int)<x.many)=false:=decide_eq_false (by omega)
      obtain⟨c,hc⟩:∃ c:Nat,x.many=(c:Int):=⟨x.many.toNat,by omega⟩
      have hct:x.many.toNat=c:=by omega
      rw[hct]
      have hcL:12<L→c=0:=fun h=>by
        have hk:x.kind≠1:=h2.resolve_right (by omega)
        have hk2:x.kind=2:=by
          rcases mayN_kind hm with e|e
          · exact absurd e hk
          · exact e
        have:=(mayN_text hm hk2).2.2.2.1
        omega
      have e3:(((x.kind:Int)==1)&&decide ((12:Int)<(L:Int)))=false:=by
        rw[Bool.and_eq_false_iff]
        rcases h2 with h|h
        · left;exact beq_false_of_ne (by omega)
        · right;exact decide_eq_false (by omega)
      have w1:IntKind.i64.wrap ((p:Int)+1)=((p+1:Nat):Int):=wrap_in (by omega) (by omega)
      have w2:IntKind.i64.wrap ((L:Int)+1)=((L+1:Nat):Int):=wrap_in (by omega) (by omega)
      have hcase:((x.kind:Int)==1)=false∨(((x.kind:Int)==1)=true∧decide ((12:Int)<(L:Int))=false∧decide (12<L)=false):=by
        cases hkb:((x.kind:Int)==1) with
        | false=>exact .inl rfl
        | true =>
          rw[hkb,Bool.true_and]at e3
          have:¬ 12<L:=by have:=of_decide_eq_false e3;omega
          exact .inr ⟨rfl,e3,decide_eq_false this⟩
      have hS:=e3
      clear e3
      have hloop : ∀ (hk1:((x.kind:Int)==1)=false∨(((x.kind:Int)==1)=true∧decide ((12:Int)<(L:Int))=false∧decide (12<L)=false)),Ev cx 58 nm [.sl false 6 (v.map ndC),.int .i64 p,.int .i64 L] Mem.nil (.int .i64 (behI (loopB rec v c (p+1) false))) []:=by
        rintro (k1|⟨k1,k2,k3⟩)
        all_goals
          refine ev_go rfl (fun cargs w=>call58 cargs w) func58 rfl mixed (by kernel_rfl) rfl ?_;intro b0 hb0
          first
          | (repeat' first|simp only[fins,mems,results58,ntmps58,wks,c1,c2,e1,e2,k1,k2,k3,w1,hat,ndC,hpl,hpi,Bt,Lm,vcs,seval,tys]|exact rfl|refine call_off (v:=.any) ?_|(first|(refine call_fn ?_ (hmay _) ?_)|(refine call_fn_g ?_ (fun _=>hmay _) ?_))|refine Ai (by omega) ?_
             (refine loop_can2 cxG (fun s:BhSt=>c-s.i) (fun s=>s.i≤c∧s.next≤v.length∧loopB rec v c (p+1) false=loopB rec v (c-s.i) s.next s.text) (b0+16) (fun s=>[(0,.sl false 6 (v.map ndC)),(1,.int .i64 p),(2,.int .i64 L),(7,.int .i64 s.next),(8,.bool s.text),(9,.int .i64 s.i)]) (fun s=>[]) ((BhSt.mk 0 (p+1) false)) [] ?_ ?_ ?_ ?_;rotate_left 1;(focus (show b0≤_;omega));(focus (refine⟨?_,?_⟩<;>(try simp only[cans,plain_nd,Lm,vcs,seval,tys,injs])<;>(try omega)));rotate_left 1))
          | (repeat' first|simp only[fins,mems,results58,ntmps58,wks,c1,c2,e1,e2,k1,w1,hat,ndC,hpl,hpi,Bt,Lm,vcs,seval,tys]|exact rfl|refine call_off (v:=.any) ?_|(first|(refine call_fn ?_ (hmay _) ?_)|(refine call_fn_g ?_ (fun _=>hmay _) ?_))|refine Ai (by omega) ?_
             (refine loop_can2 cxG (fun s:BhSt=>c-s.i) (fun s=>s.i≤c∧s.next≤v.length∧loopB rec v c (p+1) false=loopB rec v (c-s.i) s.next s.text) (b0+16) (fun s=>[(0,.sl false 6 (v.map ndC)),(1,.int .i64 p),(2,.int .i64 L),(7,.int .i64 s.next),(8,.bool s.text),(9,.int .i64 s.i)]) (fun s=>[]) ((BhSt.mk 0 (p+1) false)) [] ?_ ?_ ?_ ?_;rotate_left 1;(focus (show b0≤_;omega));(focus (refine⟨?_,?_⟩<;>(try simp only[cans,plain_nd,Lm,vcs,seval,tys,injs])<;>(try omega)));rotate_left 1))
        all_goals first
          | exact⟨Nat.zero_le _,hpl,rfl⟩
          | (rintro ⟨i,next,text⟩ ⟨hi,hn,hinv⟩
             simp only at hi hn hinv ⊢
             rw[hinv]
             by_cases hlt:i<c
             · have hrc:=hrec (by have:=hcL;omega)
               have d1:decide ((i:Int)<x.many)=true:=decide_eq_true (by omega)
               have wi:IntKind.i64.wrap ((i:Int)+1)=((i+1:Nat):Int):=wrap_in (by omega) (by omega)
               have hsub:c-i=(c-(i+1))+1:=by omega
               have hu:loopB rec v (c-i) next text=(match rec next with|none=>none|some e=>match v[next]? with|none=>none|some y=>if (text&&y.kind==2)=true then none else loopB rec v (c-(i+1)) e (y.kind==2)):=by rw[hsub];rfl
               rw[hu]
               clear hu hsub
               have hcall:=hrc next (by omega)
               cases hr:rec next with
               | none =>
                 rw[hr]at hcall
                 simp only[behI]at hcall ⊢
                 (repeat' first|simp only[fins,mems,results58,ntmps58,wks,d1,w2,hat,ndC,hpl,hpi,Bt,Lm,vcs,seval,tys]|exact rfl|refine call_off (v:=.any) ?_|(first|(refine call_fn ?_ (hcall _) ?_)|(refine call_fn_g ?_ (fun _=>hcall _) ?_))|(refine call_off (v:=.any) ?_)|((first|apply Ca|apply Cb)<;>intro hb)|refine Ai (by omega) ?_|(apply Ai<;>intro hb)|refine Fin.pure ?_ ?_ ?_|simp only[injs])
               | some e =>
                 rw[hr]at hcall
                 obtain⟨he1,he2⟩:=hle next e hr
                 obtain⟨y,hy⟩:∃ y,v[next]? = some y:=⟨_,List.getElem?_eq_getElem (by omega)⟩
                 have haty:=nd_at hy
                 have hnl:next<v.length:=by omega
                 have hni:(next:Int)<(v.length:Int):=by omega
                 have d2:decide ((e:Int)<0)=false:=decide_eq_false (by omega)
                 rw[hy]
                 simp only[behI]at hcall ⊢
                 have hk2:(y.kind==2)=((y.kind:Int)==2):=by rw[Bool.eq_iff_iff];simp;omega
                 rw[hk2]
                 cases hkk:((y.kind:Int)==2)<;>cases text
                 all_goals (try simp only[Bool.and_self,Bool.and_false,Bool.false_and,Bool.false_eq_true,if_false,if_true])
                 all_goals first
                   | (repeat' first|simp only[fins,mems,results58,ntmps58,wks,d1,d2,w2,wi,hkk,hat,haty,ndC,hpl,hpi,hnl,hni,Bt,Lm,vcs,seval,tys]|exact rfl|refine call_off (v:=.any) ?_|(first|(refine call_fn ?_ (hcall _) ?_)|(refine call_fn_g ?_ (fun _=>hcall _) ?_))|refine Ai (by omega) ?_
                      (refine again_can2 cxG (BhSt.mk (i+1) e ((y.kind:Int)==2)) [] ?_ ?_ ?_ ?_;rotate_left 2;(focus (show b0≤_;omega));(focus (refine⟨?_,?_⟩<;>(try simp only[cans,plain_nd,wi,hkk,Lm,vcs,seval,tys,injs])<;>(try omega)))))
                   |((repeat' first|simp only[fins,mems,results58,ntmps58,wks,d1,d2,w2,wi,hkk,hat,haty,ndC,hpl,hpi,hnl,hni,Bt,Lm,vcs,seval,tys]|exact rfl|refine call_off (v:=.any) ?_|(first|(refine call_fn ?_ (hcall _) ?_)|(refine call_fn_g ?_ (fun _=>hcall _) ?_))|((first|apply Ca|apply Cb)<;>intro hb)|refine Ai (by omega) ?_|(apply Ai<;>intro hb)|refine Fin.pure ?_ ?_ ?_|simp only[injs]))
                 all_goals first|(show c-(i+1)<c-i;omega)|(exact⟨hlt,he2,by simp only[hkk,hk2]⟩)|skip
             · have hie:i=c:=by omega
               subst hie
               have d1:decide ((i:Int)<x.many)=false:=decide_eq_false (by omega)
               have hu:loopB rec v (i-i) next text=some next:=by rw[Nat.sub_self];rfl
               rw[hu]
               simp only[behI]
               (repeat' first|simp only[fins,mems,results58,ntmps58,wks,d1,hat,ndC,hpl,hpi,Lm,vcs,seval,tys]|exact rfl|refine call_off (v:=.any) ?_|((first|apply Ca|apply Cb)<;>intro hb)|refine Ai (by omega) ?_|(apply Ai<;>intro hb)|refine Fin.pure ?_ ?_ ?_|simp only[injs]))
      exact hloop hcase
end Go.Proofs.Ytfcfldmioonipaa
namespace Go.Proofs.Ytfcfldmioonipaa
set_option maxRecDepth 100000
set_option maxHeartbeats 32000000
set_option linter.unusedSimpArgs false
set_option linter.unusedVariables false
open Nat renaming reduceAdd→Ka,reduceMul→Kb,reduceEqDiff→Kc,reduceLeDiff→Kd,reduceSub→Ke,reduceLT→Kf,reduceBEq→Kr,reduceBNe→Ks,reducePow→Kt
open Int renaming reduceToNat→Kg,reduceLE→Kh,reduceLT→Ki,reduceAdd→Kj,reduceSub→Kk,reduceMul→Kl,reduceNeg→Km,reduceBEq→Kn,reduceBNe→Ko,reduceEq→Kp,reduceNe→Kq
open Go Go.RowKit Vm Go.Lib Try
open Vm renaming cond_bool→Ca,cond_bit→Cb
open And renaming intro→Ai
open List renaming length_map→Lm,not_mem_nil→Ln,map_nil→Lo,map_cons→Lc,mem_cons→Lk
open Bool renaming not_false→Bf,not_true→Bt
theorem rBehind_ev (v:List Nd)(hv:v.length≤100000)(hok:∀ n∈v,n.okTo lim):∀(d:Nat),d≤12 → ∀(p:Nat),p≤100000 → ∀(nm:Nat),
  Ev cx 58 nm [.sl false 6 (v.map ndC),.int .i64 p,.int .i64 ((13-d:Nat):Int)] Mem.nil (.int .i64 (behI (behB v d p))) []
 | 0,_,p,hp,nm=>rNode_ev v hv hok (fun _=>none) 13 (by omega) (fun h=>absurd h (by omega)) (fun q e h=>by cases h) p hp nm
 | d+1,hd,p,hp,nm=>by
  have h:=rNode_ev v hv hok (behB v d) (13-(d+1)) (by omega) (fun _ q hq nm=>by
   have:=rBehind_ev v hv hok d (by omega) q hq nm
   rwa[show 13-d=13-(d+1)+1 by omega]at this) (fun q e he=>behB_le he) p hp nm
  rw[decide_eq_false (show ¬ 12<13-(d+1) by omega)]at h
  exact h
theorem rMayV_ev (v:List Nd)(hv:v.length≤100000)(hok:∀ n∈v,n.okTo lim)(nm:Nat):Ev cx 30 nm [.sl false 6 (v.map ndC)] Mem.nil (.bool (mayT v)) []:=by
 rw[mayT_eq]
 have hb:=rBehind_ev v hv hok 12 (Nat.le_refl _) 0 (by omega)
 simp only[Int.ofNat_zero,Ke,Int.ofNat_one]at hb
 cases hx:v[0]? with
 | none =>
  have h0:v.length=0:=by have:=List.getElem?_eq_none_iff.1 hx;omega
  have h1:v=[]:=List.eq_nil_of_length_eq_zero h0
  subst h1
  refine ev_go rfl (fun cargs w=>call30 cargs w) func30 rfl mixed (by kernel_rfl) rfl ?_;intro b0 hb0
  (repeat' first|simp only[fins,mems,results30,ntmps30,wks,strip_gdf,Lo,List.length_nil,List.getElem?_nil,Option.getD_none,List.drop_nil,Bool.false_and,vcs,seval,tys]|exact rfl|refine call_off (v:=.any) ?_|(refine call_off (v:=.any) ?_)|((first|apply Ca|apply Cb)<;>intro hb)|refine Ai (by omega) ?_|(apply Ai<;>intro hb)|refine Fin.pure ?_ ?_ ?_|simp only[injs])
 | some x =>
  have hat:=nd_at hx
  have h0:=(List.getElem?_eq_some_iff.1 hx).1
  have h0i:(0:Int)<(v.length:Int):=by omega
  have c1:decide ((0:Int)<(v.length:Int))=true:=decide_eq_true h0i
  have c2:decide (0<v.length)=true:=decide_eq_true h0
  have c3:decide ((v.length:Int)≤512)=decide (v.length≤512):=by rw[Bool.eq_iff_iff,decide_eq_true_eq,decide_eq_true_eq];omega
  have c4:((some x).map Nd.kind==some 1)=((x.kind:Int)==1):=by
   rw[Bool.eq_iff_iff];simp;omega
  have c5:(behI (behB v 12 0)==(v.length:Int))=(behB v 12 0==some v.length):=by
   cases behB v 12 0 with
   | none =>
    have:((-1:Int)==(v.length:Int))=false:=beq_false_of_ne (by omega)
    simp only[behI,this];rfl
   | some e=>rw[Bool.eq_iff_iff];simp only[behI,beq_iff_eq,Option.some.injEq];omega
  rw[c2,Bool.true_and,c4,← c5]
  generalize behI (behB v 12 0)=B at hb ⊢
  clear c2 c4 c5
  by_cases hl:v.length≤512
  ·have c6:decide (v.length≤512)=true:=decide_eq_true hl
   rw[c6]at c3 ⊢
   cases hk:((x.kind:Int)==1)
   all_goals (
    refine ev_go rfl (fun cargs w=>call30 cargs w) func30 rfl mixed (by kernel_rfl) rfl ?_;intro b0 hb0
    (repeat' first|simp only[fins,mems,results30,ntmps30,wks,strip_gdf,c1,c3,hat,h0,h0i,hk,ndC,Lm,Bool.true_and,Bool.false_and,vcs,seval,tys]|exact rfl|refine call_off (v:=.any) ?_|(first|(refine call_fn ?_ (hb _) ?_)|(refine call_fn_g ?_ (fun _=>hb _) ?_))|(refine call_off (v:=.any) ?_)|((first|apply Ca|apply Cb)<;>intro hb)|refine Ai (by omega) ?_|(apply Ai<;>intro hb)|refine Fin.pure ?_ ?_ ?_|simp only[injs]))
  ·have c6:decide (v.length≤512)=false:=decide_eq_false hl
   rw[c6]at c3 ⊢
   refine ev_go rfl (fun cargs w=>call30 cargs w) func30 rfl mixed (by kernel_rfl) rfl ?_;intro b0 hb0
   (repeat' first|simp only[fins,mems,results30,ntmps30,wks,strip_gdf,c1,c3,hat,h0,h0i,ndC,Lm,Bool.true_and,Bool.false_and,vcs,seval,tys]|exact rfl|refine call_off (v:=.any) ?_|(refine call_off (v:=.any) ?_)|((first|apply Ca|apply Cb)<;>intro hb)|refine Ai (by omega) ?_|(apply Ai<;>intro hb)|refine Fin.pure ?_ ?_ ?_|simp only[injs])
structure UnSt where
 D:Fo
 R:Fo
 q:Nat
def UnSt.inv (k:Fo)(p:Nat)(x:UnSt):Prop:=x.D.app x.R=k∧x.q=p+1+x.D.size
theorem part_good {D m r k:Fo}{d:Nat}{x:Nd}{c:Fo}(h:D.app (.cons x c r)=k)(hg:k.good d 1=true)(hd:d≤12):(Fo.cons x c .nil).good 12 0=true:=by
 rw[← h,Fo.app_good,Bool.and_eq_true]at hg
 obtain⟨h1,h2,h3,h4,h5,h6⟩:=Fo.good_cons.1 hg.2
 exact Fo.good_mono hd (Fo.good_cons.2 ⟨h1,h2,by omega,h4,h5,rfl⟩)
theorem tops_snoc {D:Fo}{x:Nd}{c:Fo}(p:Nat):(D.tops p).map noC++[noC (p+D.size)]=((D.app (.cons x c .nil)).tops p).map noC:=by
 rw[Fo.tops_app];simp[Fo.tops]
theorem rUnder_own (v:List Nd)(hv:v.length≤1000)(hok:∀ n∈v,n.okTo lim){n:Nd}{k:Fo}{p d:Nat}{rest:List Nd}(hd:v.drop p=n::(k.flat++rest))(hg:(Fo.cons n k .nil).good d 0=true)(hd12:d≤12)(nm:Nat) :
  Ev cx 40 nm [.sl false 6 (v.map ndC),.int .i64 p] Mem.nil (.own nm 0 k.count) [(nm,some ⟨1,(k.tops (p+1)).map noC⟩)]:=by
 obtain⟨hx,hpl,hd1⟩:=at_drop hd
 have hat:=nd_at hx
 have hpi:(p:Int)<(v.length:Int):=by omega
 obtain⟨g1,g2,g3,g4,g5,g6⟩:=Fo.good_cons.1 hg
 have hkl:=flat_len hd1
 have hkc:=count_le_size k
 have hks:p+1+k.size≤v.length:=by
  have:=congrArg List.length hd1
  rw[List.length_drop,List.length_append,Fo.flat_length]at this
  omega
 have w1:IntKind.i64.wrap ((p:Int)+1)=((p+1:Nat):Int):=wrap_in (by omega) (by omega)
 refine ev_go rfl (fun cargs w=>call40 cargs w) func40 rfl mixed (by kernel_rfl) rfl ?_;intro b0 hb0
 repeat' first|simp only[fins,mems,results40,ntmps40,wks,w1,vcs,seval,tys]|exact rfl|refine call_off (v:=.any) ?_|((first|apply Ca|apply Cb)<;>intro hb)|refine Ai (by omega) ?_|(apply Ai<;>intro hb)
 (refine loop_can2 cxG (fun x:UnSt=>k.count-x.D.count) (fun x=>x.inv k p) (b0+16) (fun x=>[(0,.sl false 6 (v.map ndC)),(1,.int .i64 p),(5,.own b0 0 x.D.count),(6,.int .i64 x.q),(7,.int .i64 x.D.count)]) (fun x=>[(b0,⟨1,(x.D.tops (p+1)).map noC⟩)]) ((UnSt.mk .nil k (p+1))) [none] ?_ ?_ ?_ ?_;rotate_left 1;(focus (show b0≤_;omega));(focus (refine⟨?_,?_⟩<;>(try simp only[cans,plain_nd,plain_no,isRow_inst,Fo.tops,Fo.count,Fo.size,Lo,List.length_nil,Lm,vcs,seval,tys,injs])<;>(try omega)));rotate_left 1)
 ·exact⟨rfl,rfl⟩
 ·rintro ⟨D,R,q⟩ ⟨hi1,hi2⟩
  simp only at hi1 hi2 ⊢
  have htl:=Fo.tops_length D (p+1)
  have htk:((D.tops (p+1)).map noC).take D.count=(D.tops (p+1)).map noC:=List.take_of_length_le (by rw[Lm,htl];omega)
  cases R with
  | nil =>
   rw[Fo.app_nil]at hi1
   subst hi1
   have d1:decide ((D.count:Int)<n.many)=false:=decide_eq_false (by omega)
   ((repeat' first|simp only[fins,mems,results40,ntmps40,wks,d1,hat,ndC,hpl,hpi,htl,htk,plain_no,Lm,vcs,seval,tys]|exact rfl|refine call_off (v:=.any) ?_|((first|apply Ca|apply Cb)<;>intro hb)|refine Ai (by omega) ?_|(apply Ai<;>intro hb));(all_goals (first|(refine Fin.auto (r:=?_) (l:=?_) ?_ ?_ ?_ ?_ ?_ ?_ ?_;rotate_left 1;(simp only[results40,ntmps40,envL_cons,envL_nil,memL_cons,memL_nil,d1,hat,ndC,hpl,hpi,htl,htk,plain_no,Lm,vcs,seval,tys]);(exact rfl);rotate_left 1;(simp only[V.owns,ownsL,List.cons_append,List.nil_append]);(exact rfl);all_goals (try simp only[results40,ntmps40,envL_cons,envL_nil,memL_cons,memL_nil,d1,hat,ndC,hpl,hpi,htl,htk,plain_no,Lm,ownx,vcs,seval,tys]);all_goals (try simp only[injs]))|skip)))
  | cons m c r =>
   have hi1':(D.app (.cons m c .nil)).app r=k:=by rw[Fo.app_assoc];exact hi1
   have hkc2:k.count=D.count+(r.count+1):=by rw[← hi1,Fo.app_count];rfl
   have hks2:k.size=D.size+(c.size+r.size+1):=by rw[← hi1,Fo.app_size];rfl
   have d1:decide ((D.count:Int)<n.many)=true:=decide_eq_true (by omega)
   have w2:IntKind.i64.wrap ((D.count:Int)+1)=((D.count+1:Nat):Int):=wrap_in (by omega) (by omega)
   have hdq:v.drop q=m::(c.flat++(r.flat++rest)):=by
    have:(v.drop (p+1)).drop D.size=m::(c.flat++(r.flat++rest)):=by
     rw[hd1,← hi1,Fo.app_flat,List.append_assoc,← Fo.flat_length,List.drop_left]
     simp[Fo.flat]
    rw[List.drop_drop]at this
    rw[hi2];exact this
   have hbg:=behB_good hdq (part_good (m:=.nil) hi1 g5 (by omega))
   have hb:=rBehind_ev v (by omega) hok 12 (Nat.le_refl _) q (by omega)
   rw[hbg]at hb
   simp only[behI,Ke,Int.ofNat_one]at hb
   have hsn:(D.tops (p+1)).map noC++[[V.int .i64 (q:Int)]]=((D.app (.cons m c .nil)).tops (p+1)).map noC:=by
    rw[hi2];exact tops_snoc (D:=D) (x:=m) (c:=c) (p+1)
   have hct:=Fo.app_count D (.cons m c .nil)
   simp only[Fo.count,Nat.zero_add]at hct
   have hsz:=Fo.app_size D (.cons m c .nil)
   simp only[Fo.size,Nat.add_zero]at hsz
   repeat' first|simp only[fins,mems,results40,ntmps40,wks,d1,hat,ndC,hpl,hpi,htl,htk,hsn,plain_no,Lm,vcs,seval,tys]|exact rfl|refine call_off (v:=.any) ?_|(first|(refine call_fn ?_ (hb _) ?_)|(refine call_fn_g ?_ (fun _=>hb _) ?_))|((first|apply Ca|apply Cb)<;>intro hb)|refine Ai (by omega) ?_|(apply Ai<;>intro hb)
   all_goals ((refine again_can2 cxG (UnSt.mk (D.app (.cons m c .nil)) r (q+1+c.size)) [some (b0+176)] ?_ ?_ ?_ ?_;rotate_left 2;(focus (show b0≤_;omega));(focus (refine⟨?_,?_⟩<;>(try simp only[cans,w2,hct,plain_nd,plain_no,isRow_inst,leLL_same,Lm,vcs,seval,tys,injs])<;>(try omega)))))
   all_goals (first|(show k.count-(D.app (.cons m c .nil)).count<k.count-D.count;omega)|(refine⟨hi1',?_⟩;simp only;omega)|skip)
end Go.Proofs.Ytfcfldmioonipaa
namespace Go.Proofs.Ytfcfldmioonipaa
set_option maxRecDepth 100000
set_option maxHeartbeats 32000000
set_option linter.unusedSimpArgs false
set_option linter.unusedVariables false
open Go Go.RowKit Vm Go.Lib Try
open Vm renaming cond_bool→Ca,cond_bit→Cb
open And renaming intro→Ai
open List renaming length_map→Lm,not_mem_nil→Ln,map_nil→Lo,map_cons→Lc,mem_cons→Lk
open Bool renaming not_false→Bf,not_true→Bt
theorem any_snoc12 {α:Type}{p:α→Bool}{l:List α}{k:Nat}{x:α}(h:l[k]? = some x)(hn:(l.take k).any p=false)(hp:p x=false):(l.take (k+1)).any p=false:=by
 obtain⟨hk,rfl⟩:=List.getElem?_eq_some_iff.1 h
 rw[List.take_succ_eq_append_getElem hk,List.any_append,hn];simp[hp]
theorem any_here12 {α:Type}{p:α→Bool}{l:List α}{k:Nat}{x:α}(h:l[k]? = some x)(hp:p x=true):l.any p=true:=List.any_eq_true.2 ⟨x,List.mem_of_getElem? h,hp⟩
theorem rSpc10_ev (v:List Nd)(hv:v.length≤100000)(hok:∀ n∈v,n.okTo lim)(nm:Nat):Ev cx 36 nm [.sl false 6 (v.map ndC)] Mem.nil (.bool (spacedL v)) []:=by
  refine ev_go rfl (fun cargs w=>call36 cargs w) func36 rfl mixed (by kernel_rfl) rfl ?_;intro b0 hb0
  repeat' first|simp only[fins,mems,results36,ntmps36,wks,vcs,seval,tys]|exact rfl|refine call_off (v:=.any) ?_|((first|apply Ca|apply Cb)<;>intro hb)|refine Ai (by omega) ?_|(apply Ai<;>intro hb)
  (refine loop_can2 cxG (fun x:Nat=>v.length-x) (fun x=>x≤v.length∧(v.take x).any spacedN=false) (b0+16) (fun x=>[(0,.sl false 6 (v.map ndC)),(3,.int .i64 x)]) (fun x=>[]) (0) [] ?_ ?_ ?_ ?_;rotate_left 1;(focus (show b0≤_;omega));(focus (refine⟨?_,?_⟩<;>(try simp only[cans,plain_nd,Lm,vcs,seval,tys,injs])<;>(try omega)));rotate_left 1)
  · exact⟨Nat.zero_le _,rfl⟩
  · rintro i ⟨hi,hno⟩
    by_cases hlt:i<v.length
    · obtain ⟨x,hx⟩:∃ x,v[i]? = some x:=⟨_,List.getElem?_eq_getElem hlt⟩
      have hat:=nd_at hx
      have hxl:=(hok x (List.mem_of_getElem? hx)).1
      unfold lim at hxl
      have d1:decide ((i:Int)<(v.length:Int))=true:=decide_eq_true (by omega)
      have d2:decide (i<v.length)=true:=decide_eq_true hlt
      have hii:(i:Int)<(v.length:Int):=by omega
      have wi:IntKind.i64.wrap ((i:Int)+1)=((i+1:Nat):Int):=wrap_in (by omega) (by omega)
      by_cases hs:x.space=[]
      · have c1:(x.space==[])=true:=by rw[hs];rfl
        repeat' first|simp only[fins,mems,results36,ntmps36,wks,d1,d2,hat,ndC,hlt,hii,c1,Bt,Bf,Lm,vcs,seval,tys]|exact rfl|refine call_off (v:=.any) ?_|((first|apply Ca|apply Cb)<;>intro hb)|refine Ai (by omega) ?_|(apply Ai<;>intro hb)
        (refine loop_can2 cxG (fun j:Nat=>x.attrs.length-j) (fun j=>j≤x.attrs.length∧(x.attrs.take j).any (fun a=>!a.space.isEmpty)=false) (b0+16) (fun j=>[(0,.sl false 6 (v.map ndC)),(3,.int .i64 i),(4,.int .i64 j)]) (fun j=>[]) (0) [] ?_ ?_ ?_ ?_;rotate_left 1;(focus (show b0≤_;omega));(focus (refine⟨?_,?_⟩<;>(try simp only[cans,plain_nd,plain_at,Lm,vcs,seval,tys,injs])<;>(try omega)));rotate_left 1)
        · exact⟨Nat.zero_le _,rfl⟩
        · rintro j ⟨hj,hna⟩
          by_cases hja:j<x.attrs.length
          · obtain⟨a,ha⟩:∃ a,x.attrs[j]? = some a:=⟨_,List.getElem?_eq_getElem hja⟩
            have haa:=at_at ha
            have f1:decide ((j:Int)<(x.attrs.length:Int))=true:=decide_eq_true (by omega)
            have f2:decide (j<x.attrs.length)=true:=decide_eq_true hja
            have hji:(j:Int)<(x.attrs.length:Int):=by omega
            have wj:IntKind.i64.wrap ((j:Int)+1)=((j+1:Nat):Int):=wrap_in (by omega) (by omega)
            by_cases hs2:a.space=[]
            · have c2:(a.space==[])=true:=by rw[hs2];rfl
              have hna':=any_snoc12 ha hna (show(!a.space.isEmpty)=false by rw[hs2];rfl)
              repeat' first|simp only[fins,mems,results36,ntmps36,wks,f1,f2,hat,haa,ndC,atC,hlt,hii,hja,hji,c2,wj,Bt,Bf,Lm,vcs,seval,tys]|exact rfl|refine call_off (v:=.any) ?_|((first|apply Ca|apply Cb)<;>intro hb)|refine Ai (by omega) ?_|(apply Ai<;>intro hb)
              all_goals ((refine again_can2 cxG (j+1) [] ?_ ?_ ?_ ?_;rotate_left 2;(focus (show b0≤_;omega));(focus (refine⟨?_,?_⟩<;>(try simp only[cans,plain_nd,wj,Lm,vcs,seval,tys,injs])<;>(try omega)))))
              all_goals (first|(show x.attrs.length-(j+1)<x.attrs.length-j;omega)|exact⟨hja,hna'⟩|skip)
            · have c2:(a.space==[])=false:=by simpa using hs2
              have hr:spacedL v=true:=by
                unfold spacedL
                refine any_here12 hx ?_
                unfold spacedN
                rw[any_here12 ha (by simpa using hs2),Bool.or_true]
              rw[hr]
              (repeat' first|simp only[fins,mems,results36,ntmps36,wks,f1,f2,hat,haa,ndC,atC,hlt,hii,hja,hji,c2,Bt,Bf,Lm,vcs,seval,tys]|exact rfl|refine call_off (v:=.any) ?_|((first|apply Ca|apply Cb)<;>intro hb)|refine Ai (by omega) ?_|(apply Ai<;>intro hb)|refine Fin.pure ?_ ?_ ?_|simp only[injs])
          · have hje:j=x.attrs.length:=by omega
            subst hje
            have f1:decide ((x.attrs.length:Int)<(x.attrs.length:Int))=false:=decide_eq_false (by omega)
            have f2:decide (x.attrs.length<x.attrs.length)=false:=decide_eq_false (by omega)
            rw[List.take_length]at hna
            have hno':=any_snoc12 hx hno (show spacedN x=false by unfold spacedN;rw[hna,hs];rfl)
            repeat' first|simp only[fins,mems,results36,ntmps36,wks,f1,f2,hat,ndC,hlt,hii,wi,Lm,vcs,seval,tys]|exact rfl|refine call_off (v:=.any) ?_|((first|apply Ca|apply Cb)<;>intro hb)|refine Ai (by omega) ?_|(apply Ai<;>intro hb)
            all_goals ((refine again_can2 cxG (i+1) [] ?_ ?_ ?_ ?_;rotate_left 2;(focus (show b0≤_;omega));(focus (refine⟨?_,?_⟩<;>(try simp only[cans,plain_nd,wi,Lm,vcs,seval,tys,injs])<;>(try omega)))))
            all_goals (first|(show v.length-(i+1)<v.length-i;omega)|exact⟨hlt,hno'⟩|skip)
      · have c1:(x.space==[])=false:=by simpa using hs
        have hr:spacedL v=true:=by
          unfold spacedL
          refine any_here12 hx ?_
          unfold spacedN
          rw[show(!x.space.isEmpty)=true by simpa using hs,Bool.true_or]
        rw[hr]
        (repeat' first|simp only[fins,mems,results36,ntmps36,wks,d1,d2,hat,ndC,hlt,hii,c1,Bt,Bf,Lm,vcs,seval,tys]|exact rfl|refine call_off (v:=.any) ?_|((first|apply Ca|apply Cb)<;>intro hb)|refine Ai (by omega) ?_|(apply Ai<;>intro hb)|refine Fin.pure ?_ ?_ ?_|simp only[injs])
    · have hie:i=v.length:=by omega
      subst hie
      have d1:decide ((v.length:Int)<(v.length:Int))=false:=decide_eq_false (by omega)
      have d2:decide (v.length<v.length)=false:=decide_eq_false (by omega)
      rw[List.take_length]at hno
      have hr:spacedL v=false:=hno
      rw[hr]
      (repeat' first|simp only[fins,mems,results36,ntmps36,wks,d1,d2,Lm,vcs,seval,tys]|exact rfl|refine call_off (v:=.any) ?_|((first|apply Ca|apply Cb)<;>intro hb)|refine Ai (by omega) ?_|(apply Ai<;>intro hb)|refine Fin.pure ?_ ?_ ?_|simp only[injs])
theorem pairs_take12 {l:List At}{k:Nat}{a:At}(h:l[k]? = some a):(pairsL (l.take k)).map prC++[[.str a.name,.str a.value]]=(pairsL (l.take (k+1))).map prC:=pairs_take h
theorem rPairs_own (l:List At)(hl:l.length≤1000)(nm:Nat):Ev cx 63 nm [.sl false 3 (l.map atC)] Mem.nil (.own nm 0 l.length) [(nm,some ⟨2,(pairsL l).map prC⟩)]:=by
 refine ev_go rfl (fun cargs w=>call63 cargs w) func63 rfl mixed (by kernel_rfl) rfl ?_;intro b0 hb0
 repeat' first|simp only[fins,mems,results63,ntmps63,wks,vcs,seval,tys]|exact rfl|refine call_off (v:=.any) ?_|refine draw_end (by decide +kernel) ?_|((first|apply Ca|apply Cb)<;>intro hb)|refine Ai (by omega) ?_|(apply Ai<;>intro hb)
 (refine loop_can2 cxG (fun x:Nat=>l.length-x) (fun x=>x≤l.length) (b0+16) (fun x=>[(0,.sl false 3 (l.map atC)),(3,.own b0 0 x),(4,.int .i64 x)]) (fun x=>[(b0,⟨2,(pairsL (l.take x)).map prC⟩)]) (0) [none] ?_ ?_ ?_ ?_;rotate_left 1;(focus (show b0≤_;omega));(focus (refine⟨?_,?_⟩<;>(try simp only[cans,plain_at,isRow_inst,pairs_zero,List.take_zero,Lo,Lm,vcs,seval,tys,injs])<;>(try omega)));rotate_left 1)
 ·exact Nat.zero_le _
 ·intro k hk
  by_cases hlt:k<l.length
  ·obtain⟨a,ha⟩:∃ a,l[k]? = some a:=⟨_,List.getElem?_eq_getElem hlt⟩
   have hat:=at_at ha
   have hd:decide (k<l.length)=true:=decide_eq_true hlt
   have hd2:decide ((k:Int)<(l.length:Int))=true:=decide_eq_true (by omega)
   have hki:(k:Int)<(l.length:Int):=by omega
   have hwk:IntKind.i64.wrap ((k:Int)+1)=((k+1:Nat):Int):=wrap_in (by omega) (by omega)
   have hgl:(pairsL (l.take k)).length=k:=by rw[pairs_len,List.length_take];omega
   have htl:((pairsL (l.take k)).map prC).take k=(pairsL (l.take k)).map prC:=List.take_of_length_le (by rw[Lm,hgl];omega)
   have hgs:=pairs_take12 ha
   repeat' first|simp only[fins,mems,results63,ntmps63,wks,plain_at,hat,atC,hd,hd2,hki,hlt,hgl,htl,hgs,Lm,vcs,seval,tys]|exact rfl|refine call_off (v:=.any) ?_|refine draw_end (by decide +kernel) ?_|((first|apply Ca|apply Cb)<;>intro hb)|refine Ai (by omega) ?_|(apply Ai<;>intro hb)
   all_goals ((refine again_can2 cxG (k+1) [some (b0+288)] ?_ ?_ ?_ ?_;rotate_left 2;(focus (show b0≤_;omega));(focus (refine⟨?_,?_⟩<;>(try simp only[cans,plain_at,plain_pr,isRow_inst,leLL_same,hwk,Lm,vcs,seval,tys,injs])<;>(try omega)))))
   all_goals (first|(show l.length-(k+1)<l.length-k;omega)|(show k+1≤l.length;omega)|skip)
  ·have hke:k=l.length:=by omega
   subst hke
   have hd:decide (l.length<l.length)=false:=decide_eq_false (by omega)
   have hd2:decide ((l.length:Int)<(l.length:Int))=false:=decide_eq_false (by omega)
   ((repeat' first|simp only[fins,mems,results63,ntmps63,wks,plain_pr,hd,hd2,List.take_length,Lm,vcs,seval,tys]|exact rfl|refine call_off (v:=.any) ?_|refine draw_end (by decide +kernel) ?_|((first|apply Ca|apply Cb)<;>intro hb)|refine Ai (by omega) ?_|(apply Ai<;>intro hb));(all_goals (first|(refine Fin.auto (r:=?_) (l:=?_) ?_ ?_ ?_ ?_ ?_ ?_ ?_;rotate_left 1;(simp only[results63,ntmps63,envL_cons,envL_nil,memL_cons,memL_nil,plain_pr,hd,hd2,List.take_length,Lm,vcs,seval,tys]);(exact rfl);rotate_left 1;(simp only[V.owns,ownsL,List.cons_append,List.nil_append]);(exact rfl);all_goals (try simp only[results63,ntmps63,envL_cons,envL_nil,memL_cons,memL_nil,plain_pr,hd,hd2,List.take_length,Lm,ownx,vcs,seval,tys]);all_goals (try simp only[injs]))|skip)))
theorem rPairs_fz (l:List At)(hl:l.length≤1000)(nm:Nat):Ev cx 63 nm [.sl false 3 (l.map atC)] Mem.nil (.sl false 2 ((pairsL l).map prC)) []:=by
 have hpl:=plain_pr (pairsL l)
 have hpn:=pairs_len l
 have htk:((pairsL l).map prC).take l.length=(pairsL l).map prC:=List.take_of_length_le (by rw[Lm,hpn];omega)
 refine Ev.freeze (rPairs_own l hl nm) ?_ ?_
 ·simp only[fins,mems,wks,hpl,htk,hpn,Lm,vcs,seval,tys]<;>omega
 ·simp only[fins,mems,wks,hpl,htk,hpn,Lm,vcs,seval,tys]
theorem rUnder_fz (v:List Nd)(hv:v.length≤1000)(hok:∀ n∈v,n.okTo lim){n:Nd}{k:Fo}{p d:Nat}{rest:List Nd}(hd:v.drop p=n::(k.flat++rest))(hg:(Fo.cons n k .nil).good d 0=true)(hd12:d≤12)(nm:Nat) :
  Ev cx 40 nm [.sl false 6 (v.map ndC),.int .i64 p] Mem.nil (.sl false 1 ((k.tops (p+1)).map noC)) []:=by
 have hpl:=plain_no (k.tops (p+1))
 have hpn:=Fo.tops_length k (p+1)
 have htk:((k.tops (p+1)).map noC).take k.count=(k.tops (p+1)).map noC:=List.take_of_length_le (by rw[Lm,hpn];omega)
 refine Ev.freeze (rUnder_own v hv hok hd hg hd12 nm) ?_ ?_
 ·simp only[fins,mems,wks,hpl,htk,hpn,Lm,vcs,seval,tys]<;>omega
 ·simp only[fins,mems,wks,hpl,htk,hpn,Lm,vcs,seval,tys]
end Go.Proofs.Ytfcfldmioonipaa
