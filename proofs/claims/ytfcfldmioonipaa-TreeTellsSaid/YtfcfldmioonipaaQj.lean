/-
 Texts joined: XEf,XEg,XGe,XNc,XNa,XNd,XNe,XNf,XGf.
-/
import Derived.Test.YtfcfldmioonipaaQi
import Derived.Test.YtfcfldmioonipaaQe
import Derived.Test.YtfcfldmioonipaaQg
import Derived.Test.YtfcfldmioonipaaQf
namespace Go.Proofs.Ytfcfldmioonipaa
set_option maxRecDepth 100000
set_option maxHeartbeats 32000000
set_option linter.unusedSimpArgs false
set_option linter.unusedVariables false
open Go Go.RowKit Vm Go.Lib Try
open Vm renaming cond_bool→Ca,cond_bit→Cb
open And renaming intro→Ai
open List renaming length_map→Lm,not_mem_nil→Ln,map_nil→Lo,map_cons→Lc,mem_cons→Lk
open Bool renaming not_false→Bf,not_true→Bt
def bS (u:Bool)(q y:Nat)(bs:List UInt8):Blk:=if bs=[] then bK u q .nils else bK true q (.own y 0 bs.length)
theorem bS_nil (u:Bool)(q y:Nat):bS u q y []=bK u q .nils:=by unfold bS;rw[if_pos rfl]
theorem bS_ne (u:Bool)(q y:Nat){bs:List UInt8}(h:bs≠[]):bS u q y bs=bK true q (.own y 0 bs.length):=by unfold bS;rw[if_neg h]
theorem ren_bS (σ:List (Nat×Nat))(u:Bool)(q y:Nat)(bs:List UInt8):Blk.ren σ (bS u q y bs)=bS u ((newName σ q).getD q) ((newName σ y).getD y) bs:=by
 unfold bS
 by_cases h:bs=[]
 ·rw[if_pos h,if_pos h]
  cases u<;>simp[bK,Blk.ren,renLL,renL,V.ren,plainLL,plainL,V.plain,Ob.ren,instCells]
 ·rw[if_neg h,if_neg h]
  simp[bK,Blk.ren,renLL,renL,V.ren,plainLL,plainL,V.plain,Ob.ren,instCells]
theorem renOk_bS (σ:List (Nat×Nat))(u:Bool)(q y:Nat)(bs:List UInt8)(h1:(newName σ q).isSome=true)(h2:(newName σ y).isSome=true):Blk.renOk σ (bS u q y bs)=true:=by
 unfold bS
 by_cases h:bs=[]
 ·rw[if_pos h]
  cases u<;>simp[bK,Blk.renOk,renOkLL,renOkL,V.renOk,h1,Ob.renOk,instCells]
 ·rw[if_neg h]
  simp[bK,Blk.renOk,renOkLL,renOkL,V.renOk,h1,h2,Ob.renOk,instCells]
theorem rK_row (bs:List UInt8):(rK bs).ob.isRow=true:=rfl
theorem rK_nil:(rK []).rows=[]:=rfl
theorem ren_rK (σ:List (Nat×Nat))(bs:List UInt8):Blk.ren σ (rK bs)=rK bs:=ren_bytes σ bs _
theorem renOk_rK (σ:List (Nat×Nat))(bs:List UInt8):Blk.renOk σ (rK bs)=true:=renOk_bytes σ bs _
theorem fresh_out {M:Mem}{q y nm:Nat}(ho:∀ z,(M z).isSome=true→z∈[q,y])(hn:q<nm)(hny:y<nm):∀ x,Fresh nm x→M x=none:=fun x hx=>by
 cases hm:M x with
 | none=>rfl
 | some k =>
  have:=ho x (by rw[hm];rfl)
  simp only[Lk,Ln,or_false]at this
  have:=hx.1
  omega
theorem only1 {M:Mem}{q:Nat}{k:Blk}(h:M q=some k):(M.only [q]) q=some k:=only_eq.2 ⟨h,by simp⟩
section
variable (u:Bool) (q y:Nat) (bs:List UInt8) (M:Mem) (nm:Nat)
theorem wStr_ev (s:List UInt8)(hs:s≠[])(hl:bs.length+s.length≤lim)(hqy:q≠y)(hq:M q=some (bS u q y bs))(hy:M y=some (rK bs))(ho:∀ z,(M z).isSome=true→z∈[q,y])(hn:q<nm)(hny:y<nm) :
  Ev cx 42 nm [.ptr q 0 0,.str s] M (.tup [.int .i64 s.length,.val .nilIface]) [(y,none),(q,some (bS false q nm (bs++s))),(nm,some (rK (bs++s)))]:=by
 rw[bS_ne false q nm (bs:=bs++s) (by simp[hs]),List.length_append]
 by_cases hb:bs=[]
 ·subst hb
  rw[bS_nil]at hq
  simp only[List.nil_append,List.length_nil,Nat.zero_add]at hl ⊢
  refine Ev.dropM y (Ev.frame [q] (wStrN_ev u q s hs hl _ nm (only1 hq) only_mem hn) (fun x hx=>?_) (fresh_out ho hn hny))
  simp only[effNames,Lc,Lo,Lk,Ln,or_false]at hx
  rcases hx with rfl|rfl
  ·left;simp
  ·right;exact⟨Nat.le_refl _,by omega⟩
 ·rw[bS_ne u q y hb]at hq
  exact wStrO_ev true q y bs s hl M nm hqy hq hy ho hn hny
theorem bStr_ev (hl:bs.length≤lim)(hqy:q≠y)(hq:M q=some (bS u q y bs))(hy:M y=some (rK bs))(ho:∀ z,(M z).isSome=true→z∈[q,y])(hn:q<nm)(hny:y<nm) :
  Ev cx 43 nm [.ptr q 0 0] M (.str bs) [(q,none),(y,none)]:=by
 by_cases hb:bs=[]
 ·subst hb
  rw[bS_nil]at hq
  have h1:Ev cx 43 nm [.ptr q 0 0] M (.str []) [(q,none)]:=by
   refine Ev.frame [q] (bStrN_ev u q _ nm (only1 hq) only_mem hn) (fun x hx=>?_) (fresh_out ho hn hny)
   simp only[effNames,Lc,Lo,Lk,Ln,or_false]at hx
   subst hx;left;simp
  refine Ev.eff_eq (Ev.dropM y h1) ?_
  funext x
  simp only[Mem.app,Mem.put]
  by_cases e:x=y<;>by_cases e2:x=q<;>simp[e,e2]
 ·rw[bS_ne u q y hb]at hq
  exact bStrO_ev true q y bs hb hl M nm hqy hq hy ho hn hny
end
end Go.Proofs.Ytfcfldmioonipaa
namespace Go.Proofs.Ytfcfldmioonipaa
set_option maxRecDepth 100000
set_option maxHeartbeats 32000000
set_option linter.unusedSimpArgs false
set_option linter.unusedVariables false
open Go Go.RowKit Go.Lib
def skipL (s:List UInt8):List UInt8:=s.dropWhile blankB
def wordB (c:UInt8):Bool:=partB false c||c==58
def wordT (s:List UInt8):List UInt8:=s.takeWhile wordB
def wordR (s:List UInt8):List UInt8:=s.dropWhile wordB
def nameO (s:List UInt8):Option (List UInt8×List UInt8):=if fullL (wordT s)=true then some (wordT s,wordR s) else none
def flatB (c:UInt8):UInt8:=if blankB c=true then 32 else c
def toldO (s:List UInt8):Option (List UInt8):=readL (s.map flatB)
def quoteO:List UInt8→Option (List UInt8×List UInt8)
 | []=>none
 | q::t=>if q=39∨q=34 then cut1 q t else none
def valueO (s:List UInt8):Option (List UInt8×List UInt8):=(quoteO s).bind fun p=>(toldO p.1).map fun v=>(v,p.2)
def afterO (c:UInt8):List UInt8→Option (List UInt8)
 | []=>none
 | d::t=>if d=c then some t else none
def attrO (s:List UInt8):Option (Pr×List UInt8):=(nameO s).bind fun p=>(afterO 61 (skipL p.2)).bind fun t=>(valueO (skipL t)).map fun q=>(⟨p.1,q.1⟩,q.2)
theorem dropWhile_le {p:UInt8→Bool} : ∀ s:List UInt8,(s.dropWhile p).length≤s.length
 | []=>Nat.le_refl _
 | c::s=>by
  rw[List.dropWhile_cons]
  split
  ·have:=dropWhile_le (p:=p) s;simp;omega
  ·exact Nat.le_refl _
theorem skip_le (s:List UInt8):(skipL s).length≤s.length:=dropWhile_le s
theorem word_split (s:List UInt8):s=wordT s++wordR s:=(List.takeWhile_append_dropWhile).symm
theorem full_ne {s:List UInt8}(h:fullL s=true):s≠[]:=by
 intro e;subst e;cases h
theorem name_lt {s n r:List UInt8}(h:nameO s=some (n,r)):s=n++r∧n≠[]∧fullL n=true∧r.length<s.length:=by
 unfold nameO at h
 split at h
 ·rename_i hf
  cases h
  have h1:=word_split s
  have h2:=full_ne hf
  refine⟨h1,h2,hf,?_⟩
  have:=congrArg List.length h1
  rw[List.length_append]at this
  have:=List.length_pos_iff.2 h2
  omega
 ·cases h
theorem after_cons (c d:UInt8)(t:List UInt8):afterO c (d::t)=if d=c then some t else none:=rfl
theorem quote_cons (q:UInt8)(t:List UInt8):quoteO (q::t)=if q=39∨q=34 then cut1 q t else none:=rfl
theorem after_some {c:UInt8}{s t:List UInt8}(h:afterO c s=some t):s=c::t:=by
 cases s with
 | nil=>cases h
 | cons d s =>
  rw[after_cons]at h
  split at h
  ·rename_i e;cases h;rw[e]
  ·cases h
theorem quote_some {s a b:List UInt8}(h:quoteO s=some (a,b)):∃ q,(q=39∨q=34)∧s=q::(a++q::b)∧q ∉ a:=by
 cases s with
 | nil=>cases h
 | cons q t =>
  rw[quote_cons]at h
  split at h
  ·rename_i hq
   obtain⟨h1,h2⟩:=cut1_some h
   exact⟨q,hq,by rw[h1],h2⟩
  ·cases h
theorem value_some {s v r:List UInt8}(h:valueO s=some (v,r)):∃ a,quoteO s=some (a,r)∧toldO a=some v:=by
 unfold valueO at h
 obtain⟨⟨a,b⟩,h1,h2⟩:=Option.bind_eq_some_iff.1 h
 obtain⟨x,h3,h4⟩:=Option.map_eq_some_iff.1 h2
 cases h4
 exact⟨a,h1,h3⟩
theorem attr_some {s r:List UInt8}{a:Pr}(h:attrO s=some (a,r)):∃ r1 t,nameO s=some (a.name,r1)∧skipL r1=61::t∧valueO (skipL t)=some (a.value,r):=by
 unfold attrO at h
 obtain⟨⟨n,r1⟩,h1,h2⟩:=Option.bind_eq_some_iff.1 h
 obtain⟨t,h3,h4⟩:=Option.bind_eq_some_iff.1 h2
 obtain⟨⟨v,r2⟩,h5,h6⟩:=Option.map_eq_some_iff.1 h4
 cases h6
 exact⟨r1,t,h1,after_some h3,h5⟩
theorem attr_lt {s r:List UInt8}{a:Pr}(h:attrO s=some (a,r)):r.length<s.length:=by
 obtain⟨r1,t,h1,h2,h3⟩:=attr_some h
 have l1:=(name_lt h1).2.2.2
 have l2:=skip_le r1
 rw[h2]at l2
 have l3:=skip_le t
 obtain⟨v,h4,_⟩:=value_some h3
 obtain⟨q,_,h5,_⟩:=quote_some h4
 rw[h5]at l3
 simp only[List.length_cons,List.length_append]at l2 l3
 omega
def endO:List UInt8→Option (Nat×List UInt8)
 | 62::t=>some (1,t)
 | 47::62::t=>some (3,t)
 | _=>none
def tagL (n:List UInt8)(l:List Pr)(s:List UInt8):Option (Tk×List UInt8) :=
 match endO (skipL s) with
 | some (k,t)=>some (⟨k,n,l,[]⟩,t)
 | none=>if (skipL s).length<s.length then (match h:attrO (skipL s) with
  | none=>none
  | some (a,r)=>if (l.any fun b=>a.name==b.name)=true then none else tagL n (l++[a]) r) else none
termination_by s.length
decreasing_by
 have:=attr_lt h
 have:=skip_le s
 omega
theorem tag_end {n:List UInt8}{l:List Pr}{s t:List UInt8}{k:Nat}(h:endO (skipL s)=some (k,t)):tagL n l s=some (⟨k,n,l,[]⟩,t):=by rw[tagL,h]
theorem tag_gap {n:List UInt8}{l:List Pr}{s:List UInt8}(h:endO (skipL s)=none)(h2:¬(skipL s).length<s.length):tagL n l s=none:=by rw[tagL,h];simp only[if_neg h2]
theorem tag_bad {n:List UInt8}{l:List Pr}{s:List UInt8}(h:endO (skipL s)=none)(h2:attrO (skipL s)=none):tagL n l s=none:=by
 rw[tagL,h];simp only
 split
 ·split
  ·rfl
  ·rename_i e;rw[h2]at e;cases e
 ·rfl
theorem tag_twice {n:List UInt8}{l:List Pr}{s r:List UInt8}{a:Pr}(h:endO (skipL s)=none)(h2:attrO (skipL s)=some (a,r))(h3:(l.any fun b=>a.name==b.name)=true):tagL n l s=none:=by
 rw[tagL,h];simp only
 split
 ·split
  ·rfl
  ·rename_i e;rw[h2]at e;cases e;rw[if_pos h3]
 ·rfl
theorem tag_attr {n:List UInt8}{l:List Pr}{s r:List UInt8}{a:Pr}(h:endO (skipL s)=none)(hg:(skipL s).length<s.length)(h2:attrO (skipL s)=some (a,r))(h3:(l.any fun b=>a.name==b.name)=false):tagL n l s=tagL n (l++[a]) r:=by
 rw[tagL,h];simp only[if_pos hg]
 split
 ·rename_i e;rw[h2]at e;cases e
 ·rename_i e;rw[h2]at e;cases e;rw[if_neg (by simp[h3])]
def tagO (s:List UInt8):Option (Tk×List UInt8) :=
 match afterO 47 s with
 | some t=>(nameO t).bind fun p=>(afterO 62 (skipL p.2)).map fun r=>(⟨2,p.1,[],[]⟩,r)
 | none=>(nameO s).bind fun p=>tagL p.1 [] p.2
def textB (c:UInt8):Bool:=c != 60
def textT (s:List UInt8):List UInt8:=s.takeWhile textB
def textR (s:List UInt8):List UInt8:=s.dropWhile textB
def oneO (s:List UInt8):Option (Tk×List UInt8) :=
 match afterO 60 s with
 | some t=>tagO t
 | none=>(readL (textT s)).map fun x=>(⟨4,[],[],x⟩,textR s)
theorem tagL_lt:∀(k:Nat) (n:List UInt8) (l:List Pr) (s r:List UInt8) (t:Tk),s.length≤k→tagL n l s=some (t,r)→r.length<s.length:=by
 intro k
 induction k with
 | zero =>
  intro n l s r t hk h
  obtain rfl:=List.length_eq_zero_iff.1 (Nat.le_zero.1 hk)
  rw[tag_gap (by rfl) (by simp[skipL])]at h;cases h
 | succ k ih =>
  intro n l s r t hk h
  have hs:=skip_le s
  cases he:endO (skipL s) with
  | some p =>
   obtain⟨m,u⟩:=p
   rw[tag_end he]at h
   cases h
   unfold endO at he
   split at he
   ·rename_i e;cases he;rw[e]at hs;simp at hs;omega
   ·rename_i e;cases he;rw[e]at hs;simp at hs;omega
   ·cases he
  | none =>
   cases ha:attrO (skipL s) with
   | none=>rw[tag_bad he ha]at h;cases h
   | some p =>
    obtain⟨a,u⟩:=p
    have hl:=attr_lt ha
    cases hd:l.any fun b=>a.name==b.name with
    | true=>rw[tag_twice he ha hd]at h;cases h
    | false =>
     by_cases hg:(skipL s).length<s.length
     ·rw[tag_attr he hg ha hd]at h
      have:=ih n _ u r t (by omega) h
      omega
     ·rw[tag_gap he hg]at h;cases h
theorem tag_lt {s r:List UInt8}{t:Tk}(h:tagO s=some (t,r)):r.length<s.length:=by
 unfold tagO at h
 split at h
 ·rename_i u hu
  obtain⟨⟨n,r1⟩,h1,h2⟩:=Option.bind_eq_some_iff.1 h
  obtain⟨r2,h3,h4⟩:=Option.map_eq_some_iff.1 h2
  cases h4
  have l1:=(name_lt h1).2.2.2
  have l2:=skip_le r1
  rw[after_some h3]at l2
  rw[after_some hu]
  simp only[List.length_cons]at l2 ⊢
  omega
 ·obtain⟨⟨n,r1⟩,h1,h2⟩:=Option.bind_eq_some_iff.1 h
  have l1:=(name_lt h1).2.2.2
  have l2:=tagL_lt _ n [] r1 r t (Nat.le_refl _) h2
  omega
theorem one_lt {s r:List UInt8}{t:Tk}(hne:s≠[])(h:oneO s=some (t,r)):r.length<s.length:=by
 unfold oneO at h
 split at h
 ·rename_i u hu
  have:=tag_lt h
  rw[after_some hu];simp;omega
 ·rename_i hu
  obtain⟨x,_,h2⟩:=Option.map_eq_some_iff.1 h
  cases h2
  cases s with
  | nil=>exact absurd rfl hne
  | cons c s =>
   have hc:textB c=true:=by
    rw[after_cons]at hu
    split at hu
    ·cases hu
    ·rename_i e;simp[textB,e]
   unfold textR
   rw[List.dropWhile_cons,if_pos hc]
   have:=dropWhile_le (p:=textB) s
   simp;omega
def lexG (n:Nat)(l:List Tk)(s:List UInt8):List Tk×Nat×Int :=
 if hn:s=[] then (l,0,0) else if 512≤l.length then ([],n-s.length,4) else match h:oneO s with
  | none=>([],n-s.length,80)
  | some (t,r)=>if 16<t.attrs.length then ([],n-s.length,4) else lexG n (l++[t]) r
termination_by s.length
decreasing_by exact one_lt hn h
theorem lexG_nil (n:Nat)(l:List Tk):lexG n l []=(l,0,0):=by rw[lexG,dif_pos rfl]
theorem lexG_many {n:Nat}{l:List Tk}{s:List UInt8}(h:s≠[])(h2:512≤l.length):lexG n l s=([],n-s.length,4):=by rw[lexG,dif_neg h,if_pos h2]
theorem lexG_bad {n:Nat}{l:List Tk}{s:List UInt8}(h:s≠[])(h2:l.length<512)(h3:oneO s=none):lexG n l s=([],n-s.length,80):=by
 rw[lexG,dif_neg h,if_neg (by omega)]
 split
 ·rfl
 ·rename_i e;rw[h3]at e;cases e
theorem lexG_great {n:Nat}{l:List Tk}{s r:List UInt8}{t:Tk}(h:s≠[])(h2:l.length<512)(h3:oneO s=some (t,r))(h4:16<t.attrs.length):lexG n l s=([],n-s.length,4):=by
 rw[lexG,dif_neg h,if_neg (by omega)]
 split
 ·rename_i e;rw[h3]at e;cases e
 ·rename_i e;rw[h3]at e;cases e;rw[if_pos h4]
theorem lexG_go {n:Nat}{l:List Tk}{s r:List UInt8}{t:Tk}(h:s≠[])(h2:l.length<512)(h3:oneO s=some (t,r))(h4:t.attrs.length≤16):lexG n l s=lexG n (l++[t]) r:=by
 rw[lexG,dif_neg h,if_neg (by omega)]
 split
 ·rename_i e;rw[h3]at e;cases e
 ·rename_i e;rw[h3]at e;cases e;rw[if_neg (by omega)]
def lexA (s:List UInt8):List Tk×Nat×Int:=if ptsErr s≠0 then ([],0,ptsErr s) else lexG s.length [] s
end Go.Proofs.Ytfcfldmioonipaa
namespace Go.Proofs.Ytfcfldmioonipaa
set_option maxRecDepth 100000
set_option maxHeartbeats 32000000
set_option linter.unusedSimpArgs false
set_option linter.unusedVariables false
open Go Go.RowKit Vm Go.Lib Try
open Vm renaming cond_bool→Ca,cond_bit→Cb
open And renaming intro→Ai
open List renaming length_map→Lm,not_mem_nil→Ln,map_nil→Lo,map_cons→Lc,mem_cons→Lk
open Bool renaming not_false→Bf,not_true→Bt
theorem low_enc {z:Int}(h0:0≤z)(h:z<128):encodeRune z=[z.toNat.toUInt8]:=by
 have key:∀ n:Fin 128,encodeRune (n.val:Int)=[(n.val:Int).toNat.toUInt8]:=by decide +kernel
 have:=key ⟨z.toNat,by omega⟩
 have e:((z.toNat:Nat):Int)=z:=by omega
 simpa only[e] using this
end Go.Proofs.Ytfcfldmioonipaa
