/-
 Texts joined: XTc,XCe,XOa,XSj,XSk,XOb,XJb,XSl,XSm.
-/
import Derived.Test.YtfcfldmioonipaaQl
import Derived.Test.YtfcfldmioonipaaQf
import Derived.Test.YtfcfldmioonipaaQe
import Derived.Test.YtfcfldmioonipaaQj
import Derived.Test.YtfcfldmioonipaaQh
namespace Go.Proofs.Ytfcfldmioonipaa
set_option maxRecDepth 100000
set_option maxHeartbeats 32000000
set_option linter.unusedSimpArgs false
set_option linter.unusedVariables false
open Go Go.RowKit Vm Go.Lib Try
open Vm renaming cond_bool→Ca,cond_bit→Cb
open And renaming intro→Ai
open List renaming length_map→Lm,not_mem_nil→Ln,map_nil→Lo,map_cons→Lc,mem_cons→Lk
open Bool renaming not_false→Bf,not_true→Bt
def itoaU (n:Nat):List UInt8:=if n<10 then [(48+n).toUInt8] else [(48+n / 10).toUInt8,(48+n % 10).toUInt8]
def seenF (S:List (List UInt8))(a:At):List (List UInt8):=if (a.space==[])=true then S else if (a.space==xmlU)=true then S else if S.contains a.space=true then S else S++[a.space]
def seenL (l:List At):List (List UInt8):=l.foldl seenF []
def ixU (S:List (List UInt8))(s:List UInt8):Nat:=(S.findIdx? (· == s)).getD S.length
def preU (S:List (List UInt8))(s:List UInt8):List UInt8:=if (s==xmlU)=true then [120,109,108] else 110::itoaU (ixU S s+1)
def relU (S:List (List UInt8))(a:At):At:=⟨[],if (a.space==[])=true then a.name else preU S a.space++58::a.name,a.value⟩
def decU (k:Nat)(s:List UInt8):At:=⟨[],[120,109,108,110,115,58,110]++itoaU (k+1),s⟩
def decsU (S:List (List UInt8)):List At:=S.mapIdx decU
def hdU (n:Nd)(sp:List UInt8):List At:=if (n.space==sp)=true then [] else [⟨[],[120,109,108,110,115],n.space⟩]
def toldU (n:Nd)(sp:List UInt8):Nd:=⟨n.kind,[],n.name,hdU n sp++decsU (seenL n.attrs)++n.attrs.map (relU (seenL n.attrs)),[],n.many⟩
def Fo.bare:Fo→List UInt8→List Nd
 | .nil,_=>[]
 | .cons n k r,sp=>(if n.kind=2 then [n] else toldU n sp::k.bare n.space)++r.bare sp
theorem one_atL (l:List At):((l.map atC).all fun r=>r.all V.one)=true:=by
 rw[List.all_map,List.all_eq_true];intro a _;rfl
theorem one_ndL (l:List Nd):((l.map ndC).all fun r=>r.all V.one)=true:=by
 rw[List.all_map,List.all_eq_true];intro a _;rfl
theorem cloneAt_ev (l:List At)(hl:l.length≤1000000)(nm:Nat):Ev cx 46 nm [.sl false 3 (l.map atC)] Mem.nil (.own nm 0 l.length) [(nm,some ⟨3,l.map atC⟩)]:=by
 refine ev_go rfl (fun cargs w=>call46 cargs w) func46 rfl mixed (by kernel_rfl) rfl ?_;intro b0 hb0
 repeat' first|simp only[fins,mems,results46,ntmps46,wks,plain_at,one_atL,Lm,vcs,seval,tys]|exact rfl|refine call_off (v:=.any) ?_|((first|apply Ca|apply Cb)<;>intro hb)|refine Ai (by omega) ?_|(apply Ai<;>intro hb)
 ·have h0:l=[]:=by cases l with
   | nil=>rfl
   | cons a r=>cases hb
  subst h0
  ((refine Fin.zero [3] ?_ ?_ ?_ ?_ ?_<;>simp only[results46,ntmps46,ownx,vcs,seval,tys]))
 ·all_goals ((refine Fin.give [(b0+80,some 0)] [] ?_ ?_ ?_ ?_ ?_ (fun q hq=>by have hqq:=nil_mem q hq;first|(simp only[gives,tgt,Lc,Lo,Lk,Ln,or_false]at hqq ⊢;omega)|(simp only[gives,tgt,Lc,Lo,Lk,Ln,or_false]at hqq))<;>(try simp only[results46,ntmps46,wks,plain_at,Lm,giv,vcs,seval,tys])<;>(try simp only[injs])<;>(try omega)))
theorem cloneNd_ev (l:List Nd)(hl:l.length≤1000000)(nm:Nat):Ev cx 45 nm [.sl false 6 (l.map ndC)] Mem.nil (.own nm 0 l.length) [(nm,some ⟨6,l.map ndC⟩)]:=by
 refine ev_go rfl (fun cargs w=>call45 cargs w) func45 rfl mixed (by kernel_rfl) rfl ?_;intro b0 hb0
 repeat' first|simp only[fins,mems,results45,ntmps45,wks,plain_nd,one_ndL,Lm,vcs,seval,tys]|exact rfl|refine call_off (v:=.any) ?_|((first|apply Ca|apply Cb)<;>intro hb)|refine Ai (by omega) ?_|(apply Ai<;>intro hb)
 ·have h0:l=[]:=by cases l with
   | nil=>rfl
   | cons a r=>cases hb
  subst h0
  ((refine Fin.zero [6] ?_ ?_ ?_ ?_ ?_<;>simp only[results45,ntmps45,ownx,vcs,seval,tys]))
 ·all_goals ((refine Fin.give [(b0+80,some 0)] [] ?_ ?_ ?_ ?_ ?_ (fun q hq=>by have hqq:=nil_mem q hq;first|(simp only[gives,tgt,Lc,Lo,Lk,Ln,or_false]at hqq ⊢;omega)|(simp only[gives,tgt,Lc,Lo,Lk,Ln,or_false]at hqq))<;>(try simp only[results45,ntmps45,wks,plain_nd,Lm,giv,vcs,seval,tys])<;>(try simp only[injs])<;>(try omega)))
theorem mayN_attrs {n:Nd}(h:mayN n=true):n.attrs.length≤16∧n.text.length≤16384:=by
 rcases mayN_kind h with hk|hk
 ·obtain⟨h1,_,_,h4⟩:=mayN_elem h hk
  exact⟨(ats_iff.1 h4).1,by rw[h1];simp⟩
 ·obtain⟨_,_,h3,_,_,h6⟩:=mayN_text h hk
  exact⟨by rw[h3];simp,ptsErr_len h6⟩
theorem ends_may {v:List Nd}{en:List Nat}(h:behindO v=some en):∀ n∈v,mayN n=true:=by
 obtain⟨n,k,h1,h2,h3,h4,h5⟩:=behind_iff.1 h
 intro x hx
 have:v=(Fo.cons n k .nil).flat:=by rw[h2];simp[Fo.flat]
 rw[this]at hx
 exact(Fo.good_all h3 x hx).1
theorem tree_ofB {v:List Nd}(h:checkB v=0):∃ n k,n.kind=1∧v=n::k.flat∧(Fo.cons n k .nil).good 12 0=true∧k.size+1≤512:=by
 unfold checkB at h
 cases hb:behindO v with
 | none=>rw[hb]at h;cases h
 | some en =>
  obtain⟨n,k,h1,h2,h3,h4,_⟩:=behind_iff.1 hb
  exact⟨n,k,h1,h2,h3,by rw[h2]at h4;simpa [Fo.flat_length] using h4⟩
theorem checkB_of {n:Nd}{k:Fo}(hk:n.kind=1)(h:(Fo.cons n k .nil).good 12 0=true)(hl:k.size+1≤512):checkB (n::k.flat)=0:=by
 unfold checkB;rw[behind_of (Nat.le_refl _) hk h hl];rfl
def loopB (rec:Nat→Option Nat)(v:List Nd):Nat→Nat→Bool→Option Nat
 | 0,next,_=>some next
 | c+1,next,text=>match rec next with
  | none=>none
  | some e=>match v[next]? with
   | none=>none
   | some y=>if (text&&y.kind==2)=true then none else loopB rec v c e (y.kind==2)
def okB (v:List Nd)(dz:Bool)(x:Nd):Bool:=mayN x&&decide (0≤x.many)&&decide (x.many≤(v.length:Int)) && !(x.kind==1&&dz)
def nodeB (rec:Nat→Option Nat)(v:List Nd)(dz:Bool)(p:Nat):Option Nat:=match v[p]? with
 | none=>none
 | some x=>if okB v dz x=true then loopB rec v x.many.toNat (p+1) false else none
def behB (v:List Nd):Nat→Nat→Option Nat
 | 0=>nodeB (fun _=>none) v true
 | d+1=>nodeB (behB v d) v false
theorem at_drop {v:List Nd}{p:Nat}{n:Nd}{r:List Nd}(h:v.drop p=n::r):v[p]? = some n∧p<v.length∧v.drop (p+1)=r:=by
 have h1:v[p]? = some n:=by
  have:(v.drop p)[0]? = some n:=by rw[h];rfl
  rwa[List.getElem?_drop,Nat.add_zero]at this
 refine⟨h1,(List.getElem?_eq_some_iff.1 h1).1,?_⟩
 have:(v.drop p).drop 1=r:=by rw[h];rfl
 rwa[List.drop_drop]at this
theorem flat_len {v:List Nd}{p:Nat}{F:Fo}{r:List Nd}(h:v.drop p=F.flat++r):F.size≤v.length:=by
 have:=congrArg List.length h
 rw[List.length_drop,List.length_append,Fo.flat_length]at this
 omega
theorem count_le_size:∀(F:Fo),F.count≤F.size
 | .nil=>Nat.le_refl _
 | .cons n k r=>by have:=count_le_size r;simp only[Fo.count,Fo.size];omega
theorem loopB_good (v:List Nd):∀(F:Fo) (d last p:Nat) (rest:List Nd) (text:Bool),v.drop p=F.flat++rest→F.good d last=true→(text=true→last=2)→loopB (behB v d) v F.count p text=some (p+F.size)
 | .nil,d,last,p,rest,text,_,_,_=>rfl
 | .cons n k r,d,last,p,rest,text,hd,hg,ht=>by
  obtain⟨h1,h2,h3,h4,h5,h6⟩:=Fo.good_cons.1 hg
  have hd':v.drop p=n::(k.flat++(r.flat++rest)):=by rw[hd];simp[Fo.flat]
  obtain⟨a1,a2,a3⟩:=at_drop hd'
  have hkl:=flat_len a3
  have hkc:=count_le_size k
  have hm:n.many.toNat=k.count:=by omega
  have hok:okB v (d==0) n=true:=by
   unfold okB
   rw[h1,decide_eq_true (by omega),decide_eq_true (by omega)]
   simp only[Bool.and_self,Bool.true_and,Bool.not_eq_true',Bool.and_eq_false_iff,beq_eq_false_iff_ne,ne_eq]
   by_cases hd0:d=0
   ·left;exact fun h=>h4 ⟨h,hd0⟩
   ·right;exact hd0
  have hrec:behB v d p=some (p+1+k.size):=by
   cases d with
   | zero =>
    have hk2:n.kind=2:=by
     rcases mayN_kind h1 with e|e
     ·exact absurd ⟨e,rfl⟩ h4
     ·exact e
    have:=Fo.text_leaf hg hk2
    subst this
    unfold behB nodeB
    rw[a1]
    simp only[beq_self_eq_true]at hok
    simp only[hok,if_true,hm,Fo.count,loopB,Fo.size,Nat.add_zero]
   | succ d =>
    unfold behB nodeB
    rw[a1]
    have hok':okB v false n=true:=hok
    simp only[hok',if_true,hm]
    exact loopB_good v k d 1 (p+1) (r.flat++rest) false a3 h5 (fun h=>by cases h)
  have hdr:v.drop (p+1+k.size)=r.flat++rest:=by
   have:(v.drop (p+1)).drop k.size=r.flat++rest:=by rw[a3,← Fo.flat_length,List.drop_left]
   rwa[List.drop_drop]at this
  have htk:(text&&n.kind==2)=false:=by
   cases text with
   | false=>rfl
   | true =>
    rw[Bool.true_and,beq_eq_false_iff_ne]
    exact fun h=>h3 ⟨ht rfl,h⟩
  simp only[Fo.count,loopB,hrec,a1,htk,Bool.false_eq_true,if_false]
  rw[loopB_good v r d n.kind (p+1+k.size) rest (n.kind==2) hdr h6 (fun h=>by simpa using h)]
  simp only[Fo.size]
  congr 1;omega
theorem behB_good {v:List Nd}{n:Nd}{k:Fo}{d p:Nat}{rest:List Nd}(hd:v.drop p=n::(k.flat++rest))(hg:(Fo.cons n k .nil).good d 0=true):behB v d p=some (p+1+k.size):=by
 have h:=loopB_good v (.cons n k .nil) d 0 p rest false (by rw[hd];simp[Fo.flat]) hg (fun h=>by cases h)
 simp only[Fo.count,loopB,Fo.size,Nat.add_zero,Nat.zero_add]at h
 cases hb:behB v d p with
 | none=>rw[hb]at h;cases h
 | some e =>
  rw[hb,(at_drop hd).1]at h
  simp only[Bool.false_and,Bool.false_eq_true,if_false,Option.some.injEq]at h
  rw[h];congr 1;omega
theorem loopB_some {rec:Nat→Option Nat}{v:List Nd}{d:Nat}(hrec:∀ p e,rec p=some e → ∃ n k rest,v.drop p=n::(k.flat++rest)∧(Fo.cons n k .nil).good d 0=true∧e=p+1+k.size) :
  ∀(c p:Nat) (text:Bool) (e last:Nat),loopB rec v c p text=some e→(last=2→text=true)→p≤v.length → ∃(F:Fo) (rest:List Nd),v.drop p=F.flat++rest∧F.count=c∧F.good d last=true∧e=p+F.size
 | 0,p,text,e,last,h,_,_=>by
  simp only[loopB,Option.some.injEq]at h
  exact⟨.nil,v.drop p,rfl,rfl,rfl,by simp[Fo.size,h]⟩
 | c+1,p,text,e,last,h,hl,hp=>by
  simp only[loopB]at h
  cases hr:rec p with
  | none=>rw[hr]at h;cases h
  | some e1 =>
   rw[hr]at h
   obtain⟨n,k,rest,a1,a2,a3⟩:=hrec p e1 hr
   obtain⟨b1,b2,b3⟩:=at_drop a1
   rw[b1]at h
   simp only at h
   split at h
   ·cases h
   ·rename_i htx
    obtain⟨g1,g2,g3,g4,g5,g6⟩:=Fo.good_cons.1 a2
    have hdr:v.drop e1=rest:=by
     have:(v.drop (p+1)).drop k.size=rest:=by rw[b3,← Fo.flat_length,List.drop_left]
     rw[List.drop_drop]at this
     rw[a3];exact this
    have he1:e1≤v.length:=by
     have:=congrArg List.length b3
     rw[List.length_drop,List.length_append,Fo.flat_length]at this
     omega
    obtain⟨R,rest2,c1,c2,c3,c4⟩:=loopB_some hrec c e1 (n.kind==2) e n.kind h (fun h=>by simp[h]) he1
    rw[hdr]at c1
    refine⟨.cons n k R,rest2,?_,?_,Fo.good_cons.2 ⟨g1,g2,fun hx=>?_,g4,g5,c3⟩,?_⟩
    ·rw[a1,c1];simp[Fo.flat]
    ·simp only[Fo.count,c2]
    ·exact htx (by rw[hl hx.1,hx.2];rfl)
    ·simp only[Fo.size];omega
theorem behB_some {v:List Nd} : ∀ {d p e:Nat},behB v d p=some e → ∃ n k rest,v.drop p=n::(k.flat++rest)∧(Fo.cons n k .nil).good d 0=true∧e=p+1+k.size
 | 0,p,e,h=>by
  unfold behB nodeB at h
  cases hx:v[p]? with
  | none=>rw[hx]at h;cases h
  | some x =>
   rw[hx]at h
   simp only at h
   split at h
   ·rename_i hok
    unfold okB at hok
    simp only[Bool.and_true,Bool.and_eq_true,decide_eq_true_eq,Bool.not_eq_true',beq_eq_false_iff_ne]at hok
    obtain⟨⟨⟨h1,h2⟩,h3⟩,h4⟩:=hok
    have hk2:x.kind=2:=by
     rcases mayN_kind h1 with e|e
     ·exact absurd e h4
     ·exact e
    have hm:=(mayN_text h1 hk2).2.2.2.1
    rw[hm]at h
    simp only[Int.toNat_zero,loopB,Option.some.injEq]at h
    obtain⟨hp,hpe⟩:=List.getElem?_eq_some_iff.1 hx
    refine⟨x,.nil,v.drop (p+1),?_,Fo.good_cons.2 ⟨h1,by rw[hm];rfl,by omega,by omega,rfl,rfl⟩,by simp[Fo.size,h]⟩
    rw[List.drop_eq_getElem_cons hp,hpe];rfl
   ·cases h
 | d+1,p,e,h=>by
  unfold behB nodeB at h
  cases hx:v[p]? with
  | none=>rw[hx]at h;cases h
  | some x =>
   rw[hx]at h
   simp only at h
   split at h
   ·rename_i hok
    unfold okB at hok
    simp only[Bool.and_false,Bf,Bool.and_true,Bool.and_eq_true,decide_eq_true_eq]at hok
    obtain⟨⟨h1,h2⟩,h3⟩:=hok
    obtain⟨hp,hpe⟩:=List.getElem?_eq_some_iff.1 hx
    obtain⟨F,rest,c1,c2,c3,c4⟩:=loopB_some (d:=d) (fun p e he=>behB_some he) x.many.toNat (p+1) false e 1 h (fun h=>by cases h) hp
    refine⟨x,F,rest,?_,Fo.good_cons.2 ⟨h1,by omega,by omega,by omega,c3,rfl⟩,c4⟩
    rw[List.drop_eq_getElem_cons hp,hpe,c1]
   ·cases h
theorem behB_le {v:List Nd}{d p e:Nat}(h:behB v d p=some e):p<e∧e≤v.length:=by
 obtain⟨n,k,rest,h1,_,h3⟩:=behB_some h
 obtain⟨_,_,a3⟩:=at_drop h1
 obtain⟨_,hp,_⟩:=at_drop h1
 have:=congrArg List.length a3
 rw[List.length_drop,List.length_append,Fo.flat_length]at this
 omega
def mayT (v:List Nd):Bool:=decide (checkB v=0)
theorem mayT_eq (v:List Nd):mayT v=(((decide (0<v.length)&&decide (v.length≤512))&&((v[0]?).map Nd.kind==some 1))&&(behB v 12 0==some v.length)):=by
 rw[Bool.eq_iff_iff]
 unfold mayT
 simp only[decide_eq_true_eq,Bool.and_eq_true,beq_iff_eq]
 constructor
 ·intro h
  obtain⟨n,k,hk,hv,hg,hl⟩:=tree_ofB h
  have hlen:v.length=k.size+1:=by rw[hv];simp[Fo.flat_length]
  have hb:=behB_good (v:=v) (n:=n) (k:=k) (d:=12) (p:=0) (rest:=[]) (by rw[List.drop_zero,List.append_nil];exact hv) hg
  refine⟨⟨⟨by omega,by omega⟩,by rw[hv];simp[hk]⟩,?_⟩
  rw[hb];congr 1;omega
 ·rintro ⟨⟨⟨h1,h2⟩,h3⟩,h4⟩
  obtain⟨n,k,rest,a1,a2,a3⟩:=behB_some h4
  rw[List.drop_zero]at a1
  have hr:rest=[]:=by
   have:=congrArg List.length a1
   simp only[List.length_cons,List.length_append,Fo.flat_length]at this
   exact List.eq_nil_of_length_eq_zero (by omega)
  subst hr
  rw[List.append_nil]at a1
  have hk:n.kind=1:=by rw[a1]at h3;simpa using h3
  rw[a1]
  exact checkB_of hk a2 (by rw[a1]at h2;simpa [Fo.flat_length] using h2)
end Go.Proofs.Ytfcfldmioonipaa
