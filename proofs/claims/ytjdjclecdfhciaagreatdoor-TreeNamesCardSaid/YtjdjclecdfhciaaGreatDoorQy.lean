/-
 Texts joined: XSv.
-/
import Derived.Test.YtjdjclecdfhciaaGreatDoorQw
import Derived.Test.YtjdjclecdfhciaaGreatDoorQu
namespace Go.Proofs.YtjdjclecdfhciaaGreatDoor
set_option maxRecDepth 100000
set_option maxHeartbeats 32000000
set_option linter.unusedSimpArgs false
set_option linter.unusedVariables false
open Go Go.RowKit Vm Go.Lib Go.Proofs.Tryz
open Vm renaming cond_bool→Ca,cond_bit→Cb
open And renaming intro→Ai
open List renaming length_map→Lm,not_mem_nil→Ln,map_nil→Lo,map_cons→Lc,mem_cons→Lk
open Bool renaming not_false→Bf,not_true→Bt
theorem Fo.ends_app:∀(F G:Fo) (b:Nat),(F.app G).ends b=F.ends b++G.ends (b+F.size)
 | .nil,_,_=>rfl
 | .cons n k r,g,b=>by simp only[Fo.app,Fo.ends,Fo.size,r.ends_app,List.cons_append,List.append_assoc];rw[show b+1+k.size+r.size=b+(k.size+r.size+1) by omega]
theorem Fo.app_assoc:∀(F G H:Fo),(F.app G).app H=F.app (G.app H)
 | .nil,_,_=>rfl
 | .cons n k r,g,h=>by simp[Fo.app,r.app_assoc]
theorem at_app {α:Type}{a b:List α}{x:α}{i:Nat}(h:i=a.length):(a++x::b)[i]? = some x:=by subst h;simp
theorem take_app {α:Type}(a b:List α){i:Nat}(h:i=a.length):(a++b).take i=a:=by subst h;simp
structure Wh where
 D:Fo
 R:Fo
 q:Nat
 i:Nat
def Wh.inv (k:Fo)(x:Wh):Prop:=x.D.app x.R=k∧x.q=1+x.D.size∧x.i=x.D.count
theorem noC_at {l:List Nat}{i q:Nat}(h:l[i]? = some q):(l.map noC)[i]? = some (noC q)∧i<l.length:=by
 refine⟨by rw[List.getElem?_map,h];rfl,(List.getElem?_eq_some_iff.1 h).1⟩
theorem kids_fz (v:List Nd)(hv:v.length≤lim)(hok:∀ n∈v,n.okTo lim∧n.i64){en:List Nat}(hbo:behindO v=some en)(p e:Nat)(hp:p<v.length)(hep:en[p]? = some e)(nm:Nat):Ev cx 29 nm [.sl false 6 (v.map ndC),.int .i64 p] Mem.nil (.tup [.sl false 1 ((hopL en e (p+1)).map noC),.int .i64 0]) []:=by
 have h3:=kids_yes v hv hok hbo p e hp hep nm
 have hll:(hopL en e (p+1)).length≤512:=by
  have h1:=hops_len (en:=en) (stop:=e) (e-(p+1)) (p+1)
  obtain⟨_,_,h512,hup⟩:=ends_ok hbo
  have:=hup p e hep
  unfold hopL;omega
 generalize hopL en e (p+1)=T at h3 hll ⊢
 have hpl:=plain_no T
 have htk:(T.map noC).take T.length=T.map noC:=take_map_len _ _
 refine Ev.freeze h3 ?_ ?_
 ·simp only[fins,mems,wks,hpl,htk,Lm,vcs,seval,tys]<;>omega
 ·simp only[fins,mems,wks,hpl,htk,Lm,vcs,seval,tys]
theorem sub_fz (v:List Nd)(hv:v.length≤lim)(hok:∀ n∈v,n.okTo lim∧n.i64){en:List Nat}(hbo:behindO v=some en)(p e:Nat){x:Nd}(hx:v[p]? = some x)(hk:x.kind≠2)(hep:en[p]? = some e){X:List Nd}(hX:(v.drop p).take (e-p)=X)(nm:Nat):Ev cx 31 nm [.sl false 6 (v.map ndC),.int .i64 p] Mem.nil (.tup [.sl false 6 (X.map ndC),.int .i64 0]) []:=by
 have h3:=sub_yes v hv hok hbo p e hx hk hep nm
 rw[hX]at h3
 have hll:X.length≤512:=by
  obtain⟨_,_,h512,hup⟩:=ends_ok hbo
  have h1:X.length≤v.length:=by rw[← hX,List.length_take,List.length_drop];omega
  omega
 have hpl:=plain_nd X
 have htk:(X.map ndC).take X.length=X.map ndC:=take_map_len _ _
 refine Ev.freeze h3 ?_ ?_
 ·simp only[fins,mems,wks,hpl,htk,Lm,vcs,seval,tys]<;>omega
 ·simp only[fins,mems,wks,hpl,htk,Lm,vcs,seval,tys]
theorem putr_fz (n:Nd)(l:List (List Nd))(hn:n.okTo lim)(hl:l.length≤lim)(hok:∀ v∈l,v.length≤lim ∧ ∀ x∈v,x.okTo lim∧x.i64){T:List Nd}(hE:putEr n l=0)(hT:putTr n l=T)(hT5:T.length≤512)(nm:Nat):Ev cx 33 nm [.agg (ndC n),.sl false 1 (l.map partC)] Mem.nil (.tup [.sl false 6 (T.map ndC),.int .i64 0]) []:=by
 have h3:=putr_all n l hn hl hok _ _ nm (.inr ⟨hE,rfl,rfl⟩)
 rw[hT]at h3
 have hpl:=plain_nd T
 have htk:(T.map ndC).take T.length=T.map ndC:=take_map_len _ _
 refine Ev.freeze h3 ?_ ?_
 ·simp only[fins,mems,wks,hpl,htk,Lm,vcs,seval,tys]<;>omega
 ·simp only[fins,mems,wks,hpl,htk,Lm,vcs,seval,tys]
theorem Fo.parts_mem:∀ {F:Fo} {v:List Nd},v∈F.parts → ∀ x∈v,x∈F.flat
 | .nil,_,h=>by simp[Fo.parts]at h
 | .cons n k r,v,h=>fun x hx=>by
  simp only[Fo.parts,Lk]at h
  rcases h with rfl|h
  ·simp only[Fo.flat,Lk,List.mem_append]at hx ⊢
   rcases hx with h|h
   ·exact .inl h
   ·exact .inr (.inl h)
  ·have:=Fo.parts_mem h x hx
   simp[Fo.flat,this]
theorem Fo.parts_small:∀ {F:Fo} {v:List Nd},v∈F.parts→v.length≤F.size
 | .nil,_,h=>by simp[Fo.parts]at h
 | .cons n k r,v,h=>by
  simp only[Fo.parts,Lk]at h
  rcases h with rfl|h
  ·simp[Fo.size,Fo.flat_length]
  ·have:=Fo.parts_small h
   simp only[Fo.size];omega
theorem Fo.count_size:∀(F:Fo),F.count≤F.size
 | .nil=>Nat.le_refl _
 | .cons n k r=>by have:=r.count_size;simp only[Fo.count,Fo.size];omega
end Go.Proofs.YtjdjclecdfhciaaGreatDoor
