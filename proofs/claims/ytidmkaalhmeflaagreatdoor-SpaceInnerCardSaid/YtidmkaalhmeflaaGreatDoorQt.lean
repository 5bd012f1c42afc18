/-
 Texts joined: XSi,XSj,XSk.
-/
import Derived.Test.YtidmkaalhmeflaaGreatDoorQs
import Derived.Test.YtidmkaalhmeflaaGreatDoorQh
namespace Go.Proofs.YtidmkaalhmeflaaGreatDoor
set_option maxRecDepth 100000
set_option maxHeartbeats 32000000
set_option linter.unusedSimpArgs false
set_option linter.unusedVariables false
open Go Go.RowKit Vm Go.Lib Tryz
open Vm renaming aZ→Ca,bj→Cb
open And renaming intro→Ai
open List renaming length_map→Lm,not_mem_nil→Ln,map_nil→Lo,map_cons→Lc,mem_cons→Lk
open Bool renaming not_false→Bf,not_true→Bt
def fA (v:List Nd):Int:=if (cX v).isNone=true then 8 else 0
theorem Kw {v:List Nd}{en:List Nat}(h:cX v=some en):en.length=v.length∧0<v.length∧v.length≤512 ∧ ∀ i e,en[i]? = some e→i<e∧e≤v.length:=by
 obtain⟨n,k,h1,h2,h3,h4,h5⟩:=np.1 h
 have hl:v.length=k.size+1:=by rw[h2];simp[Fo.flat_length]
 have he:en=(Fo.cons n k .nil).ends 0:=by rw[h5];simp[Fo.ends]
 refine⟨by rw[h5];simp[Fo.ends_length,hl],by omega,h4,fun i e hi=>?_⟩
 rw[he]at hi
 have:=wS _ _ _ _ hi
 simp only[Fo.size]at this
 omega
theorem pu (v:List Nd)(hv:v.length≤bh)(hok:∀ n∈v,n.okTo bh∧n.i64)(nm:Nat):Ev cx 43 nm [.sl false 6 (v.map ba)] aq.nil (.int .i64 (fA v)) []:=by
 unfold fA
 cases h:cX v with
 | none =>
  have hb:=tG v hv hok h
  refine ay rfl (fun cargs w=>call43 cargs w) func43 rfl mixed (by kernel_rfl) rfl ?_;intro b0 hb0
  (repeat' first|simp only[al,aj,results43,ntmps43,am,Option.isNone_none,if_true,ad,ai,seval,ah]|exact rfl|refine aa (v:=.any) ?_|(first|(refine ac ?_ (hb _) ?_)|(refine ab ?_ (fun _=>hb _) ?_))|((first|apply Ca|apply Cb)<;>intro hb)|refine Ai (by omega) ?_|(apply Ai<;>intro hb)|refine Fin.pure ?_ ?_ ?_|simp only[au])
 | some en =>
  have hb:=tC v hv hok h
  have h0:decide (v.length=0)=false:=decide_eq_false (by have:=(Kw h).2.1;omega)
  refine ay rfl (fun cargs w=>call43 cargs w) func43 rfl mixed (by kernel_rfl) rfl ?_;intro b0 hb0
  repeat' first|simp only[al,aj,results43,ntmps43,am,Option.isNone_some,Bool.false_eq_true,if_false,ad,bc,h0,ai,seval,ah]|exact rfl|refine aa (v:=.any) ?_|(refine jv ?_ (hb _) ?_ ?_)|omega|((first|apply Ca|apply Cb)<;>intro hb)|refine Ai (by omega) ?_|(apply Ai<;>intro hb)
  all_goals (first|(cases hb;done)|((refine Fin.pure ?_ ?_ ?_<;>simp only[Option.isNone_some,Bool.false_eq_true,if_false,ad,results43,ntmps43,ai,seval,ah])))
theorem rB (l:List At):((l.map bG).all fun r=>r.all V.one)=true:=by
 rw[List.all_map,List.all_eq_true];intro a _;rfl
theorem nS {n:Nd}(h:iI n=true):n.attrs.length≤16∧n.text.length≤16384:=by
 rcases jY h with hk|hk
 ·obtain⟨h1,_,_,h4⟩:=ml h hk
  exact⟨(rn.1 h4).1,by rw[h1];simp⟩
 ·obtain⟨_,_,h3,_,_,h6⟩:=iN h hk
  exact⟨by rw[h3];simp,ss h6⟩
end Go.Proofs.YtidmkaalhmeflaaGreatDoor
