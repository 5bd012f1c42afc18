/-
 Texts joined: XSi,XSj,XSk.
-/
import Derived.Test.YtcllbjanalhjgaaGreatDoorQs
import Derived.Test.YtcllbjanalhjgaaGreatDoorQh
namespace Go.Proofs.YtcllbjanalhjgaaGreatDoor
set_option maxRecDepth 100000
set_option maxHeartbeats 32000000
set_option linter.unusedSimpArgs false
set_option linter.unusedVariables false
open Go Go.RowKit Vm Go.Lib Tryz
open Vm renaming be→Ca,bo→Cb
open And renaming intro→Ai
open List renaming length_map→Lm,not_mem_nil→Ln,map_nil→Lo,map_cons→Lc,mem_cons→Lk
open Bool renaming not_false→Bf,not_true→Bt
def eG (v:List Nd):Int:=if (cN v).isNone=true then 8 else 0
theorem Ij {v:List Nd}{en:List Nat}(h:cN v=some en):en.length=v.length∧0<v.length∧v.length≤512 ∧ ∀ i e,en[i]? = some e→i<e∧e≤v.length:=by
 obtain⟨n,k,h1,h2,h3,h4,h5⟩:=mI.1 h
 have hl:v.length=k.size+1:=by rw[h2];simp[Fo.flat_length]
 have he:en=(Fo.cons n k .nil).ends 0:=by rw[h5];simp[Fo.ends]
 refine⟨by rw[h5];simp[Fo.ends_length,hl],by omega,h4,fun i e hi=>?_⟩
 rw[he]at hi
 have:=vr _ _ _ _ hi
 simp only[Fo.size]at this
 omega
theorem oD (v:List Nd)(hv:v.length≤bk)(hok:∀ n∈v,n.okTo bk∧n.i64)(nm:Nat):Ev cx 19 nm [.sl false 6 (v.map bc)] ao.nil (.int .i64 (eG v)) []:=by
 unfold eG
 cases h:cN v with
 | none =>
  have hb:=ra v hv hok h
  refine ay rfl (fun cargs w=>call19 cargs w) func19 rfl mixed (by kernel_rfl) rfl ?_;intro b0 hb0
  (repeat' first|simp only[am,ah,results19,ntmps19,ap,Option.isNone_none,if_true,ai,ag,seval,ae]|exact rfl|refine aa (v:=.any) ?_|(first|(refine ac ?_ (hb _) ?_)|(refine ab ?_ (fun _=>hb _) ?_))|((first|apply Ca|apply Cb)<;>intro hb)|refine Ai (by omega) ?_|(apply Ai<;>intro hb)|refine Fin.pure ?_ ?_ ?_|simp only[au])
 | some en =>
  have hb:=rc v hv hok h
  have h0:decide (v.length=0)=false:=decide_eq_false (by have:=(Ij h).2.1;omega)
  refine ay rfl (fun cargs w=>call19 cargs w) func19 rfl mixed (by kernel_rfl) rfl ?_;intro b0 hb0
  repeat' first|simp only[am,ah,results19,ntmps19,ap,Option.isNone_some,Bool.false_eq_true,if_false,ai,aY,h0,ag,seval,ae]|exact rfl|refine aa (v:=.any) ?_|(refine jb ?_ (hb _) ?_ ?_)|omega|((first|apply Ca|apply Cb)<;>intro hb)|refine Ai (by omega) ?_|(apply Ai<;>intro hb)
  all_goals (first|(cases hb;done)|((refine Fin.pure ?_ ?_ ?_<;>simp only[Option.isNone_some,Bool.false_eq_true,if_false,ai,results19,ntmps19,ag,seval,ae])))
theorem qE (l:List At):((l.map bG).all fun r=>r.all V.one)=true:=by
 rw[List.all_map,List.all_eq_true];intro a _;rfl
theorem sf {n:Nd}(h:iY n=true):n.attrs.length≤16∧n.text.length≤16384:=by
 rcases pg h with hk|hk
 ·obtain⟨h1,_,_,h4⟩:=uD h hk
  exact⟨(qn.1 h4).1,by rw[h1];simp⟩
 ·obtain⟨_,_,h3,_,_,h6⟩:=ma h hk
  exact⟨by rw[h3];simp,sr h6⟩
end Go.Proofs.YtcllbjanalhjgaaGreatDoor
