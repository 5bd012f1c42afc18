/-
 Texts joined: XSi,XSj,XSk.
-/
import Derived.Test.YtlnlopnpcmahgaaGreatDoorQs
import Derived.Test.YtlnlopnpcmahgaaGreatDoorQh
set_option linter.all false
namespace Go.Proofs.YtlnlopnpcmahgaaGreatDoor
set_option maxRecDepth 100000
set_option maxHeartbeats 32000000
open Go Go.RowKit Vm Go.Lib Tryz
open Vm renaming aH->Ca,aL->Cb
open And renaming intro->Ai
open List renaming length_map->Lm,not_mem_nil->Ln,map_nil->Lo,map_cons->Lc,mem_cons->Lk
open Bool renaming not_false->Bf,not_true->Bt
def ez (v:List Nd):Int:=if (bJ v).isNone=true then 8 else 0
def F8 {v:List Nd}{en:List Nat}(h:bJ v=some en):en.length=v.length/\0<v.length/\v.length<=512 /\ ∀ i e,en[i]? = some e->i<e/\e<=v.length:=by
 obtain⟨n,k,h1,h2,h3,h4,h5⟩:=iJ.1 h
 have hl:v.length=k.size+1:=by rw[h2];simp[Fo.flat_length]
 have he:en=(Fo.cons n k .nil).ends 0:=by rw[h5];simp[Fo.ends]
 refine⟨by rw[h5];simp[Fo.ends_length,hl],by omega,h4,fun i e hi=>?_⟩
 rw[he]at hi
 have:=tF _ _ _ _ hi
 simp only[Fo.size]at this
 omega
def zW (v:List Nd)(hv:v.length<=aS)(hok:∀ n∈v,n.okTo aS/\n.i64)(nm:Nat):Ev cx 104 nm [.sl false 6 (v.map aG)] am.nil (.int .i64 (ez v)) []:=by
 unfold ez
 cases h:bJ v with
 | none =>
  have hb:=jD v hv hok h
  refine aV call104 func104 rfl (by kernel_rfl) rfl ?_;intro b0 hb0
  (repeat' first|simp only[aj,ag,results104,ntmps104,ap,Option.isNone_none,if_true,ad,ai,seval,ah]|exact rfl|refine aa (v:=.any) ?_|(first|(refine ac ?_ (hb _) ?_)|(refine ab ?_ (fun _=>hb _) ?_))|((first|apply Ca|apply Cb)<;>intro hb)|refine Ai (by omega) ?_|(apply Ai<;>intro hb)|refine Fin.pure ?_ ?_ ?_|simp only[al])
 | some en =>
  have hb:=jE v hv hok h
  have h0:decide (v.length=0)=false:=decide_eq_false (by have:=(F8 h).2.1;omega)
  refine aV call104 func104 rfl (by kernel_rfl) rfl ?_;intro b0 hb0
  repeat' first|simp only[aj,ag,results104,ntmps104,ap,Option.isNone_some,Bool.false_eq_true,if_false,ad,aC,h0,ai,seval,ah]|exact rfl|refine aa (v:=.any) ?_|(refine jG ?_ (hb _) ?_ ?_)|omega|((first|apply Ca|apply Cb)<;>intro hb)|refine Ai (by omega) ?_|(apply Ai<;>intro hb)
  all_goals (first|(cases hb;done)|((refine Fin.pure ?_ ?_ ?_<;>simp only[Option.isNone_some,Bool.false_eq_true,if_false,ad,results104,ntmps104,ai,seval,ah])))
def mJ (l:List At):((l.map bh).all fun r=>r.all V.one)=true:=by
 rw[List.all_map,List.all_eq_true];intro a _;rfl
def GS (l:List Nd):((l.map aG).all fun r=>r.all V.one)=true:=by
 rw[List.all_map,List.all_eq_true];intro a _;rfl
def gD {n:Nd}(h:gC n=true):n.attrs.length<=16/\n.text.length<=16384:=by
 rcases fp h with hk|hk
 ·obtain⟨h1,_,_,h4⟩:=AU h hk
  exact⟨(o7.1 h4).1,by rw[h1];simp⟩
 ·obtain⟨_,_,h3,_,_,h6⟩:=fq h hk
  exact⟨by rw[h3];simp,qD h6⟩
end Go.Proofs.YtlnlopnpcmahgaaGreatDoor
