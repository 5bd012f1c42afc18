/-
 Texts joined: XSi,XSj,XSk.
-/
import Derived.Test.YtlnlopnpcmahgaaGreatDoorQs
import Derived.Test.YtlnlopnpcmahgaaGreatDoorQh
set_option linter.all false
namespace Go.Proofs.YtlnlopnpcmahgaaGreatDoor
set_option maxRecDepth 100000
set_option maxHeartbeats 32000000
open Go Go.RowKit Vm Go.Lib Tryz
open Vm renaming ba->Ca,bh->Cb
open And renaming intro->Ai
open List renaming length_map->Lm,not_mem_nil->Ln,map_nil->Lo,map_cons->Lc,mem_cons->Lk
open Bool renaming not_false->Bf,not_true->Bt
def eG (v:List Nd):Int:=if (cL v).isNone=true then 8 else 0
def Nm {v:List Nd}{en:List Nat}(h:cL v=some en):en.length=v.length/\0<v.length/\v.length<=512 /\ ∀ i e,en[i]? = some e->i<e/\e<=v.length:=by
 obtain⟨n,k,h1,h2,h3,h4,h5⟩:=lr.1 h
 have hl:v.length=k.size+1:=by rw[h2];simp[Fo.flat_length]
 have he:en=(Fo.cons n k .nil).ends 0:=by rw[h5];simp[Fo.ends]
 refine⟨by rw[h5];simp[Fo.ends_length,hl],by omega,h4,fun i e hi=>?_⟩
 rw[he]at hi
 have:=xR _ _ _ _ hi
 simp only[Fo.size]at this
 omega
def qB (v:List Nd)(hv:v.length<=be)(hok:∀ n∈v,n.okTo be/\n.i64)(nm:Nat):Ev cx 104 nm [.sl false 6 (v.map aZ)] ap.nil (.int .i64 (eG v)) []:=by
 unfold eG
 cases h:cL v with
 | none =>
  have hb:=mn v hv hok h
  refine bi call104 func104 rfl (by kernel_rfl) rfl ?_;intro b0 hb0
  (repeat' first|simp only[ak,aj,results104,ntmps104,al,Option.isNone_none,if_true,ae,ai,seval,ah]|exact rfl|refine aa (v:=.any) ?_|(first|(refine ad ?_ (hb _) ?_)|(refine ab ?_ (fun _=>hb _) ?_))|((first|apply Ca|apply Cb)<;>intro hb)|refine Ai (by omega) ?_|(apply Ai<;>intro hb)|refine Fin.pure ?_ ?_ ?_|simp only[ao])
 | some en =>
  have hb:=mo v hv hok h
  have h0:decide (v.length=0)=false:=decide_eq_false (by have:=(Nm h).2.1;omega)
  refine bi call104 func104 rfl (by kernel_rfl) rfl ?_;intro b0 hb0
  repeat' first|simp only[ak,aj,results104,ntmps104,al,Option.isNone_some,Bool.false_eq_true,if_false,ae,aQ,h0,ai,seval,ah]|exact rfl|refine aa (v:=.any) ?_|(refine gA ?_ (hb _) ?_ ?_)|omega|((first|apply Ca|apply Cb)<;>intro hb)|refine Ai (by omega) ?_|(apply Ai<;>intro hb)
  all_goals (first|(cases hb;done)|((refine Fin.pure ?_ ?_ ?_<;>simp only[Option.isNone_some,Bool.false_eq_true,if_false,ae,results104,ntmps104,ai,seval,ah])))
def sN (l:List At):((l.map bN).all fun r=>r.all V.one)=true:=by
 rw[List.all_map,List.all_eq_true];intro a _;rfl
def lJ {n:Nd}(h:j9 n=true):n.attrs.length<=16/\n.text.length<=16384:=by
 rcases jz h with hk|hk
 ·obtain⟨h1,_,_,h4⟩:=kY h hk
  exact⟨(sB.1 h4).1,by rw[h1];simp⟩
 ·obtain⟨_,_,h3,_,_,h6⟩:=gF h hk
  exact⟨by rw[h3];simp,oZ h6⟩
end Go.Proofs.YtlnlopnpcmahgaaGreatDoor
