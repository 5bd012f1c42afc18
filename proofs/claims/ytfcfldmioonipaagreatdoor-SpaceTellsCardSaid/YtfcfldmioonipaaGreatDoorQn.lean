/-
 Texts joined: XPa,XPb,XPe,XNm,XNn,XNo,XNp,XNq,XNr,XLj.
-/
import Derived.Test.YtfcfldmioonipaaGreatDoorQk
import Derived.Test.YtfcfldmioonipaaGreatDoorQe
import Derived.Test.YtfcfldmioonipaaGreatDoorQh
namespace Go.Proofs.YtfcfldmioonipaaGreatDoor
set_option maxRecDepth 100000
set_option maxHeartbeats 32000000
set_option linter.unusedSimpArgs false
set_option linter.unusedVariables false
open Go Go.RowKit Go.Lib
end Go.Proofs.YtfcfldmioonipaaGreatDoor
namespace Go.Proofs.YtfcfldmioonipaaGreatDoor
set_option maxRecDepth 100000
set_option maxHeartbeats 32000000
set_option linter.unusedSimpArgs false
set_option linter.unusedVariables false
open Go Go.RowKit Vm Go.Lib Tryz
open Vm renaming cond_bool→Ca,cond_bit→Cb
open And renaming intro→Ai
open List renaming length_map→Lm,not_mem_nil→Ln,map_nil→Lo,map_cons→Lc,mem_cons→Lk
open Bool renaming not_false→Bf,not_true→Bt
section
variable {cx:Cx} {Q:Post} {st:List Frm} {nm:Nat} {e:Env} {M:Mem} {d:Bool} {fs:List (List Nat)} {ops r:List Oper} {dst:Option Tmp} {t:TypeId} {pos:String} {af:Array Edge} {gd:Option (Nat×Bool)} {i:Nat}
theorem run_assert {P:Program}{w:World}{xt t:TypeId}(v:Value)(h:boxT P t=true):(Instr.typeAssert (.iface t v) xt t false).run P w = .ok v w:=by
 unfold boxT at h
 cases hu:P.underlying t with
 | none=>rw[hu]at h;cases h
 | some u =>
  rw[hu]at h
  simp only[Instr.typeAssert,Sem.run_bind,run_underlying hu w,Result.andThen_ok]
  cases u<;>first|(simp;done)|cases h
theorem ext_assert {xt ty:TypeId}{x:Operand}{u:V}(hx:evalV cx.G true e x = .iface ty u)(ht:boxT cx.P ty=true)
  (h:goOps cx Q st nm (e.putD dst u) M d (fs++[[]]) ops r (i+1)):goExt cx Q st nm e M d fs ops ⟨dst,.typeAssert x xt ty false,t,pos,af,gd⟩ r i:=by
 refine⟨_,[],_,⟨fun x hx=>by simp[effNames]at hx,fun x hx=>by simp[effNames]at hx,fun h=>absurd rfl h,fun h=>absurd rfl h,?_⟩,h⟩
 intro N X w0 I ρ e' M' a w hr he hin hev hMM hf
 have hxi:=he.eval hr (c:=true) rfl (hin x (by simp[Op.operands]))
 rw[hev x (by simp[Op.operands]),hx]at hxi
 cases hc:a.eval x with
 | iface t' v' =>
  rw[hc]at hxi
  cases hxi with
  | iface hv=>exact⟨v',w,(Steps1.still (nm:=nm+16*i) hr hv).n,wp_val (s:=Instr.typeAssert (a.eval x) xt ty false) rfl (by rw[hc];exact run_assert v' ht)⟩
 | _=>rw[hc]at hxi;cases hxi
end
end Go.Proofs.YtfcfldmioonipaaGreatDoor
