/-
 Texts joined: XNa,XNd,XNe,XNf,XGf,XGg,XNg,XNh,XGh,XGi.
-/
import Derived.Test.YtfcfldmioonipaaGreatDoorQf
import Derived.Test.YtfcfldmioonipaaGreatDoorQi
import Derived.Test.YtfcfldmioonipaaGreatDoorQh
import Derived.Test.YtfcfldmioonipaaGreatDoorQg
namespace Go.Proofs.YtfcfldmioonipaaGreatDoor
set_option maxRecDepth 100000
set_option maxHeartbeats 32000000
set_option linter.unusedSimpArgs false
set_option linter.unusedVariables false
open Go Go.RowKit Go.Lib
end Go.Proofs.YtfcfldmioonipaaGreatDoor
namespace Go.Proofs.YtfcfldmioonipaaGreatDoor
set_option maxRecDepth 100000
set_option maxHeartbeats 32000000
set_option linter.unusedSimpArgs false
set_option linter.unusedVariables false
open Go Go.RowKit Vm Go.Lib Tryz
open Vm renaming cond_bool→Ca,cond_bit→Cb
open And renaming intro→Ai
open List renaming length_map→Lm,not_mem_nil→Ln,map_nil→Lo,map_cons→Lc,mem_cons→Lk
open Bool renaming not_false→Bf,not_true→Bt
def preR (s p:List UInt8):V:=if preB s p=true then .tup [.str (s.drop p.length),.bool true] else .tup [.str s,.bool false]
theorem preR_yes {s p:List UInt8}(h:preB s p=true):preR s p = .tup [.str (s.drop p.length),.bool true]:=by unfold preR;rw[if_pos h]
theorem preR_no {s p:List UInt8}(h:preB s p=false):preR s p = .tup [.str s,.bool false]:=by unfold preR;rw[if_neg (by simp[h])]
theorem cutPreS_ev (s p:List UInt8)(hs:s.length≤lim)(hp:p.length≤lim)(nm:Nat):Ev cx 59 nm [.str s,.str p] Mem.nil (preR s p) []:=by
 have h:=hasPre_ev s p hs hp
 unfold lim at hs hp
 cases hb:preB s p with
 | true =>
  have hle:p.length≤s.length:=by
   unfold preB at hb
   simp only[Bool.and_eq_true,decide_eq_true_eq]at hb
   exact hb.1
  have hle':(p.length:Int)≤(s.length:Int):=by omega
  rw[preR_yes hb]
  rw[hb]at h
  refine ev_go rfl (fun cargs w=>call59 cargs w) func59 rfl mixed (by kernel_rfl) rfl ?_;intro b0 hb0
  (repeat' first|simp only[fins,mems,results59,ntmps59,wks,hle,hle',vcs,seval,tys]|exact rfl|refine call_off (v:=.any) ?_|(first|(refine call_fn ?_ (h _) ?_)|(refine call_fn_g ?_ (fun _=>h _) ?_))|((first|apply Ca|apply Cb)<;>intro hb)|refine Ai (by omega) ?_|(apply Ai<;>intro hb)|refine Fin.pure ?_ ?_ ?_|simp only[injs])
 | false =>
  rw[preR_no hb]
  rw[hb]at h
  refine ev_go rfl (fun cargs w=>call59 cargs w) func59 rfl mixed (by kernel_rfl) rfl ?_;intro b0 hb0
  (repeat' first|simp only[fins,mems,results59,ntmps59,wks,vcs,seval,tys]|exact rfl|refine call_off (v:=.any) ?_|(first|(refine call_fn ?_ (h _) ?_)|(refine call_fn_g ?_ (fun _=>h _) ?_))|((first|apply Ca|apply Cb)<;>intro hb)|refine Ai (by omega) ?_|(apply Ai<;>intro hb)|refine Fin.pure ?_ ?_ ?_|simp only[injs])
theorem cutPre_ev (s p:List UInt8)(hs:s.length≤lim)(hp:p.length≤lim)(nm:Nat):Ev cx 42 nm [.str s,.str p] Mem.nil (preR s p) []:=by
 have h:=cutPreS_ev s p hs hp
 cases hb:preB s p with
 | true =>
  rw[preR_yes hb]at h ⊢
  refine ev_go rfl (fun cargs w=>call42 cargs w) func42 rfl mixed (by kernel_rfl) rfl ?_;intro b0 hb0
  (repeat' first|simp only[fins,mems,results42,ntmps42,wks,vcs,seval,tys]|exact rfl|refine call_off (v:=.any) ?_|(first|(refine call_fn ?_ (h _) ?_)|(refine call_fn_g ?_ (fun _=>h _) ?_))|((first|apply Ca|apply Cb)<;>intro hb)|refine Ai (by omega) ?_|(apply Ai<;>intro hb)|refine Fin.pure ?_ ?_ ?_|simp only[injs])
 | false =>
  rw[preR_no hb]at h ⊢
  refine ev_go rfl (fun cargs w=>call42 cargs w) func42 rfl mixed (by kernel_rfl) rfl ?_;intro b0 hb0
  (repeat' first|simp only[fins,mems,results42,ntmps42,wks,vcs,seval,tys]|exact rfl|refine call_off (v:=.any) ?_|(first|(refine call_fn ?_ (h _) ?_)|(refine call_fn_g ?_ (fun _=>h _) ?_))|((first|apply Ca|apply Cb)<;>intro hb)|refine Ai (by omega) ?_|(apply Ai<;>intro hb)|refine Fin.pure ?_ ?_ ?_|simp only[injs])
section
variable {cx:Cx} {Q:Post} {st:List Frm} {nm:Nat} {e:Env} {M:Mem} {d:Bool} {fs:List (List Nat)} {ops r:List Oper} {dst:Option Tmp} {t:TypeId} {pos:String} {af:Array Edge} {gd:Option (Nat×Bool)} {i:Nat}
def boxT (P:Program)(t:TypeId):Bool:=match P.underlying t with
 | some (.interface _)|none=>false
 | some _=>true
theorem run_box {P:Program}{w:World}{t:TypeId}(x:Value)(h:boxT P t=true):(Instr.makeInterface t x).run P w = .ok (.iface t x) w:=by
 unfold boxT at h
 cases hu:P.underlying t with
 | none=>rw[hu]at h;cases h
 | some u =>
  rw[hu]at h
  simp only[Instr.makeInterface,Sem.run_bind,run_underlying hu w,Result.andThen_ok]
  cases u<;>first|rfl|cases h
theorem ext_iface {ty:TypeId}{x:Operand}{u:V}(hx:evalV cx.G true e x=u)(ht:boxT cx.P ty=true)
  (h:goOps cx Q st nm (e.putD dst (.iface ty u)) M d (fs++[[]]) ops r (i+1)):goExt cx Q st nm e M d fs ops ⟨dst,.makeInterface ty x,t,pos,af,gd⟩ r i:=by
 refine⟨_,[],_,⟨fun x hx=>by simp[effNames]at hx,fun x hx=>by simp[effNames]at hx,fun h=>absurd rfl h,fun h=>absurd rfl h,?_⟩,h⟩
 intro N X w0 I ρ e' M' a w hr he hin hev hMM hf
 have hxi:=he.eval hr (c:=true) rfl (hin x (by simp[Op.operands]))
 rw[hev x (by simp[Op.operands]),hx]at hxi
 exact⟨_,w,(Steps1.still (nm:=nm+16*i) hr (.iface (t:=ty) hxi)).n,wp_val (s:=Instr.makeInterface ty (a.eval x)) rfl (run_box _ ht)⟩
end
section
variable (rest a b:List UInt8) (hr:rest.length≤1000000) (hc:cut1 59 rest=some (a,b))
include hr hc
end
structure RSt where
 rest:List UInt8
 out:List UInt8
def RSt.inv (s:List UInt8)(x:RSt):Prop:=readL s=(readL x.rest).map (x.out ++ ·)∧x.rest.length≤s.length∧x.out.length≤4*(s.length-x.rest.length)
end Go.Proofs.YtfcfldmioonipaaGreatDoor
