/-
 Texts joined: XNg,XNh,XNi,XNj,XNk,XNl,XNm,XNn,XNo.
-/
import Derived.Test.YtjonibipieofcaaGreatDoorQk
set_option linter.all false
namespace Go.Proofs.YtjonibipieofcaaGreatDoor
set_option maxRecDepth 100000
set_option maxHeartbeats 32000000
open Go Go.RowKit Vm Go.Lib Tryz
open Vm renaming aI->Ca,aP->Cb
open And renaming intro->Ai
open List renaming length_map->Lm,not_mem_nil->Ln,map_nil->Lo,map_cons->Lc,mem_cons->Lk
open Bool renaming not_false->Bf,not_true->Bt
section
variable {cx:Cx} {Q:Post} {st:List Frm} {nm:Nat} {e:Env} {M:ao} {d:Bool} {fs:List (List Nat)} {ops r:List Oper} {dst:Option Tmp} {t:TypeId} {pos:String} {af:Array Edge} {gd:Option (Nat×Bool)} {i:Nat}
def LX (P:Program)(t:TypeId):Bool:=match P.underlying t with
 | some (.interface _)|none=>false
 | some _=>true
def KE {P:Program}{w:World}{t:TypeId}(x:Value)(h:LX P t=true):(Instr.makeInterface t x).run P w = .ok (.iface t x) w:=by
 unfold LX at h
 cases hu:P.underlying t with
 | none=>rw[hu]at h;cases h
 | some u =>
  rw[hu]at h
  simp only[Instr.makeInterface,Sem.run_bind,run_underlying hu w,Result.andThen_ok]
  cases u<;>first|rfl|cases h
def px {ty:TypeId}{x:Operand}{u:V}(hx:ax cx.G true e x=u)(ht:LX cx.P ty=true)
  (h:aG cx Q st nm (e.putD dst (.iface ty u)) M d (fs++[[]]) ops r (i+1)):cM cx Q st nm e M d fs ops ⟨dst,.makeInterface ty x,t,pos,af,gd⟩ r i:=by
 refine⟨_,[],_,⟨fun x hx=>by simp[ak]at hx,fun x hx=>by simp[ak]at hx,fun h=>absurd rfl h,fun h=>absurd rfl h,?_⟩,h⟩
 intro N X w0 I ρ e' M' a w hr he hin hev hMM hf
 have hxi:=he.eval hr (c:=true) rfl (hin x (by simp[Op.operands]))
 rw[hev x (by simp[Op.operands]),hx]at hxi
 exact⟨_,w,(cV.still (nm:=nm+16*i) hr (.iface (t:=ty) hxi)).n,jd (s:=Instr.makeInterface ty (a.eval x)) rfl (KE _ ht)⟩
end
def DW {s n r:List UInt8}(h:oH s=some (n,r)):Cz s=n/\Ie s=r/\bU n=true:=by
 unfold oH at h
 split at h
 ·rename_i hf;cases h;exact⟨rfl,rfl,hf⟩
 ·cases h
def vO {d:UInt8}(hd:d.toNat<128):∀(zs:List Int) (a b:List UInt8),zs.all mW=true->enc zs=a++d::b->(dp a).isSome=true/\(dp b).isSome=true
 | [],a,b,_,h=>by
  have:=congrArg List.length h
  simp[enc]at this
 | z::zs,a,b,hm,h=>by
  simp only[List.all_cons,Bool.and_eq_true]at hm
  have e:enc (z::zs)=encodeRune z++enc zs:=by simp[enc]
  have e1:enc [z]=encodeRune z:=by simp[enc]
  have d1:dp (encodeRune z)=some [z]:=by rw[<- e1];exact fW [z] (by simp[hm.1])
  rw[e]at h
  rcases List.append_eq_append_iff.1 h with ⟨a',h1,h2⟩|⟨c',h1,h2⟩
  ·obtain⟨k1,k2⟩:=vO hd zs a' b hm.2 h2
   obtain⟨y,hy⟩:=Option.isSome_iff_exists.1 k1
   refine⟨?_,k2⟩
   rw[h1,rR d1 hy];rfl
  ·cases c' with
   | nil =>
    simp only[List.append_nil,List.nil_append]at h1 h2
    obtain⟨_,k2⟩:=vO hd zs [] b hm.2 (by rw[<- h2];rfl)
    refine⟨?_,k2⟩
    rw[<- h1,d1];rfl
   | cons c t =>
    simp only[List.cons_append,List.cons.injEq]at h2
    obtain⟨h2,h3⟩:=h2
    by_cases hz:z<128
    ·have hr:=pK hm.1
     rw[JP (by omega) hz]at h1
     cases a with
     | nil =>
      simp only[List.nil_append,List.cons.injEq]at h1
      rw[<- h1.2,List.nil_append]at h3
      exact⟨rfl,by rw[h3,fW zs hm.2];rfl⟩
     | cons a0 a1 =>
      have:=congrArg List.length h1
      simp at this
    ·have:=sb (z:=z) (by omega) d (by rw[h1,h2];simp)
     omega
def dB {d:UInt8}(hd:d.toNat<128){s a b:List UInt8}(h:(dp s).isSome=true)(he:s=a++d::b):(dp a).isSome=true/\(dp b).isSome=true:=by
 obtain⟨zs,hz⟩:=Option.isSome_iff_exists.1 h
 obtain⟨hm,h2⟩:=(mj s zs).1 hz
 exact vO hd zs a b hm (by rw[h2,he])
set_option maxRecDepth 100000
set_option maxHeartbeats 32000000
open Go Go.RowKit Go.Lib
def rZ {p:UInt8->Bool}(hp:∀ c,p c=true->c.toNat<128):∀ s:List UInt8,(dp s).isSome=true->(dp (s.dropWhile p)).isSome=true
 | [],h=>h
 | c::s,h=>by
  rw[List.dropWhile_cons]
  by_cases hc:p c=true
  ·rw[if_pos hc]
   exact rZ hp s (dB (hp c hc) (a:=[]) h rfl).2
  ·rw[if_neg hc];exact h
def CM:∀ c:UInt8,ph c=true->c.toNat<128:=by
 have key:∀ n:Fin 256,ph (UInt8.ofNat n.val)=true->n.val<128:=by decide +kernel
 intro c hc
 have:=key ⟨c.toNat,c.toNat_lt⟩ (by simpa using hc)
 exact this
def Ig:∀ c:UInt8,Cy c=true->c.toNat<128:=by
 have key:∀ n:Fin 256,Cy (UInt8.ofNat n.val)=true->n.val<128:=by decide +kernel
 intro c hc
 have:=key ⟨c.toNat,c.toNat_lt⟩ (by simpa using hc)
 exact this
def ja {s:List UInt8}(h:(dp s).isSome=true):(dp (da s)).isSome=true:=rZ CM s h
def oI {s n r:List UInt8}(h:(dp s).isSome=true)(hn:oH s=some (n,r)):(dp r).isSome=true:=by
 rw[<-(DW hn).2.1]
 exact rZ Ig s h
def E2 {s v r:List UInt8}(h:(dp s).isSome=true)(hv:p0 s=some (v,r)):(dp r).isSome=true:=by
 obtain⟨a,h1,_⟩:=nM hv
 obtain⟨k,hk,rfl,_⟩:=nH h1
 have hk128:k.toNat<128:=by rcases hk with rfl|rfl<;>decide
 exact(dB hk128 (a:=k::a) h rfl).2
def Fm {s r:List UInt8}{a:Pr}(h:(dp s).isSome=true)(ha:kS s=some (a,r)):(dp r).isSome=true:=by
 obtain⟨r1,t,h1,h2,h3⟩:=pe ha
 have d1:=ja (oI h h1)
 rw[h2]at d1
 have d2:=(dB (d:=61) (by decide) (a:=[]) d1 rfl).2
 exact E2 (ja d2) h3
def HY {s:List UInt8}(h:(dp s).isSome=true):(dp (qB s)).isSome=true/\(dp (mZ s)).isSome=true:=by
 have e:s=qB s++mZ s:=(List.takeWhile_append_dropWhile).symm
 cases hr:mZ s with
 | nil =>
  rw[hr,List.append_nil]at e
  rw[<- e];exact⟨h,rfl⟩
 | cons c t =>
  have hc:kY c=false:=by
   have:=List.head?_dropWhile_not kY s
   unfold mZ at hr
   rw[hr]at this
   simpa using this
  have hc60:c=60:=by simpa [kY] using hc
  rw[hr]at e
  subst hc60
  obtain⟨h1,h2⟩:=dB (d:=60) (by decide) h e
  refine⟨h1,?_⟩
  have d60:dp [60]=some [60]:=by decide +kernel
  obtain⟨y,hy⟩:=Option.isSome_iff_exists.1 h2
  rw[show(60:UInt8)::t=[60]++t from rfl,rR d60 hy];rfl
set_option maxRecDepth 100000
set_option maxHeartbeats 32000000
open Go Go.RowKit Vm Go.Lib Tryz
open Vm renaming aI->Ca,aP->Cb
open And renaming intro->Ai
open List renaming length_map->Lm,not_mem_nil->Ln,map_nil->Lo,map_cons->Lc,mem_cons->Lk
open Bool renaming not_false->Bf,not_true->Bt
def yw (o:Option Nat):Int:=match o with|some n=>n|none=>-1
def br (n:Nat):yw (some n)=n:=rfl
def cK:yw none = -1:=rfl
def iQ {α:Type}{p:α->Bool} : ∀ {l:List α} {k:Nat} {x:α},(l.take k).any p=false->l[k]? = some x->p x=true->l.findIdx? p=some k
 | [],k,x,_,h,_=>by simp at h
 | y::l,0,x,_,h,hp=>by simp at h;subst h;simp[List.findIdx?_cons,hp]
 | y::l,k+1,x,hn,h,hp=>by
  simp only[List.take_succ_cons,List.any_cons,Bool.or_eq_false_iff]at hn
  rw[List.findIdx?_cons,hn.1]
  simp[iQ (l:=l) (k:=k) (x:=x) hn.2 (by simpa using h) hp]
def fC {α:Type}{p:α->Bool}{l:List α}(h:l.any p=false):l.findIdx? p=none:=by
 simpa [List.findIdx?_eq_none_iff] using h
def lm {α:Type}{p:α->Bool}{l:List α}(h:l.findIdx? p=none):l.any p=false:=by
 simpa [List.findIdx?_eq_none_iff] using h
def ln {α:Type}{p:α->Bool}{l:List α}{n:Nat}(h:l.findIdx? p=some n):l.any p=true:=by
 cases ha:l.any p with
 | true=>rfl
 | false=>rw[fC ha]at h;cases h
def bd {caps:List V}(h:plainL caps=true)(σ:List (Nat×Nat))(M:ao):finL σ M caps=caps:=(finL_plain σ M caps h).1
def aU {caps:List V}(h:plainL caps=true)(σ:List (Nat×Nat))(M:ao):finLOk σ M caps=True:=eq_true (finL_plain σ M caps h).2
set_option maxRecDepth 100000
set_option maxHeartbeats 32000000
open Go Go.RowKit Go.Lib
set_option maxRecDepth 100000
set_option maxHeartbeats 32000000
open Go Go.RowKit Vm Go.Lib Tryz
open Vm renaming aI->Ca,aP->Cb
open And renaming intro->Ai
open List renaming length_map->Lm,not_mem_nil->Ln,map_nil->Lo,map_cons->Lc,mem_cons->Lk
open Bool renaming not_false->Bf,not_true->Bt
end Go.Proofs.YtjonibipieofcaaGreatDoor
