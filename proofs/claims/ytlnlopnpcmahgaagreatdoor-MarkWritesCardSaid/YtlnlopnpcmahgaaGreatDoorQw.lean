/-
 Texts joined: XSr,XSs.
-/
import Derived.Test.YtlnlopnpcmahgaaGreatDoorQu
import Derived.Test.YtlnlopnpcmahgaaGreatDoorQv
import Derived.Test.YtlnlopnpcmahgaaGreatDoorQs
import Derived.Test.YtlnlopnpcmahgaaGreatDoorQn
import Derived.Test.YtlnlopnpcmahgaaGreatDoorQr
set_option linter.all false
namespace Go.Proofs.YtlnlopnpcmahgaaGreatDoor
set_option maxRecDepth 100000
set_option maxHeartbeats 32000000
open Go Go.RowKit Vm Go.Lib Tryz
open Vm renaming aH->Ca,aL->Cb
open And renaming intro->Ai
open List renaming length_map->Lm,not_mem_nil->Ln,map_nil->Lo,map_cons->Lc,mem_cons->Lk
open Bool renaming not_false->Bf,not_true->Bt
def toks_fit {s:List UInt8}(hs:s.length<=16384)(h:(jw s).2.2=0):(jw s).1.length<=600 /\ ∀ t∈(jw s).1,t.okTo 1000000/\t.attrs.length<=30:=by
 obtain⟨h1,_,h3,_⟩:=(y6 s).1 h
 refine⟨by omega,fun t ht=>⟨GP (Dr h t ht) (by omega),?_⟩⟩
 have:=wz (h1 t ht)
 omega
def eZ {n:Nd}{a b:Nat}(h:n.okTo a)(hab:a<=b):n.okTo b:=by
 obtain⟨h1,h2,h3,h4,h5⟩:=h
 exact⟨by omega,by omega,by omega,by omega,fun x hx=>by obtain⟨a1,a2,a3⟩:=h5 x hx;exact⟨by omega,by omega,by omega⟩⟩
def At.fits (a:At):Prop:=a.space.length<=aS/\a.name.length<=aS/\a.value.length<=aS
def Co {n:Nat}{vs:List V}(h:Shape cx.P n 51 vs):∃ x:At,vs=bh x/\x.fits:=by
 obtain⟨n',h⟩:=mP Gq h
 obtain⟨_,_,rfl,h1,_,_,rfl,h2,_,_,rfl,h3,h7⟩:=h
 obtain⟨a1,rfl,r1⟩:=fA jZ h1
 obtain⟨a2,rfl,r2⟩:=fA jZ h2
 obtain⟨a3,rfl,r3⟩:=fA jZ h3
 obtain rfl:=qP h7
 exact⟨⟨a1,a2,a3⟩,rfl,Nat.le_trans r1 (by decide),Nat.le_trans r2 (by decide),Nat.le_trans r3 (by decide)⟩
def Dy {n:Nat}{vs:List V}(h:Shape cx.P n 43 vs):∃ x:Nd,vs=aG x/\(x.okTo aS/\x.i64):=by
 obtain⟨n',h⟩:=mP Gp h
 obtain⟨_,_,rfl,h1,_,_,rfl,h2,_,_,rfl,h3,_,_,rfl,h4,_,_,rfl,h5,_,_,rfl,h6,h7⟩:=h
 obtain⟨a1,rfl,r1,_⟩:=sX Ir h1
 obtain⟨a2,rfl,r2⟩:=fA jZ h2
 obtain⟨a3,rfl,r3⟩:=fA jZ h3
 obtain⟨_,rs,rfl,l1,m1,g1⟩:=oE Gn h4
 obtain⟨a5,rfl,r5⟩:=fA jZ h5
 obtain⟨a6,rfl,r6,r6'⟩:=sX Iq h6
 obtain rfl:=qP h7
 obtain⟨x1,rfl,f1⟩:=qJ bh At.fits (fun r hr=>Co (g1 r hr))
 rw[Lm]at m1
 have r1':(0:Int)<=a1:=r1
 obtain⟨b1,rfl⟩:∃ b:Nat,a1=b:=⟨a1.toNat,by omega⟩
 exact⟨⟨b1,a2,a3,x1,a5,a6⟩,rfl,⟨by show x1.length<=aS;unfold aS;omega,Nat.le_trans r2 (by decide),Nat.le_trans r3 (by decide),Nat.le_trans r5 (by decide),f1⟩,r6,r6'⟩
def A1 {n:Nat}{vs:List V}(h:Shape cx.P n 22 vs):∃ l:List Nd,vs=[.sl false 6 (l.map aG)]/\l.length<=aS /\ ∀ x∈l,x.okTo aS/\x.i64:=by
 obtain⟨_,rs,rfl,l1,m1,g1⟩:=oE y5 h
 obtain⟨x1,rfl,f1⟩:=qJ aG (fun x=>x.okTo aS/\x.i64) (fun r hr=>Dy (g1 r hr))
 rw[Lm]at m1
 exact⟨x1,rfl,by unfold aS;omega,f1⟩
end Go.Proofs.YtlnlopnpcmahgaaGreatDoor
