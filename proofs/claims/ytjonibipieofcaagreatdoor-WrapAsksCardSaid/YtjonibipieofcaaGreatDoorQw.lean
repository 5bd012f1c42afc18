/-
 Texts joined: XSr,XSs.
-/
import Derived.Test.YtjonibipieofcaaGreatDoorQu
import Derived.Test.YtjonibipieofcaaGreatDoorQv
set_option linter.all false
namespace Go.Proofs.YtjonibipieofcaaGreatDoor
set_option maxRecDepth 100000
set_option maxHeartbeats 32000000
open Go Go.RowKit Vm Go.Lib Tryz
open Vm renaming aI->Ca,aP->Cb
open And renaming intro->Ai
open List renaming length_map->Lm,not_mem_nil->Ln,map_nil->Lo,map_cons->Lc,mem_cons->Lk
open Bool renaming not_false->Bf,not_true->Bt
def toks_fit {s:List UInt8}(hs:s.length<=16384)(h:(lg s).2.2=0):(lg s).1.length<=600 /\ ∀ t∈(lg s).1,t.okTo 1000000/\t.attrs.length<=30:=by
 obtain⟨h1,_,h3,_⟩:=(B5 s).1 h
 refine⟨by omega,fun t ht=>⟨J7 (GG h t ht) (by omega),?_⟩⟩
 have:=zh (h1 t ht)
 omega
def cW {n:Nd}{a b:Nat}(h:n.okTo a)(hab:a<=b):n.okTo b:=by
 obtain⟨h1,h2,h3,h4,h5⟩:=h
 exact⟨by omega,by omega,by omega,by omega,fun x hx=>by obtain⟨a1,a2,a3⟩:=h5 x hx;exact⟨by omega,by omega,by omega⟩⟩
def At.fits (a:At):Prop:=a.space.length<=aT/\a.name.length<=aT/\a.value.length<=aT
def Fk {n:Nat}{vs:List V}(h:Shape cx.P n 46 vs):∃ x:At,vs=bf x/\x.fits:=by
 obtain⟨n',h⟩:=kL JF h
 obtain⟨_,_,rfl,h1,_,_,rfl,h2,_,_,rfl,h3,h7⟩:=h
 obtain⟨a1,rfl,r1⟩:=dx ij h1
 obtain⟨a2,rfl,r2⟩:=dx ij h2
 obtain⟨a3,rfl,r3⟩:=dx ij h3
 obtain rfl:=nL h7
 exact⟨⟨a1,a2,a3⟩,rfl,Nat.le_trans r1 (by decide),Nat.le_trans r2 (by decide),Nat.le_trans r3 (by decide)⟩
def GO {n:Nat}{vs:List V}(h:Shape cx.P n 37 vs):∃ x:Nd,vs=aD x/\(x.okTo aT/\x.i64):=by
 obtain⟨n',h⟩:=kL JD h
 obtain⟨_,_,rfl,h1,_,_,rfl,h2,_,_,rfl,h3,_,_,rfl,h4,_,_,rfl,h5,_,_,rfl,h6,h7⟩:=h
 obtain⟨a1,rfl,r1,_⟩:=eX MC h1
 obtain⟨a2,rfl,r2⟩:=dx ij h2
 obtain⟨a3,rfl,r3⟩:=dx ij h3
 obtain⟨_,rs,rfl,l1,m1,g1⟩:=l5 JC h4
 obtain⟨a5,rfl,r5⟩:=dx ij h5
 obtain⟨a6,rfl,r6,r6'⟩:=eX lO h6
 obtain rfl:=nL h7
 obtain⟨x1,rfl,f1⟩:=oV bf At.fits (fun r hr=>Fk (g1 r hr))
 rw[Lm]at m1
 have r1':(0:Int)<=a1:=r1
 obtain⟨b1,rfl⟩:∃ b:Nat,a1=b:=⟨a1.toNat,by omega⟩
 exact⟨⟨b1,a2,a3,x1,a5,a6⟩,rfl,⟨by show x1.length<=aT;unfold aT;omega,Nat.le_trans r2 (by decide),Nat.le_trans r3 (by decide),Nat.le_trans r5 (by decide),f1⟩,r6,r6'⟩
def DX {n:Nat}{vs:List V}(h:Shape cx.P n 26 vs):∃ l:List Nd,vs=[.sl false 6 (l.map aD)]/\l.length<=aT /\ ∀ x∈l,x.okTo aT/\x.i64:=by
 obtain⟨_,rs,rfl,l1,m1,g1⟩:=l5 JB h
 obtain⟨x1,rfl,f1⟩:=oV aD (fun x=>x.okTo aT/\x.i64) (fun r hr=>GO (g1 r hr))
 rw[Lm]at m1
 exact⟨x1,rfl,by unfold aT;omega,f1⟩
end Go.Proofs.YtjonibipieofcaaGreatDoor
