/-
 Texts joined: XGg,XGh,XGi,XEk.
-/
import Derived.Test.YtjonibipieofcaaGreatDoorQi
set_option linter.all false
namespace Go.Proofs.YtjonibipieofcaaGreatDoor
set_option maxRecDepth 100000
set_option maxHeartbeats 32000000
open Go Go.RowKit Vm Go.Lib Tryz
open Vm renaming aI->Ca,aP->Cb
open And renaming intro->Ai
open List renaming length_map->Lm,not_mem_nil->Ln,map_nil->Lo,map_cons->Lc,mem_cons->Lk
open Bool renaming not_false->Bf,not_true->Bt
section
variable (rest a b:List UInt8) (hr:rest.length<=1000000) (hc:fA 59 rest=some (a,b))
include hr hc
end
structure RSt where
 rest:List UInt8
 out:List UInt8
def RSt.inv (s:List UInt8)(x:RSt):Prop:=dD s=(dD x.rest).map (x.out ++ ·)/\x.rest.length<=s.length/\x.out.length<=4*(s.length-x.rest.length)
def ui:∀ p1 p2 p3 p4 p5:Bool,(p1=true/\p2=true)\/(p1=true/\p2=false/\p3=true/\p4=true)\/(p1=true/\p2=false/\p3=true/\p4=false/\p5=true)\/(p1=true/\p2=false/\p3=true/\p4=false/\p5=false)\/(p1=true/\p2=false/\p3=false/\p5=true)\/(p1=true/\p2=false/\p3=false/\p5=false) \/
  (p1=false/\p3=true/\p4=true)\/(p1=false/\p3=true/\p4=false/\p5=true)\/(p1=false/\p3=true/\p4=false/\p5=false)\/(p1=false/\p3=false/\p5=true)\/(p1=false/\p3=false/\p5=false):=by
 intro p1 p2 p3 p4 p5;cases p1<;>cases p2<;>cases p3<;>cases p4<;>cases p5<;>simp
def JN {c:UInt8}{p1 p2 p3 p4 p5:Bool}(h1:decide ((97:Int)<=c.toNat)=p1)(h2:decide ((c.toNat:Int)<=122)=p2)(h3:decide ((65:Int)<=c.toNat)=p3)(h4:decide ((c.toNat:Int)<=90)=p4)(h5:decide (c=95)=p5):AG c=((p1&&p2)||(p3&&p4)||p5):=by
 unfold AG
 rw[<- h1,<- h2,<- h3,<- h4,<- h5]
 have e1:((97:Int)<=c.toNat)=(97<=c.toNat):=propext (by omega)
 have e2:((c.toNat:Int)<=122)=(c.toNat<=122):=propext (by omega)
 have e3:((65:Int)<=c.toNat)=(65<=c.toNat):=propext (by omega)
 have e4:((c.toNat:Int)<=90)=(c.toNat<=90):=propext (by omega)
 simp only[e1,e2,e3,e4]
def A4 (c:UInt8)(nm:Nat):Ev cx 138 nm [.int .u8 c.toNat] ao.nil (.bool (AG c)) []:=by
 have hq:((c.toNat:Int)==95)=decide (c=95):=dy c 95
 generalize h1:decide ((97:Int)<=c.toNat)=p1
 generalize h2:decide ((c.toNat:Int)<=122)=p2
 generalize h3:decide ((65:Int)<=c.toNat)=p3
 generalize h4:decide ((c.toNat:Int)<=90)=p4
 generalize h5:decide (c=95)=p5
 have he:=JN h1 h2 h3 h4 h5
 rcases ui p1 p2 p3 p4 p5 with ⟨rfl,rfl⟩|⟨rfl,rfl,rfl,rfl⟩|⟨rfl,rfl,rfl,rfl,rfl⟩|⟨rfl,rfl,rfl,rfl,rfl⟩|⟨rfl,rfl,rfl,rfl⟩|⟨rfl,rfl,rfl,rfl⟩|⟨rfl,rfl,rfl⟩|⟨rfl,rfl,rfl,rfl⟩|⟨rfl,rfl,rfl,rfl⟩|⟨rfl,rfl,rfl⟩|⟨rfl,rfl,rfl⟩
 all_goals simp only[Bool.true_and,Bool.false_and,Bool.and_false,Bool.true_or,Bool.or_true,Bool.false_or,Bool.or_false,Bool.and_true]at he
 all_goals (
  refine aX call138 func138 ?_;intro b0 hb0
  exact wP (a9 results138 ntmps138 hq h1 h2 h3 h4 h5 he) trivial)
def PM:∀ n:Nat,n<256->(decide (97<=IntKind.u8.wrap ((BitVec.ofInt IntKind.u8.bits (n:Int) ||| BitVec.ofInt IntKind.u8.bits 32).toNat:Int))&&decide (IntKind.u8.wrap ((BitVec.ofInt IntKind.u8.bits (n:Int) ||| BitVec.ofInt IntKind.u8.bits 32).toNat:Int)<=122))=((decide (97<=n)&&decide (n<=122))||(decide (65<=n)&&decide (n<=90))):=by decide +kernel
def yQ:∀ p1 p2 p5 f p6 p7 p8 p9:Bool,(p1=true/\p2=true)\/(p1=true/\p2=false/\p5=true)\/(p1=false/\p5=true)\/(p1=true/\p2=false/\p5=false/\f=true)\/(p1=false/\p5=false/\f=true) \/
  (p1=true/\p2=false/\p5=false/\f=false/\p6=true/\p7=true)\/(p1=true/\p2=false/\p5=false/\f=false/\p6=true/\p7=false/\p8=true)\/(p1=true/\p2=false/\p5=false/\f=false/\p6=true/\p7=false/\p8=false) \/
  (p1=true/\p2=false/\p5=false/\f=false/\p6=false/\p8=true)\/(p1=true/\p2=false/\p5=false/\f=false/\p6=false/\p8=false) \/
  (p1=false/\p5=false/\f=false/\p6=true/\p7=true)\/(p1=false/\p5=false/\f=false/\p6=true/\p7=false/\p8=true)\/(p1=false/\p5=false/\f=false/\p6=true/\p7=false/\p8=false) \/
  (p1=false/\p5=false/\f=false/\p6=false/\p8=true)\/(p1=false/\p5=false/\f=false/\p6=false/\p8=false):=by
 intro p1 p2 p5 f p6 p7 p8 p9;cases p1<;>cases p2<;>cases p5<;>cases f<;>cases p6<;>cases p7<;>cases p8<;>simp
def He {c:UInt8}{f p1 p2 p5 p6 p7 p8 p9:Bool}(h1:decide (97<=IntKind.u8.wrap ((BitVec.ofInt IntKind.u8.bits (c.toNat:Int) ||| BitVec.ofInt IntKind.u8.bits 32).toNat:Int))=p1)(h2:decide (IntKind.u8.wrap ((BitVec.ofInt IntKind.u8.bits (c.toNat:Int) ||| BitVec.ofInt IntKind.u8.bits 32).toNat:Int)<=122)=p2)
  (h5:decide (c=95)=p5) (h6:decide ((48:Int)<=c.toNat)=p6) (h7:decide ((c.toNat:Int)<=57)=p7) (h8:decide (c=46)=p8) (h9:decide (c=45)=p9):jX f c=((p1&&p2)||p5||(!f&&((p6&&p7)||p8||p9))):=by
 have e:=PM c.toNat c.toNat_lt
 rw[h1,h2]at e
 unfold jX AG
 rw[<- e,<- h5,<- h6,<- h7,<- h8,<- h9]
 have e1:((48:Int)<=c.toNat)=(48<=c.toNat):=propext (by omega)
 have e2:((c.toNat:Int)<=57)=(c.toNat<=57):=propext (by omega)
 simp only[e1,e2]
def Kx (c:UInt8)(f:Bool)(nm:Nat):Ev cx 110 nm [.int .u8 c.toNat,.bool f] ao.nil (.bool (jX f c)) []:=by
 have q5:((c.toNat:Int)==95)=decide (c=95):=dy c 95
 have q8:((c.toNat:Int)==46)=decide (c=46):=dy c 46
 have q9:((c.toNat:Int)==45)=decide (c=45):=dy c 45
 generalize h1:decide (97<=IntKind.u8.wrap ((BitVec.ofInt IntKind.u8.bits (c.toNat:Int) ||| BitVec.ofInt IntKind.u8.bits 32).toNat:Int))=p1
 generalize h2:decide (IntKind.u8.wrap ((BitVec.ofInt IntKind.u8.bits (c.toNat:Int) ||| BitVec.ofInt IntKind.u8.bits 32).toNat:Int)<=122)=p2
 generalize h5:decide (c=95)=p5
 generalize h6:decide ((48:Int)<=c.toNat)=p6
 generalize h7:decide ((c.toNat:Int)<=57)=p7
 generalize h8:decide (c=46)=p8
 generalize h9:decide (c=45)=p9
 have he:=He (f:=f) h1 h2 h5 h6 h7 h8 h9
 rcases yQ p1 p2 p5 f p6 p7 p8 p9 with ⟨rfl,rfl⟩|⟨rfl,rfl,rfl⟩|⟨rfl,rfl⟩|⟨rfl,rfl,rfl,rfl⟩|⟨rfl,rfl,rfl⟩|⟨rfl,rfl,rfl,rfl,rfl,rfl⟩|⟨rfl,rfl,rfl,rfl,rfl,rfl,rfl⟩|⟨rfl,rfl,rfl,rfl,rfl,rfl,rfl⟩|⟨rfl,rfl,rfl,rfl,rfl,rfl⟩|⟨rfl,rfl,rfl,rfl,rfl,rfl⟩|⟨rfl,rfl,rfl,rfl,rfl⟩|⟨rfl,rfl,rfl,rfl,rfl,rfl⟩|⟨rfl,rfl,rfl,rfl,rfl,rfl⟩|⟨rfl,rfl,rfl,rfl,rfl⟩|⟨rfl,rfl,rfl,rfl,rfl⟩
 all_goals simp only[Bool.true_and,Bool.false_and,Bool.and_false,Bool.true_or,Bool.or_true,Bool.false_or,Bool.or_false,Bool.and_true,Bt,Bf]at he
 all_goals (
  refine aX call110 func110 ?_;intro b0 hb0
  exact wP (a5 results110 ntmps110 q5 q8 (a9 q9 h1 h2 h5 h6 h7 h8 h9 he)) trivial)
end Go.Proofs.YtjonibipieofcaaGreatDoor
