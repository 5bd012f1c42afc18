/-
 Texts joined: XGa,XGb,XGc,XGd,XEt,XEb,XEf,XEg,XGe,XNc.
-/
import Derived.Test.YtfcfldmioonipaaGreatDoorQf
import Derived.Test.YtfcfldmioonipaaGreatDoorQg
import Derived.Test.YtfcfldmioonipaaGreatDoorQe
namespace Go.Proofs.YtfcfldmioonipaaGreatDoor
set_option maxRecDepth 100000
set_option maxHeartbeats 32000000
set_option linter.unusedSimpArgs false
set_option linter.unusedVariables false
open Go Go.RowKit Go.Lib
def hexD (c:UInt8):Option Nat:=if 48≤c.toNat∧c.toNat≤57 then some (c.toNat-48) else if 97≤c.toNat∧c.toNat≤102 then some (c.toNat-87) else if 65≤c.toNat∧c.toNat≤70 then some (c.toNat-55) else none
def hexV:Nat→List UInt8→Option Nat
 | n,[]=>some n
 | n,c::r=>match hexD c with|none=>none|some d=>hexV (16*n+d) r
def hexL (s:List UInt8):Option Nat:=if s=[]∨6<s.length∨s.head? = some 48 then none else hexV 0 s
def decD (c:UInt8):Option Nat:=if 48≤c.toNat∧c.toNat≤57 then some (c.toNat-48) else none
def decV:Nat→List UInt8→Option Nat
 | n,[]=>some n
 | n,c::r=>match decD c with|none=>none|some d=>decV (10*n+d) r
def decL (s:List UInt8):Option Nat:=if s=[]∨16<s.length∨(s.head? = some 48∧s≠[48]) then none else (decV 0 s).bind fun n=>if n≤9007199254740991 then some n else none
def pointW (o:Option Nat):Option (List UInt8):=o.bind fun n=>if may (n:Int)=true then some (encodeRune n) else none
def meantL (s:List UInt8):Option (List UInt8) :=
 if s=[97,109,112] then some [38] else if s=[108,116] then some [60] else if s=[103,116] then some [62] else if s=[113,117,111,116] then some [34] else if s=[97,112,111,115] then some [39]
 else if s.head? = some 35 then (if s.tail.head? = some 120 then pointW (hexL s.tail.tail) else pointW (decL s.tail)) else none
theorem cut1_len {d:UInt8}{s a b:List UInt8}(h:cut1 d s=some (a,b)):b.length<s.length:=by
 have:=(cut1_some h).1
 rw[this];simp;omega
def readL:List UInt8→Option (List UInt8)
 | []=>some []
 | c::r=>if c=60 then none else if c=38 then (match h:cut1 59 r with|none=>none|some (a,b)=>match meantL a with|none=>none|some x=>(readL b).map (x ++ ·)) else (readL r).map (c :: ·)
termination_by s=>s.length
decreasing_by
 ·have:=cut1_len h;simp;omega
 ·simp
def digitsL (n:Nat):List UInt8:=if n≤9 then [UInt8.ofNat (48+n)] else digitsL (n / 10)++[UInt8.ofNat (48+n % 10)]
termination_by n
decreasing_by omega
theorem digits_low {n:Nat}(h:n≤9):digitsL n=[UInt8.ofNat (48+n)]:=by rw[digitsL,if_pos h]
theorem digits_high {n:Nat}(h:9<n):digitsL n=digitsL (n / 10)++[UInt8.ofNat (48+n % 10)]:=by rw[digitsL,if_neg (by omega)]
end Go.Proofs.YtfcfldmioonipaaGreatDoor
namespace Go.Proofs.YtfcfldmioonipaaGreatDoor
set_option maxRecDepth 100000
set_option maxHeartbeats 32000000
set_option linter.unusedSimpArgs false
set_option linter.unusedVariables false
open Go Go.RowKit Vm Go.Lib Tryz
open Vm renaming cond_bool→Ca,cond_bit→Cb
open And renaming intro→Ai
open List renaming length_map→Lm,not_mem_nil→Ln,map_nil→Lo,map_cons→Lc,mem_cons→Lk
open Bool renaming not_false→Bf,not_true→Bt
theorem fresh_self (n:Nat):Fresh n n=True:=eq_true ⟨Nat.le_refl _,by omega⟩
section
variable (u:Bool) (q y:Nat) (bs:List UInt8) (M:Mem) (nm:Nat)
end
end Go.Proofs.YtfcfldmioonipaaGreatDoor
