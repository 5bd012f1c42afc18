/-
 Texts joined: XCs,XCe,XCa,XCc,XCb.
-/
import Derived.Shelf.Strconv.Itoa0
import Derived.Shelf.Strconv.Itoa2
import Derived.Lib.ItoaMem
import Derived.Test.YtjonibipieofcaaGreatDoorQh
set_option maxRecDepth 100000
set_option linter.all false
namespace Go.Proofs
open Go.Shelf
open Go.RowKit Go.Sort Go.Lib
def Tryz.lays129_ren:Go.Shelf.Ren:=⟨fun|129=>193|n=>n,fun|53=>221|3=>3|4=>4|46=>212|5=>5|9=>9|n=>n,fun|n=>n⟩
def Tryz.lays129:Go.Proofs.Lays.n129 Tryz.prog Tryz.lays129_ren:={
 mixed:=by kernel_rfl
 f129:=Tryz.func193.trans (congrArg some (by kernel_rfl))
 t3:=Tryz.underlying3
 a3:=Tryz.isAgg3
 z3:=Tryz.sizeOf3
 v3:=Tryz.zeroValue3
 t4:=Tryz.underlying4
 a4:=Tryz.isAgg4
 z4:=Tryz.sizeOf4
 v4:=Tryz.zeroValue4
 t5:=Tryz.underlying5
 a5:=Tryz.isAgg5
 z5:=Tryz.sizeOf5
 v5:=Tryz.zeroValue5
 t9:=Tryz.underlying9
 a9:=Tryz.isAgg9
 z9:=Tryz.sizeOf9
 v9:=Tryz.zeroValue9
 t46:=Tryz.underlying212
 a46:=Tryz.isAgg212
 z46:=Tryz.sizeOf212
 v46:=Tryz.zeroValue212
 t53:=Tryz.underlying221
 a53:=Tryz.isAgg221
 z53:=Tryz.sizeOf221
 v53:=Tryz.zeroValue221 }
def Tryz.bits_Len64 (x:Int)(w:World)(h0:0<=x)(h1:x<=18446744073709551615) :
  Calls Tryz.prog 193 #[.int .u64 x] w fun e w'=>e = .returned (.int .i64 (Lib.bitLen x.toNat))/\w'=w:=Any.bits_Len64 Tryz.lays129 x w h0 h1
def Tryz.lays285_ren:Go.Shelf.Ren:=⟨fun|285=>188|n=>n,fun|37=>135|53=>221|3=>3|4=>4|51=>226|9=>9|5=>5|0=>0|n=>n,fun|n=>n⟩
def Tryz.lays285:Go.Proofs.Lays.n285 Tryz.prog Tryz.lays285_ren:={
 mixed:=by kernel_rfl
 f285:=Tryz.func188.trans (congrArg some (by kernel_rfl))
 t0:=Tryz.underlying0
 a0:=Tryz.isAgg0
 z0:=Tryz.sizeOf0
 v0:=Tryz.zeroValue0
 t3:=Tryz.underlying3
 a3:=Tryz.isAgg3
 z3:=Tryz.sizeOf3
 v3:=Tryz.zeroValue3
 t4:=Tryz.underlying4
 a4:=Tryz.isAgg4
 z4:=Tryz.sizeOf4
 v4:=Tryz.zeroValue4
 t5:=Tryz.underlying5
 a5:=Tryz.isAgg5
 z5:=Tryz.sizeOf5
 v5:=Tryz.zeroValue5
 t9:=Tryz.underlying9
 a9:=Tryz.isAgg9
 z9:=Tryz.sizeOf9
 v9:=Tryz.zeroValue9
 t37:=Tryz.underlying135
 a37:=Tryz.isAgg135
 z37:=Tryz.sizeOf135
 v37:=Tryz.zeroValue135
 t51:=Tryz.underlying226
 a51:=Tryz.isAgg226
 z51:=Tryz.sizeOf226
 v51:=Tryz.zeroValue226
 t53:=Tryz.underlying221
 a53:=Tryz.isAgg221
 z53:=Tryz.sizeOf221
 v53:=Tryz.zeroValue221 }
def Tryz.internal_strconv_formatBase10 (blk off cap:Nat)(u:Nat)(d:Array UInt8)(w:World)(hH:Holds (fun (b:UInt8)=>Value.int .u8 (b.toNat:Int)) w blk off d)(hu:u<10 ^ d.size)(hu64:u<18446744073709551616)(hsz:d.size<4611686018427387904) :
  Calls Tryz.prog 188 #[.slice (some ⟨blk,off,none⟩) d.size cap,.int .u64 u] w fun e w' =>
   e = .returned (.tuple #[]) /\ ∃(n v':Nat) (dk:Array UInt8),w'=(putRow (fun (b:UInt8)=>Value.int .u8 (b.toNat:Int)) w blk off dk).drewN n/\FmtInv d.size u 0 v' dk:=Any.internal_strconv_formatBase10 Tryz.lays285 blk off cap u d w hH hu hu64 hsz
end Go.Proofs
namespace Go.Proofs.YtjonibipieofcaaGreatDoor
open Go Go.RowKit Vm Go.Lib Tryz
open Vm renaming aI->Ca,aP->Cb
open And renaming intro->Ai
open List renaming length_map->Lm,not_mem_nil->Ln,map_nil->Lo,map_cons->Lc,mem_cons->Lk
open Bool renaming not_false->Bf,not_true->Bt
def eB (n:Nat):List UInt8:=if n<10 then [(48+n).toUInt8] else [(48+n / 10).toUInt8,(48+n % 10).toUInt8]
def BR:List UInt8:=[48,49,50,51,52,53,54,55,56,57,97,98,99,100,101,102,103,104,105,106,107,108,109,110,111,112,113,114,115,116,117,118,119,120,121,122]
def Cm:List UInt8:=[48,48,48,49,48,50,48,51,48,52,48,53,48,54,48,55,48,56,48,57,49,48,49,49,49,50,49,51,49,52,49,53,49,54,49,55,49,56,49,57,50,48,50,49,50,50,50,51,50,52,50,53,50,54,50,55,50,56,50,57,51,48,51,49,51,50,51,51,51,52,51,53,51,54,51,55,51,56,51,57,52,48,52,49,52,50,52,51,52,52,52,53,52,54,52,55,52,56,52,57,53,48,53,49,53,50,53,51,53,52,53,53,53,54,53,55,53,56,53,57,54,48,54,49,54,50,54,51,54,52,54,53,54,54,54,55,54,56,54,57,55,48,55,49,55,50,55,51,55,52,55,53,55,54,55,55,55,56,55,57,56,48,56,49,56,50,56,51,56,52,56,53,56,54,56,55,56,56,56,57,57,48,57,49,57,50,57,51,57,52,57,53,57,54,57,55,57,56,57,57]
def HL:∀ i,i<10->(BR.drop i).take (i+1-i)=eB i:=by decide +kernel
def HK:∀ i,i<100 -> ¬ i<10->(Cm.drop (i*2)).take (i*2+2-i*2)=eB i:=by decide +kernel
def HJ (i:Nat)(hi:i<100)(nm:Nat):Ev cx 186 nm [.int .i64 i] ao.nil (.str (eB i)) []:=by
 by_cases h:i<10
 ·have d1:decide ((i:Int)<10)=true:=dh
  have d2:=eD i
  have d3:(i:Int)<=((i+1:Nat):Int):=by omega
  have hz:=HL i h
  unfold BR at hz
  refine aX call186 func186 ?_;intro b0 hb0
  exact wP (a5 results186 ntmps186 d1 d2 hz) trivial
 ·have d1:decide ((i:Int)<10)=false:=bi
  have d2:IntKind.i64.wrap ((i:Int)*2)=((i*2:Nat):Int):=bH
  have d3:IntKind.i64.wrap (((i*2:Nat):Int)+2)=((i*2+2:Nat):Int):=bH
  have hz:=HK i hi h
  unfold Cm at hz
  refine aX call186 func186 ?_;intro b0 hb0
  (repeat' first|simp only[au,ap,results186,ntmps186,am,d1,d2,d3,hz,List.append_eq,List.cons_append,List.nil_append,List.length_cons,List.length_nil,aj,ai,seval]|exact rfl|refine aa (v:=.any) ?_|((first|apply Ca|apply Cb)<;>intro hb)|refine Ai (by omega) ?_|(apply Ai<;>intro hb)|apply Fin.pure|simp only[aq])
def Gg (i:Nat)(hi:i<100)(nm:Nat):Ev cx 178 nm [.int .i64 i,.int .i64 10] ao.nil (.str (eB i)) []:=by
 have d1:decide ((0:Int)<=(i:Int))=true:=dh
 have d2:decide ((i:Int)<100)=true:=dh
 refine aX call178 func178 ?_;intro b0 hb0
 exact wP (a4 results178 ntmps178 d1 d2) (HJ i hi)
def Gw (i:Nat)(hi:i<100)(nm:Nat):Ev cx 169 nm [.int .i64 i] ao.nil (.str (eB i)) []:=by
 refine aX call169 func169 ?_;intro b0 hb0
 exact wP (a2 results169 ntmps169) (Gg i hi)
def B4 (i:Nat)(hi:i<100)(nm:Nat):Ev cx 150 nm [.int .i64 i] ao.nil (.str (eB i)) []:=by
 refine aX call150 func150 ?_;intro b0 hb0
 exact wP (a2 results150 ntmps150) (Gw i hi)
open Go.Sort
def yK (x:Nat)(h:x<=64)(w:World):Calls Tryz.prog 192 #[.int .i64 x] w fun e w'=>e = .returned (.int .i64 (l10 x))/\w'=w:=by
 go_enter func192,ntmps192
 go_wp2
 go_ret
 refine⟨congrArg (fun z=>Ending.returned (.int .i64 z)) ?_,rfl⟩
 unfold l10
 omega
def xx (b:Bool)(w:World):Calls Tryz.prog 194 #[.bool b] w fun e w'=>e = .returned (.int .i64 (if b then 1 else 0))/\w'=w:=by
 cases b <;>
 ·go_enter func194,ntmps194
  go_wp2
  go_ret
  exact⟨rfl,rfl⟩
def vD (w:World):Prop:=∀ i,i<20->w.cell? ⟨2,i,none⟩=some (.int .u64 ((10 ^ i:Nat):Int))
def wE (u:Nat)(h1:1<=u)(h2:u<18446744073709551616)(w:World)(hT:vD w) :
  Calls Tryz.prog 187 #[.int .u64 u] w fun e w'=>e = .returned (.int .i64 (nDigits u))/\w'=w:=by
 obtain⟨n1,n2⟩:=numDigits_eq u h1 h2
 have hb:Lib.bitLen u<=64:=bitLen_le u 64 (Nat.le_refl _) h2
 have hu:((u:Int)).toNat=u:=Int.toNat_natCast u
 have hc:=hT (l10 (Lib.bitLen u)) (by omega)
 have hlen:=Tryz.bits_Len64 u w (by omega) (by omega)
 rw[hu]at hlen
 have hlog:=yK (Lib.bitLen u) hb w
 clear hT
 generalize l10 (Lib.bitLen u)=q at *
 generalize 10 ^ q=T at *
 go_enter func187,ntmps187
 go_wp2_with (first
  |(refine hlen.mono ?_;rintro e w' ⟨rfl,rfl⟩)
  |(refine hlog.mono ?_;rintro e w' ⟨rfl,rfl⟩)
  |(refine(xx _ _).mono ?_;rintro e w' ⟨rfl,rfl⟩))
 all_goals go_ret
 ·rw[if_pos ‹_›]at n1
  exact⟨by rw[<- n1];simp,rfl⟩
 ·rw[if_neg ‹_›]at n1
  exact⟨by rw[<- n1];simp,rfl⟩
def Dr (u:Nat)(h1:100<=u)(h2:u<9223372036854775808)(w:World)(hT:vD w)(hg:2<w.heap.size) :
  Calls Tryz.prog 178 #[.int .i64 u,.int .i64 10] w fun e w'=>e = .returned (.string ⟨(decDigits u).toArray⟩) /\ ∃ k os,w'=grow (w.drewN k) os:=by
 have hn20:nDigits u<=20:=(by have:=numDigits_eq u (by omega) (by omega);split at this<;>omega)
 have hH:=holds_zero w 220 (nDigits u) (by omega)
 have hT2:vD (w.alloc (.cells zeros24 220)):=fun i hi=>by rw[World.cell?_alloc_lt _ _ ⟨_,_,none⟩ hg];exact hT i hi
 have hfmt:=Tryz.internal_strconv_formatBase10 w.heap.size 1 23 u (Array.replicate (nDigits u) 0) (w.alloc (.cells zeros24 220)) hH (by rw[Array.size_replicate];exact lt_pow_nDigits u) (by omega) (by rw[Array.size_replicate];omega)
 rw[Array.size_replicate]at hfmt
 have hnum:=wE u (by omega) (by omega) _ hT2
 have hal:Tryz.prog.arrayLen 220=24:=by kernel_rfl
 have hsl:∀ W,(Instr.sliceAt 220 (.pointer (some ⟨w.heap.size,0,none⟩)) (some (.int .i64 1)) (some (.int .i64 (1+(nDigits u:Int)))) none).run Tryz.prog W = .ok (.slice (some ⟨w.heap.size,1,none⟩) (nDigits u) 23) W:=fun W=>by
  rw[run_sliceAt_array_lh W 220 ⟨w.heap.size,0,none⟩ (by kernel_rfl) .i64 .i64 1 (1+(nDigits u:Int)) (by omega) (by omega) (by rw[hal];omega)]
  rw[show(Sem.run Tryz.prog (sizeOf (Tryz.prog.elem 220)) W) = .ok 1 W by kernel_rfl]
  simp only[Result.andThen,slicedAt,hal]
  rw[if_neg (by decide),show(1+(nDigits u:Int)).toNat-Int.toNat 1=nDigits u by omega]
  rfl
 go_enter func178,ntmps178
 go_wp2_with (first
  |(refine hnum.mono ?_;rintro e w' ⟨rfl,rfl⟩)
  |(refine hfmt.mono ?_;rintro e w' ⟨rfl,k,v',dk,rfl,hF⟩))
 have hcv:(convert 135 9 (.slice (some ⟨w.heap.size,1,none⟩) (nDigits u) 23)).run Tryz.prog ((putRow (fun (b:UInt8)=>Value.int .u8 (b.toNat:Int)) (w.alloc (.cells zeros24 220)) w.heap.size 1 dk).drewN k) = .ok (.string ⟨(decDigits u).toArray⟩) ((putRow (fun (b:UInt8)=>Value.int .u8 (b.toNat:Int)) (w.alloc (.cells zeros24 220)) w.heap.size 1 dk).drewN k):=by
  have hx:=run_convert_bytes_back (P:=Tryz.prog) ((putRow (fun (b:UInt8)=>Value.int .u8 (b.toNat:Int)) (w.alloc (.cells zeros24 220)) w.heap.size 1 dk).drewN k) 135 9 5 ⟨w.heap.size,1,none⟩ 23 (decDigits u) Tryz.underlying135 Tryz.underlying5 Tryz.underlying9 (fun j hj=>by
   rw[row_is_numeral hF j hj,Lib.add_plain,World.cell?_drewN]
   exact cell?_putRow _ _ _ 1 _ dk hH (by rw[hF.size,Array.size_replicate]) j (by rw[hF.size];rw[decDigits_length]at hj;exact hj))
  rw[decDigits_length]at hx
  exact hx
 rw[hcv]
 go_wp2
 go_ret
 obtain⟨os,eo⟩:=fin_pos w (.cells zeros24 220) dk k
 exact⟨rfl,k,os,eo⟩
def KK {X:Nat->Prop}{w0:World}{I:Nat->Prop}{ρ:Names}{M:ao}{w:World}(h:Rel cx.G X w0 I ρ M w):vD w/\2<w.heap.size:=by
 have hq:=h.glob 2
 rw[show cx.G 2=zg from rfl]at hq
 unfold zg at hq
 cases hq with
 | rp cv _ hb hc hu =>
  refine⟨fun i hi=>?_,hb⟩
  have hi':(pow10Tab.map fun z=>V.int .u64 z)[i]? = some (.int .u64 ((10 ^ i:Nat):Int)):=by
   rw[List.getElem?_map]
   unfold pow10Tab
   rw[List.getElem?_map,List.getElem?_range hi]
   rfl
  have a1:=hc i _ hi'
  have a2:=hu i _ hi'
  rw[Nat.zero_add]at a1
  generalize cv i=x at a1 a2
  cases a2
  exact a1
def Dq (u:Nat)(h1:100<=u)(h2:u<9223372036854775808)(nm:Nat):Ev cx 178 nm [.int .i64 u,.int .i64 10] ao.nil (.str (decDigits u)) []:=by
 refine⟨trivial,fun X w ρ cargs B hr hfr hB hlen hargs=>?_⟩
 match cargs,hlen,hargs with
 |⟨[v0,v1]⟩,hlen2,hargs =>
 have e0:=hargs 0 _ v0 rfl rfl
 have e1:=hargs 1 _ v1 rfl rfl
 cases e0
 cases e1
 obtain⟨t1,t2⟩:=KK hr
 refine .inl ⟨call178 _ _,(Dr u h1 h2 w t1 t2).mono ?_⟩
 rintro e w' ⟨rfl,k,os,rfl⟩
 obtain⟨r1,m1⟩:=hr.grow (w':=grow (w.drewN k) os) (by simp[grow,World.drewN]) rfl rfl rfl (fun b hb=>by simp only[grow,World.drewN];exact Array.getElem?_append_left hb)
 exact⟨_,rfl,ρ,r1,m1,.str _,fun _ _=>rfl⟩
def DH:∀ i,i<100->eB i=decDigits i:=by
 intro i hi
 by_cases h:i<10
 ·rw[decDigits_one h]
  have:∀ i,i<10->eB i=[UInt8.ofNat (48+i)]:=by decide +kernel
  exact this i h
 ·rw[decDigits_two h hi]
  have:∀ i,i<100 -> ¬ i<10->eB i=[UInt8.ofNat (48+i / 10),UInt8.ofNat (48+i % 10)]:=by decide +kernel
  exact this i hi h
def Jr (u:Nat)(h2:u<9223372036854775808)(nm:Nat):Ev cx 178 nm [.int .i64 u,.int .i64 10] ao.nil (.str (decDigits u)) []:=by
 by_cases h:u<100
 ·rw[<- DH u h];exact Gg u h nm
 ·exact Dq u (by omega) h2 nm
def DG (u:Nat)(h:u<9223372036854775808)(nm:Nat):Ev cx 169 nm [.int .i64 u] ao.nil (.str (decDigits u)) []:=by
 refine aX call169 func169 ?_;intro b0 hb0
 exact wP (a2 results169 ntmps169) (Jr u h)
def Gv (u:Nat)(h:u<9223372036854775808)(nm:Nat):Ev cx 150 nm [.int .i64 u] ao.nil (.str (decDigits u)) []:=by
 refine aX call150 func150 ?_;intro b0 hb0
 exact wP (a2 results150 ntmps150) (DG u h)
open Go Go.RowKit Go.Lib
def rS:∀(k n:Nat),n<=k->decDigits n=dC n
 | k,n,hk=>by
  by_cases h:n<10
  ·rw[decDigits_one h,dY (by omega)]
  ·rw[fG (by omega)]
   rw[decDigits,dif_neg h]
   cases k with
   | zero=>omega
   | succ k=>rw[rS k (n / 10) (by omega)]
def rT:∀(k n:Nat),n<10 ^ (k+1)->(dC n).length<=k+1
 | 0,n,h=>by rw[dY (by omega)];simp
 | k+1,n,h=>by
  by_cases h9:n<=9
  ·rw[dY h9];simp
  ·rw[fG (by omega)]
   have:=rT k (n / 10) (by rw[Nat.pow_succ]at h;omega)
   simp only[List.length_append,List.length_cons,List.length_nil]
   omega
def BW (n a b:Int)(nm:Nat):Ev cx 149 nm [.int .i64 n,.int .i64 a,.int .i64 b] ao.nil (.bool (decide (a<=n)&&decide (n<=b))) []:=by
 cases h:decide (a<=n)<;>(
  refine aX call149 func149 ?_;intro b0 hb0
  (repeat' first|simp only[au,ap,results149,ntmps149,am,h,ge_iff_le,Bool.false_and,Bool.true_and,aj,ai,seval]|exact rfl|refine aa (v:=.any) ?_|((first|apply Ca|apply Cb)<;>intro hb)|refine Ai (by omega) ?_|(apply Ai<;>intro hb)|apply Fin.pure|simp only[aq]))
def yO (n:Nat)(h:n<=9007199254740991)(nm:Nat):Ev cx 116 nm [.int .i64 n] ao.nil (.tup [.str (dC n),.int .i64 0]) []:=by
 have d1:decide ((0:Int)<=(n:Int))=true:=dh
 have d2:decide ((n:Int)<=9007199254740991)=true:=dh
 have hf:=BW n 0 9007199254740991
 rw[d1,d2]at hf
 have hi:=Gv n (by omega)
 rw[rS n n (Nat.le_refl _)]at hi
 refine aX call116 func116 ?_;intro b0 hb0
 exact wP (a2 results116 ntmps116) (a2 hf hi)
def yP (n:Int)(h:¬(0<=n/\n<=9007199254740991))(nm:Nat):Ev cx 116 nm [.int .i64 n] ao.nil (.tup [.str [],.int .i64 2]) []:=by
 have hd:(decide ((0:Int)<=n)&&decide (n<=9007199254740991))=false:=by
  rw[Bool.and_eq_false_iff,decide_eq_false_iff_not,decide_eq_false_iff_not];omega
 have hf:=BW n 0 9007199254740991
 rw[hd]at hf
 refine aX call116 func116 ?_;intro b0 hb0
 exact wP (a2 results116 ntmps116) hf
def oz:List UInt8:=[48,49,50,51,52,53,54,55,56,57,97,98,99,100,101,102]
section
variable (u:Bool) (q y p:Nat) (bs:List UInt8) (M:ao) (nm:Nat)
end
end Go.Proofs.YtjonibipieofcaaGreatDoor
