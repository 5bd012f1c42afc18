/-
 Texts joined: XCs,XCe,XCa,XCc,XCb,XCd.
-/
import Derived.Shelf.Strconv.Itoa0
import Derived.Shelf.Strconv.Itoa2
import Derived.Lib.ItoaMem
import Derived.Lib.ItoaNum
import Derived.Test.YtnnbggkpgacdiaaDoorQf
import Derived.Test.YtnnbggkpgacdiaaDoorQe
import Derived.Test.YtnnbggkpgacdiaaDoorQg
import Derived.Test.YtnnbggkpgacdiaaDoorQh
namespace Go.Proofs
set_option linter.unusedSimpArgs false
set_option linter.unusedVariables false
open Go.Shelf
open Go.RowKit Go.Sort Go.Lib
def Tryd.lays129_ren:Go.Shelf.Ren:=⟨fun|129=>50|n=>n,fun|53=>83|3=>3|4=>4|46=>27|5=>5|9=>9|n=>n,fun|n=>n⟩
theorem Tryd.lays129:Go.Proofs.Lays.n129 Tryd.prog Tryd.lays129_ren:={
 mixed:=by kernel_rfl
 f129:=Tryd.func50.trans (congrArg some (by kernel_rfl))
 t3:=Tryd.underlying3
 a3:=Tryd.isAgg3
 z3:=Tryd.sizeOf3
 v3:=Tryd.zeroValue3
 t4:=Tryd.underlying4
 a4:=Tryd.isAgg4
 z4:=Tryd.sizeOf4
 v4:=Tryd.zeroValue4
 t5:=Tryd.underlying5
 a5:=Tryd.isAgg5
 z5:=Tryd.sizeOf5
 v5:=Tryd.zeroValue5
 t9:=Tryd.underlying9
 a9:=Tryd.isAgg9
 z9:=Tryd.sizeOf9
 v9:=Tryd.zeroValue9
 t46:=Tryd.underlying27
 a46:=Tryd.isAgg27
 z46:=Tryd.sizeOf27
 v46:=Tryd.zeroValue27
 t53:=Tryd.underlying83
 a53:=Tryd.isAgg83
 z53:=Tryd.sizeOf83
 v53:=Tryd.zeroValue83 }
theorem Tryd.bits_Len64 (x:Int)(w:World)(h0:0≤x)(h1:x≤18446744073709551615) :
  Calls Tryd.prog 50 #[.int .u64 x] w fun e w'=>e = .returned (.int .i64 (Lib.bitLen x.toNat))∧w'=w:=Any.bits_Len64 Tryd.lays129 x w h0 h1
def Tryd.lays285_ren:Go.Shelf.Ren:=⟨fun|285=>41|n=>n,fun|37=>28|53=>83|3=>3|4=>4|51=>53|9=>9|5=>5|0=>0|n=>n,fun|n=>n⟩
theorem Tryd.lays285:Go.Proofs.Lays.n285 Tryd.prog Tryd.lays285_ren:={
 mixed:=by kernel_rfl
 f285:=Tryd.func41.trans (congrArg some (by kernel_rfl))
 t0:=Tryd.underlying0
 a0:=Tryd.isAgg0
 z0:=Tryd.sizeOf0
 v0:=Tryd.zeroValue0
 t3:=Tryd.underlying3
 a3:=Tryd.isAgg3
 z3:=Tryd.sizeOf3
 v3:=Tryd.zeroValue3
 t4:=Tryd.underlying4
 a4:=Tryd.isAgg4
 z4:=Tryd.sizeOf4
 v4:=Tryd.zeroValue4
 t5:=Tryd.underlying5
 a5:=Tryd.isAgg5
 z5:=Tryd.sizeOf5
 v5:=Tryd.zeroValue5
 t9:=Tryd.underlying9
 a9:=Tryd.isAgg9
 z9:=Tryd.sizeOf9
 v9:=Tryd.zeroValue9
 t37:=Tryd.underlying28
 a37:=Tryd.isAgg28
 z37:=Tryd.sizeOf28
 v37:=Tryd.zeroValue28
 t51:=Tryd.underlying53
 a51:=Tryd.isAgg53
 z51:=Tryd.sizeOf53
 v51:=Tryd.zeroValue53
 t53:=Tryd.underlying83
 a53:=Tryd.isAgg83
 z53:=Tryd.sizeOf83
 v53:=Tryd.zeroValue83 }
theorem Tryd.internal_strconv_formatBase10 (blk off cap:Nat)(u:Nat)(d:Array UInt8)(w:World)(hH:Holds (fun (b:UInt8)=>Value.int .u8 (b.toNat:Int)) w blk off d)(hu:u<10 ^ d.size)(hu64:u<18446744073709551616)(hsz:d.size<4611686018427387904) :
  Calls Tryd.prog 41 #[.slice (some ⟨blk,off,none⟩) d.size cap,.int .u64 u] w fun e w' =>
   e = .returned (.tuple #[]) ∧ ∃(n v':Nat) (dk:Array UInt8),w'=(putRow (fun (b:UInt8)=>Value.int .u8 (b.toNat:Int)) w blk off dk).drewN n∧FmtInv d.size u 0 v' dk:=Any.internal_strconv_formatBase10 Tryd.lays285 blk off cap u d w hH hu hu64 hsz
end Go.Proofs
namespace Go.Proofs.YtnnbggkpgacdiaaDoor
set_option linter.unusedSimpArgs false
set_option linter.unusedVariables false
open Go Go.RowKit Vm Go.Lib Tryd
open Vm renaming cond_bool→Ca,cond_bit→Cb
open And renaming intro→Ai
open List renaming length_map→Lm,not_mem_nil→Ln,map_nil→Lo,map_cons→Lc,mem_cons→Lk
open Bool renaming not_false→Bf,not_true→Bt
def itoaU (n:Nat):List UInt8:=if n<10 then [(48+n).toUInt8] else [(48+n / 10).toUInt8,(48+n % 10).toUInt8]
def digitsU:List UInt8:=[48,49,50,51,52,53,54,55,56,57,97,98,99,100,101,102,103,104,105,106,107,108,109,110,111,112,113,114,115,116,117,118,119,120,121,122]
def smallsU:List UInt8:=[48,48,48,49,48,50,48,51,48,52,48,53,48,54,48,55,48,56,48,57,49,48,49,49,49,50,49,51,49,52,49,53,49,54,49,55,49,56,49,57,50,48,50,49,50,50,50,51,50,52,50,53,50,54,50,55,50,56,50,57,51,48,51,49,51,50,51,51,51,52,51,53,51,54,51,55,51,56,51,57,52,48,52,49,52,50,52,51,52,52,52,53,52,54,52,55,52,56,52,57,53,48,53,49,53,50,53,51,53,52,53,53,53,54,53,55,53,56,53,57,54,48,54,49,54,50,54,51,54,52,54,53,54,54,54,55,54,56,54,57,55,48,55,49,55,50,55,51,55,52,55,53,55,54,55,55,55,56,55,57,56,48,56,49,56,50,56,51,56,52,56,53,56,54,56,55,56,56,56,57,57,48,57,49,57,50,57,51,57,52,57,53,57,54,57,55,57,56,57,57]
theorem small_lo:∀ i,i<10→(digitsU.drop i).take (i+1-i)=itoaU i:=by decide +kernel
theorem small_hi:∀ i,i<100 → ¬ i<10→(smallsU.drop (i*2)).take (i*2+2-i*2)=itoaU i:=by decide +kernel
set_option maxRecDepth 100000 in
theorem small_ev (i:Nat)(hi:i<100)(nm:Nat):Ev cx 39 nm [.int .i64 i] Mem.nil (.str (itoaU i)) []:=by
 by_cases h:i<10
 ·have d1:decide ((i:Int)<10)=true:=decide_eq_true (by omega)
  have d2:IntKind.i64.wrap ((i:Int)+1)=((i+1:Nat):Int):=wrap_in (by omega) (by omega)
  have d3:(i:Int)≤((i+1:Nat):Int):=by omega
  have hz:=small_lo i h
  unfold digitsU at hz
  refine ev_go rfl (fun cargs w=>call39 cargs w) func39 rfl mixed (by kernel_rfl) rfl ?_;intro b0 hb0
  (repeat' first|simp only[fins,mems,results39,ntmps39,wks,d1,d2,hz,List.length_cons,List.length_nil,vcs,seval,tys]|exact rfl|refine call_off (v:=.any) ?_|((first|apply Ca|apply Cb)<;>intro hb)|refine Ai (by omega) ?_|(apply Ai<;>intro hb)|refine Fin.pure ?_ ?_ ?_|simp only[injs])
 ·have d1:decide ((i:Int)<10)=false:=decide_eq_false (by omega)
  have d2:IntKind.i64.wrap ((i:Int)*2)=((i*2:Nat):Int):=wrap_in (by omega) (by omega)
  have d3:IntKind.i64.wrap (((i*2:Nat):Int)+2)=((i*2+2:Nat):Int):=wrap_in (by omega) (by omega)
  have hz:=small_hi i hi h
  unfold smallsU at hz
  refine ev_go rfl (fun cargs w=>call39 cargs w) func39 rfl mixed (by kernel_rfl) rfl ?_;intro b0 hb0
  (repeat' first|simp only[fins,mems,results39,ntmps39,wks,d1,d2,d3,hz,List.append_eq,List.cons_append,List.nil_append,List.length_cons,List.length_nil,vcs,seval,tys]|exact rfl|refine call_off (v:=.any) ?_|((first|apply Ca|apply Cb)<;>intro hb)|refine Ai (by omega) ?_|(apply Ai<;>intro hb)|refine Fin.pure ?_ ?_ ?_|simp only[injs])
theorem fmt_ev (i:Nat)(hi:i<100)(nm:Nat):Ev cx 31 nm [.int .i64 i,.int .i64 10] Mem.nil (.str (itoaU i)) []:=by
 have d1:decide ((0:Int)≤(i:Int))=true:=decide_eq_true (by omega)
 have d2:decide ((i:Int)<100)=true:=decide_eq_true (by omega)
 refine ev_go rfl (fun cargs w=>call31 cargs w) func31 rfl mixed (by kernel_rfl) rfl ?_;intro b0 hb0
 (repeat' first|simp only[fins,mems,results31,ntmps31,wks,d1,d2,vcs,seval,tys]|exact rfl|refine call_off (v:=.any) ?_|(first|(refine call_fn ?_ (small_ev i hi _) ?_)|(refine call_fn_g ?_ (fun _=>small_ev i hi _) ?_))|((first|apply Ca|apply Cb)<;>intro hb)|refine Ai (by omega) ?_|(apply Ai<;>intro hb)|refine Fin.pure ?_ ?_ ?_|simp only[injs])
end Go.Proofs.YtnnbggkpgacdiaaDoor
namespace Go.Proofs.YtnnbggkpgacdiaaDoor
set_option linter.unusedSimpArgs false
set_option linter.unusedVariables false
open Go Go.RowKit Vm Go.Lib Tryd
open Vm renaming cond_bool→Ca,cond_bit→Cb
open And renaming intro→Ai
open List renaming length_map→Lm,not_mem_nil→Ln,map_nil→Lo,map_cons→Lc,mem_cons→Lk
open Bool renaming not_false→Bf,not_true→Bt
open Go.Sort
set_option maxRecDepth 100000 in
theorem log10_calls (x:Nat)(h:x≤64)(w:World):Calls Tryd.prog 49 #[.int .i64 x] w fun e w'=>e = .returned (.int .i64 (l10 x))∧w'=w:=by
 go_enter func49,ntmps49
 go_wp2
 go_ret
 refine⟨congrArg (fun z=>Ending.returned (.int .i64 z)) ?_,rfl⟩
 unfold l10
 omega
theorem bool2_calls (b:Bool)(w:World):Calls Tryd.prog 51 #[.bool b] w fun e w'=>e = .returned (.int .i64 (if b then 1 else 0))∧w'=w:=by
 cases b <;>
 ·go_enter func51,ntmps51
  go_wp2
  go_ret
  exact⟨rfl,rfl⟩
def TensAt (w:World):Prop:=∀ i,i<20→w.cell? ⟨0,i,none⟩=some (.int .u64 ((10 ^ i:Nat):Int))
set_option maxRecDepth 100000 in
theorem numDig_calls (u:Nat)(h1:1≤u)(h2:u<18446744073709551616)(w:World)(hT:TensAt w) :
  Calls Tryd.prog 40 #[.int .u64 u] w fun e w'=>e = .returned (.int .i64 (nDigits u))∧w'=w:=by
 obtain⟨n1,n2⟩:=numDigits_eq u h1 h2
 have hb:Lib.bitLen u≤64:=bitLen_le u 64 (Nat.le_refl _) h2
 have hu:((u:Int)).toNat=u:=Int.toNat_natCast u
 have hc:=hT (l10 (Lib.bitLen u)) (by omega)
 have hlen:=Tryd.bits_Len64 u w (by omega) (by omega)
 rw[hu]at hlen
 have hlog:=log10_calls (Lib.bitLen u) hb w
 clear hT
 generalize l10 (Lib.bitLen u)=q at *
 generalize 10 ^ q=T at *
 go_enter func40,ntmps40
 go_wp2_with (first
  |(refine hlen.mono ?_;rintro e w' ⟨rfl,rfl⟩)
  |(refine hlog.mono ?_;rintro e w' ⟨rfl,rfl⟩)
  |(refine(bool2_calls _ _).mono ?_;rintro e w' ⟨rfl,rfl⟩))
 all_goals go_ret
 ·rw[if_pos ‹_›]at n1
  exact⟨by rw[← n1];simp,rfl⟩
 ·rw[if_neg ‹_›]at n1
  exact⟨by rw[← n1];simp,rfl⟩
set_option maxRecDepth 100000 in
theorem fmt_calls (u:Nat)(h1:100≤u)(h2:u<9223372036854775808)(w:World)(hT:TensAt w)(hg:0<w.heap.size) :
  Calls Tryd.prog 31 #[.int .i64 u,.int .i64 10] w fun e w'=>e = .returned (.string ⟨(decDigits u).toArray⟩) ∧ ∃ k os,w'=grow (w.drewN k) os:=by
 have hn20:nDigits u≤20:=(by have:=numDigits_eq u (by omega) (by omega);split at this<;>omega)
 have hH:=holds_zero w 82 (nDigits u) (by omega)
 have hT2:TensAt (w.alloc (.cells zeros24 82)):=fun i hi=>by rw[World.cell?_alloc_lt _ _ ⟨_,_,none⟩ hg];exact hT i hi
 have hfmt:=Tryd.internal_strconv_formatBase10 w.heap.size 1 23 u (Array.replicate (nDigits u) 0) (w.alloc (.cells zeros24 82)) hH (by rw[Array.size_replicate];exact lt_pow_nDigits u) (by omega) (by rw[Array.size_replicate];omega)
 rw[Array.size_replicate]at hfmt
 have hnum:=numDig_calls u (by omega) (by omega) _ hT2
 have hal:Tryd.prog.arrayLen 82=24:=by kernel_rfl
 have hsl:∀ W,(Instr.sliceAt 82 (.pointer (some ⟨w.heap.size,0,none⟩)) (some (.int .i64 1)) (some (.int .i64 (1+(nDigits u:Int)))) none).run Tryd.prog W = .ok (.slice (some ⟨w.heap.size,1,none⟩) (nDigits u) 23) W:=fun W=>by
  rw[run_sliceAt_array_lh W 82 ⟨w.heap.size,0,none⟩ (by kernel_rfl) .i64 .i64 1 (1+(nDigits u:Int)) (by omega) (by omega) (by rw[hal];omega)]
  rw[show(Sem.run Tryd.prog (sizeOf (Tryd.prog.elem 82)) W) = .ok 1 W by kernel_rfl]
  simp only[Result.andThen,slicedAt,hal]
  rw[if_neg (by decide),show(1+(nDigits u:Int)).toNat-Int.toNat 1=nDigits u by omega]
  rfl
 go_enter func31,ntmps31
 go_wp2_with (first
  |(refine hnum.mono ?_;rintro e w' ⟨rfl,rfl⟩)
  |(refine hfmt.mono ?_;rintro e w' ⟨rfl,k,v',dk,rfl,hF⟩))
 have hcv:(convert 28 9 (.slice (some ⟨w.heap.size,1,none⟩) (nDigits u) 23)).run Tryd.prog ((putRow (fun (b:UInt8)=>Value.int .u8 (b.toNat:Int)) (w.alloc (.cells zeros24 82)) w.heap.size 1 dk).drewN k) = .ok (.string ⟨(decDigits u).toArray⟩) ((putRow (fun (b:UInt8)=>Value.int .u8 (b.toNat:Int)) (w.alloc (.cells zeros24 82)) w.heap.size 1 dk).drewN k):=by
  have hx:=run_convert_bytes_back (P:=Tryd.prog) ((putRow (fun (b:UInt8)=>Value.int .u8 (b.toNat:Int)) (w.alloc (.cells zeros24 82)) w.heap.size 1 dk).drewN k) 28 9 5 ⟨w.heap.size,1,none⟩ 23 (decDigits u) Tryd.underlying28 Tryd.underlying5 Tryd.underlying9 (fun j hj=>by
   rw[row_is_numeral hF j hj,Lib.add_plain,World.cell?_drewN]
   exact cell?_putRow _ _ _ 1 _ dk hH (by rw[hF.size,Array.size_replicate]) j (by rw[hF.size];rw[decDigits_length]at hj;exact hj))
  rw[decDigits_length]at hx
  exact hx
 rw[hcv]
 go_wp2
 go_ret
 obtain⟨os,eo⟩:=fin_pos w (.cells zeros24 82) dk k
 exact⟨rfl,k,os,eo⟩
theorem tens_at {X:Nat→Prop}{w0:World}{I:Nat→Prop}{ρ:Names}{M:Mem}{w:World}(h:Rel cx.G X w0 I ρ M w):TensAt w∧0<w.heap.size:=by
 have hq:=h.glob 0
 rw[show cx.G 0=tensV from rfl]at hq
 unfold tensV at hq
 cases hq with
 | rp cv _ hb hc hu =>
  refine⟨fun i hi=>?_,hb⟩
  have hi':(pow10Tab.map fun z=>V.int .u64 z)[i]? = some (.int .u64 ((10 ^ i:Nat):Int)):=by
   rw[List.getElem?_map]
   unfold pow10Tab
   rw[List.getElem?_map,List.getElem?_range hi]
   rfl
  have a1:=hc i _ hi'
  have a2:=hu i _ hi'
  rw[Nat.zero_add]at a1
  generalize cv i=x at a1 a2
  cases a2
  exact a1
theorem fmt100_ev (u:Nat)(h1:100≤u)(h2:u<9223372036854775808)(nm:Nat):Ev cx 31 nm [.int .i64 u,.int .i64 10] Mem.nil (.str (decDigits u)) []:=by
 refine⟨trivial,fun X w ρ cargs B hr hfr hB hlen hargs=>?_⟩
 match cargs,hlen,hargs with
 |⟨[v0,v1]⟩,hlen2,hargs =>
 have e0:=hargs 0 _ v0 rfl rfl
 have e1:=hargs 1 _ v1 rfl rfl
 cases e0
 cases e1
 obtain⟨t1,t2⟩:=tens_at hr
 refine .inl ⟨call31 _ _,(fmt_calls u h1 h2 w t1 t2).mono ?_⟩
 rintro e w' ⟨rfl,k,os,rfl⟩
 obtain⟨r1,m1⟩:=hr.grow (w':=grow (w.drewN k) os) (by simp[grow,World.drewN]) rfl rfl rfl (fun b hb=>by simp only[grow,World.drewN];exact Array.getElem?_append_left hb)
 exact⟨_,rfl,ρ,r1,m1,.str _,fun _ _=>rfl⟩
theorem itoaU_dec:∀ i,i<100→itoaU i=decDigits i:=by
 intro i hi
 by_cases h:i<10
 ·rw[decDigits_one h]
  have:∀ i,i<10→itoaU i=[UInt8.ofNat (48+i)]:=by decide +kernel
  exact this i h
 ·rw[decDigits_two h hi]
  have:∀ i,i<100 → ¬ i<10→itoaU i=[UInt8.ofNat (48+i / 10),UInt8.ofNat (48+i % 10)]:=by decide +kernel
  exact this i hi h
theorem fmtD_ev (u:Nat)(h2:u<9223372036854775808)(nm:Nat):Ev cx 31 nm [.int .i64 u,.int .i64 10] Mem.nil (.str (decDigits u)) []:=by
 by_cases h:u<100
 ·rw[← itoaU_dec u h];exact fmt_ev u h nm
 ·exact fmt100_ev u (by omega) h2 nm
theorem itoaID_ev (u:Nat)(h:u<9223372036854775808)(nm:Nat):Ev cx 22 nm [.int .i64 u] Mem.nil (.str (decDigits u)) []:=by
 refine ev_go rfl (fun cargs w=>call22 cargs w) func22 rfl mixed (by kernel_rfl) rfl ?_;intro b0 hb0
 (repeat' first|simp only[fins,mems,results22,ntmps22,wks,vcs,seval,tys]|exact rfl|refine call_off (v:=.any) ?_|(first|(refine call_fn ?_ (fmtD_ev u h _) ?_)|(refine call_fn_g ?_ (fun _=>fmtD_ev u h _) ?_))|((first|apply Ca|apply Cb)<;>intro hb)|refine Ai (by omega) ?_|(apply Ai<;>intro hb)|refine Fin.pure ?_ ?_ ?_|simp only[injs])
theorem itoaD_ev (u:Nat)(h:u<9223372036854775808)(nm:Nat):Ev cx 13 nm [.int .i64 u] Mem.nil (.str (decDigits u)) []:=by
 refine ev_go rfl (fun cargs w=>call13 cargs w) func13 rfl mixed (by kernel_rfl) rfl ?_;intro b0 hb0
 (repeat' first|simp only[fins,mems,results13,ntmps13,wks,vcs,seval,tys]|exact rfl|refine call_off (v:=.any) ?_|(first|(refine call_fn ?_ (itoaID_ev u h _) ?_)|(refine call_fn_g ?_ (fun _=>itoaID_ev u h _) ?_))|((first|apply Ca|apply Cb)<;>intro hb)|refine Ai (by omega) ?_|(apply Ai<;>intro hb)|refine Fin.pure ?_ ?_ ?_|simp only[injs])
end Go.Proofs.YtnnbggkpgacdiaaDoor
namespace Go.Proofs.YtnnbggkpgacdiaaDoor
set_option linter.unusedSimpArgs false
set_option linter.unusedVariables false
open Go Go.RowKit Go.Lib
def hxD (d:Nat):UInt8:=if d<10 then UInt8.ofNat (48+d) else UInt8.ofNat (87+d)
def hxB (x:UInt8):List UInt8:=[hxD (x.toNat / 16),hxD (x.toNat % 16)]
def hxL (bs:List UInt8):List UInt8:=bs.flatMap hxB
def noZ:List UInt8→List UInt8
 | []=>[]
 | c::r=>if c=48 then noZ r else c::r
def upC (g:Bool)(c:UInt8):UInt8:=if g=true∧97≤c.toNat then UInt8.ofNat (c.toNat-32) else c
theorem hxD_hex:∀(g:Bool) (d:Fin 16),hexD (upC g (hxD d.val))=some d.val:=by decide +kernel
theorem hxD_48:∀ d:Fin 16,hxD d.val=48↔d.val=0:=by decide +kernel
def sixL (n:Nat):List Nat:=[n / 1048576 % 16,n / 65536 % 16,n / 4096 % 16,n / 256 % 16,n / 16 % 16,n % 16]
theorem sixL_lt {n d:Nat}(h:d∈sixL n):d<16:=by
 simp only[sixL,List.mem_cons,List.not_mem_nil,or_false]at h
 omega
def bytes3 (n:Nat):List UInt8:=[UInt8.ofNat (n / 65536),UInt8.ofNat (n / 256),UInt8.ofNat n]
theorem hxL_six (n:Nat)(h:n<16777216):hxL (bytes3 n)=(sixL n).map hxD:=by
 simp only[hxL,bytes3,hxB,sixL,List.flatMap_cons,List.flatMap_nil,List.cons_append,List.nil_append,List.map_cons,List.map_nil,List.append_nil,UInt8.toNat_ofNat']
 rw[show n / 65536 % 2 ^ 8 / 16=n / 1048576 % 16 by omega,show n / 65536 % 2 ^ 8 % 16=n / 65536 % 16 by omega,show n / 256 % 2 ^ 8 / 16=n / 4096 % 16 by omega,show n / 256 % 2 ^ 8 % 16=n / 256 % 16 by omega,show n % 2 ^ 8 / 16=n / 16 % 16 by omega,show n % 2 ^ 8 % 16=n % 16 by omega]
theorem hexV_ds (g:Bool):∀(ds:List Nat) (m:Nat),(∀ d∈ds,d<16)→hexV m ((ds.map hxD).map (upC g))=some (ds.foldl (fun a d=>16*a+d) m)
 | [],m,_=>rfl
 | d::ds,m,h=>by
  have hd:=hxD_hex g ⟨d,h d (List.mem_cons_self ..)⟩
  simp only at hd
  simp only[List.map_cons,hexV,hd,List.foldl_cons]
  exact hexV_ds g ds _ (fun x hx=>h x (List.mem_cons_of_mem _ hx))
def noz:List Nat→List Nat
 | []=>[]
 | d::r=>if d=0 then noz r else d::r
theorem noZ_map:∀ ds:List Nat,(∀ d∈ds,d<16)→noZ (ds.map hxD)=(noz ds).map hxD
 | [],_=>rfl
 | d::ds,h=>by
  have e:=hxD_48 ⟨d,h d (List.mem_cons_self ..)⟩
  simp only at e
  simp only[List.map_cons,noZ,noz,e]
  split
  ·exact noZ_map ds (fun x hx=>h x (List.mem_cons_of_mem _ hx))
  ·rfl
theorem noz_fold:∀ ds:List Nat,(noz ds).foldl (fun a d=>16*a+d) 0=ds.foldl (fun a d=>16*a+d) 0
 | []=>rfl
 | d::ds=>by
  unfold noz
  split
  ·rename_i h;subst h;exact noz_fold ds
  ·rfl
theorem noz_mem:∀ {ds:List Nat} {d:Nat},d∈noz ds→d∈ds
 | x::ds,d,h=>by
  unfold noz at h
  split at h
  ·exact List.mem_cons_of_mem _ (noz_mem h)
  ·exact h
theorem noz_len:∀ ds:List Nat,(noz ds).length≤ds.length
 | []=>Nat.le_refl _
 | d::ds=>by
  unfold noz
  split
  ·have:=noz_len ds;simp only[List.length_cons];omega
  ·exact Nat.le_refl _
theorem noz_head:∀ ds:List Nat,noz ds=[] ∨ ∃ d r,noz ds=d::r∧d≠0
 | []=>.inl rfl
 | d::ds=>by
  unfold noz
  split
  ·exact noz_head ds
  ·exact .inr ⟨d,ds,rfl,‹_›⟩
theorem six_fold (n:Nat)(h:n<16777216):(sixL n).foldl (fun a d=>16*a+d) 0=n:=by
 simp only[sixL,List.foldl_cons,List.foldl_nil]
 omega
def hexT (g:Bool)(n:Nat):List UInt8:=(noZ (hxL (bytes3 n))).map (upC g)
theorem hexT_eq (g:Bool){n:Nat}(h:n<16777216):hexT g n=((noz (sixL n)).map hxD).map (upC g):=by
 unfold hexT
 rw[hxL_six n h,noZ_map _ (fun d=>sixL_lt)]
theorem hexT_read (g:Bool){n:Nat}(h0:1≤n)(h:n<16777216):hexL (hexT g n)=some n:=by
  have hv:=hexV_ds g (noz (sixL n)) 0 (fun d hd=>sixL_lt (noz_mem hd))
  rw[noz_fold,six_fold n h,← hexT_eq g h]at hv
  unfold hexL
  rw[if_neg,hv]
  rintro (e|e|e)
  · rw[e]at hv
    simp only[hexV,Option.some.injEq]at hv
    omega
  · rw[hexT_eq g h]at e
    have hl:=noz_len (sixL n)
    rw[show(sixL n).length=6 from rfl]at hl
    simp only[List.length_map]at e
    omega
  · rw[hexT_eq g h]at e
    rcases noz_head (sixL n) with h2|⟨d,r,h2,h3⟩
    · rw[h2]at e;cases e
    · rw[h2]at e
      simp only[List.map_cons,List.head?_cons,Option.some.injEq]at e
      have hd:d<16:=sixL_lt (noz_mem (by rw[h2];exact List.mem_cons_self ..))
      have hx:=hxD_hex g ⟨d,hd⟩
      simp only[e]at hx
      exact h3 (by have:hexD 48=some 0:=by decide
                   rw[this]at hx;exact(Option.some.inj hx).symm)
theorem hexT_len (g:Bool){n:Nat}(h:n<16777216):(hexT g n).length≤6:=by
 rw[hexT_eq g h]
 have hl:=noz_len (sixL n)
 rw[show(sixL n).length=6 from rfl]at hl
 simp only[List.length_map]
 exact hl
theorem dec_digits:∀(k n:Nat),n≤k→decDigits n=digitsL n
 | k,n,hk=>by
  by_cases h:n<10
  ·rw[decDigits_one h,digits_low (by omega)]
  ·rw[digits_high (by omega)]
   rw[decDigits,dif_neg h]
   cases k with
   | zero=>omega
   | succ k=>rw[dec_digits k (n / 10) (by omega)]
theorem digits_char:∀(k n:Nat),n≤k → ∀ c∈digitsL n,48≤c.toNat∧c.toNat≤57
 | k,n,hk,c,hc=>by
  by_cases h:n≤9
  ·rw[digits_low h]at hc
   simp only[List.mem_singleton]at hc
   subst hc
   simp only[UInt8.toNat_ofNat'];omega
  ·rw[digits_high (by omega)]at hc
   rcases List.mem_append.1 hc with hc|hc
   ·cases k with
    | zero=>omega
    | succ k=>exact digits_char k (n / 10) (by omega) c hc
   ·simp only[List.mem_singleton]at hc
    subst hc
    simp only[UInt8.toNat_ofNat'];omega
theorem digits_len:∀(k n:Nat),n<10 ^ (k+1)→(digitsL n).length≤k+1
 | 0,n,h=>by rw[digits_low (by omega)];simp
 | k+1,n,h=>by
  by_cases h9:n≤9
  ·rw[digits_low h9];simp
  ·rw[digits_high (by omega)]
   have:=digits_len k (n / 10) (by rw[Nat.pow_succ]at h;omega)
   simp only[List.length_append,List.length_cons,List.length_nil]
   omega
theorem digits_read {n:Nat}(h0:1≤n)(h:n≤9007199254740991):decL (digitsL n)=some n:=by
 have hv:=digits_decV n n (Nat.le_refl _)
 have hl:=digits_len 15 n (by omega)
 unfold decL
 rw[if_neg,hv]
 ·simp only[Option.bind_some];rw[if_pos h]
 ·rintro (e|e|⟨e,_⟩)
  ·exact digits_ne n e
  ·omega
  ·exact digits_head n n (Nat.le_refl _) (by omega) e
end Go.Proofs.YtnnbggkpgacdiaaDoor
namespace Go.Proofs.YtnnbggkpgacdiaaDoor
set_option linter.unusedSimpArgs false
set_option linter.unusedVariables false
open Go Go.RowKit Vm Go.Lib Tryd
open Vm renaming cond_bool→Ca,cond_bit→Cb
open And renaming intro→Ai
open List renaming length_map→Lm,not_mem_nil→Ln,map_nil→Lo,map_cons→Lc,mem_cons→Lk
open Bool renaming not_false→Bf,not_true→Bt
theorem from_ev (n a b:Int)(nm:Nat):Ev cx 12 nm [.int .i64 n,.int .i64 a,.int .i64 b] Mem.nil (.bool (decide (a≤n)&&decide (n≤b))) []:=by
 cases h:decide (a≤n)<;>(
  refine ev_go rfl (fun cargs w=>call12 cargs w) func12 rfl mixed (by kernel_rfl) rfl ?_;intro b0 hb0
  (repeat' first|simp only[fins,mems,results12,ntmps12,wks,h,ge_iff_le,Bool.false_and,Bool.true_and,vcs,seval,tys]|exact rfl|refine call_off (v:=.any) ?_|((first|apply Ca|apply Cb)<;>intro hb)|refine Ai (by omega) ?_|(apply Ai<;>intro hb)|refine Fin.pure ?_ ?_ ?_|simp only[injs]))
set_option maxRecDepth 100000 in
theorem numWrite_ev (n:Nat)(h:n≤9007199254740991)(nm:Nat):Ev cx 5 nm [.int .i64 n] Mem.nil (.tup [.str (digitsL n),.int .i64 0]) []:=by
 have d1:decide ((0:Int)≤(n:Int))=true:=decide_eq_true (by omega)
 have d2:decide ((n:Int)≤9007199254740991)=true:=decide_eq_true (by omega)
 have hf:=from_ev n 0 9007199254740991
 rw[d1,d2]at hf
 have hi:=itoaD_ev n (by omega)
 rw[dec_digits n n (Nat.le_refl _)]at hi
 refine ev_go rfl (fun cargs w=>call5 cargs w) func5 rfl mixed (by kernel_rfl) rfl ?_;intro b0 hb0
 (repeat' first|simp only[fins,mems,results5,ntmps5,wks,Bool.and_self,Bt,vcs,seval,tys]|exact rfl|refine call_off (v:=.any) ?_|(first|(refine call_fn ?_ (hf _) ?_)|(refine call_fn_g ?_ (fun _=>hf _) ?_)|(refine call_fn ?_ (hi _) ?_)|(refine call_fn_g ?_ (fun _=>hi _) ?_))|((first|apply Ca|apply Cb)<;>intro hb)|refine Ai (by omega) ?_|(apply Ai<;>intro hb)|refine Fin.pure ?_ ?_ ?_|simp only[injs])
set_option maxRecDepth 100000 in
theorem numWrite_no (n:Int)(h:¬(0≤n∧n≤9007199254740991))(nm:Nat):Ev cx 5 nm [.int .i64 n] Mem.nil (.tup [.str [],.int .i64 2]) []:=by
 have hd:(decide ((0:Int)≤n)&&decide (n≤9007199254740991))=false:=by
  rw[Bool.and_eq_false_iff,decide_eq_false_iff_not,decide_eq_false_iff_not];omega
 have hf:=from_ev n 0 9007199254740991
 rw[hd]at hf
 refine ev_go rfl (fun cargs w=>call5 cargs w) func5 rfl mixed (by kernel_rfl) rfl ?_;intro b0 hb0
 (repeat' first|simp only[fins,mems,results5,ntmps5,wks,Bf,vcs,seval,tys]|exact rfl|refine call_off (v:=.any) ?_|(first|(refine call_fn ?_ (hf _) ?_)|(refine call_fn_g ?_ (fun _=>hf _) ?_))|((first|apply Ca|apply Cb)<;>intro hb)|refine Ai (by omega) ?_|(apply Ai<;>intro hb)|refine Fin.pure ?_ ?_ ?_|simp only[injs])
def hexDigs:List UInt8:=[48,49,50,51,52,53,54,55,56,57,97,98,99,100,101,102]
theorem hexDigs_at:∀ d:Fin 16,hexDigs[d.val]? = some (hxD d.val):=by decide +kernel
theorem nib_hi:∀ x:Fin 256,((x.val:Int)).fdiv (2 ^ min 4 IntKind.u8.bits)=((x.val / 16:Nat):Int):=by decide +kernel
theorem nib_lo:∀ x:Fin 256,IntKind.u8.wrap ((BitVec.ofInt IntKind.u8.bits (x.val:Int) &&& BitVec.ofInt IntKind.u8.bits 15).toNat:Int)=((x.val % 16:Nat):Int):=by decide +kernel
set_option maxRecDepth 100000 in
theorem pair_ev (x:UInt8)(nm:Nat):Ev cx 14 nm [.int .u8 x.toNat] Mem.nil (.agg [.int .u8 (hxD (x.toNat / 16)).toNat,.int .u8 (hxD (x.toNat % 16)).toNat]) []:=by
 have h1:=hexDigs_at ⟨x.toNat / 16,by have:=x.toNat_lt;omega⟩
 have h2:=hexDigs_at ⟨x.toNat % 16,by omega⟩
 have e1:=nib_hi ⟨x.toNat,x.toNat_lt⟩
 have e2:=nib_lo ⟨x.toNat,x.toNat_lt⟩
 have e3:x.toNat / 16<16:=by have:=x.toNat_lt;omega
 have e4:x.toNat % 16<16:=by omega
 simp only[hexDigs]at h1 h2 e1 e2
 refine ev_go rfl (fun cargs w=>call14 cargs w) func14 rfl mixed (by kernel_rfl) rfl ?_;intro b0 hb0
 (repeat' first|simp only[fins,mems,results14,ntmps14,wks,h1,h2,e1,e2,e3,e4,Int.toNat_natCast,Option.getD_some,vcs,seval,tys]|exact rfl|refine call_off (v:=.any) ?_|refine draw_end (by decide +kernel) ?_|((first|apply Ca|apply Cb)<;>intro hb)|refine Ai (by omega) ?_|(apply Ai<;>intro hb)|refine Fin.pure ?_ ?_ ?_|simp only[injs])
theorem ty_u8:Vm.ty cx.P 5=some (1,false):=by kernel_rfl
theorem ren_pl (σ:List (Nat×Nat))(bs:List UInt8):Blk.ren σ ⟨1,bs.map byteRow⟩=⟨1,bs.map byteRow⟩:=Blk.ren_plain (plain_bs bs) rfl
theorem renOk_pl (σ:List (Nat×Nat))(bs:List UInt8):Blk.renOk σ ⟨1,bs.map byteRow⟩=true:=by
 simp only[Blk.renOk,renOkLL,plain_bs bs,Bool.true_or,Bool.true_and]
 rfl
set_option maxRecDepth 100000 in
theorem wBytesN_ev (used:Bool)(q p:Nat)(s:List UInt8)(hs:s≠[])(hl:s.length≤lim)(M:Mem)(nm:Nat)(hqp:q≠p)(hq:M q=some (bK used q .nils))(hp:M p=some ⟨1,s.map byteRow⟩)(ho:∀ z,(M z).isSome=true→z∈[q,p])(hn:q<nm)(hpn:p<nm) :
  Ev cx 15 nm [.ptr q 0 0,.own p 0 s.length] M (.tup [.int .i64 s.length,.val .nilIface]) [(p,none),(q,some (bK true q (.own nm 0 s.length))),(nm,some (rK s))]:=by
 unfold lim at hl
 have yz:(p=q)=False:=eq_false (fun h=>hqp h.symm)
 have zy:(q=p)=False:=eq_false hqp
 refine ev_go rfl (fun cargs w=>call15 cargs w) func15 rfl mixed (by kernel_rfl) rfl ?_;intro b0 hb0
 have lq:q<b0:=below_of hb0 (by rw[hq];rfl)
 have ly:p<b0:=below_of hb0 (by rw[hp];rfl)
 have y0:=lt_ne ly;have y1:=lt_ne_add ly;have y2:=lt_ne' ly;have y3:=lt_ne_add' ly
 have z0:=lt_ne lq;have z1:=lt_ne_add lq;have z2:=lt_ne' lq;have z3:=lt_ne_add' lq
 obtain⟨c,s,rfl⟩:=List.exists_cons_of_ne_nil hs
 repeat' first|simp only[fins,mems,results15,ntmps15,wks,bK_t,hq,hp,yz,zy,y0,y1,y2,y3,z0,z1,z2,z3,vcs,seval,tys]|exact rfl|refine call_off (v:=.any) ?_|(refine call_fn_full ?_ [[q]] (copyN_ev used q _ _ ?_ only_mem (by omega)) ?_ ?_)|((first|apply Ca|apply Cb)<;>intro hb)|refine Ai (by omega) ?_|(apply Ai<;>intro hb)
 refine call_fn_full ?_ [q] (copyN_ev used q _ _ ?_ only_mem (by omega)) ?_ ?_
 ·simp only[vcs,seval,tys]
 ·simp only[only_at,Lk,Ln,hq,vcs,seval,tys]
 ·simp only[Lk,Ln,forall_eq,forall_eq_or_imp,hq,vcs,seval,tys]
 simp only[List.length_cons]at hl
 repeat' first|simp only[fins,mems,results15,ntmps15,wks,bK_t,hq,hp,yz,zy,y0,y1,y2,y3,z0,z1,z2,z3,one_b,one_bs,Lm,vcs,seval,tys]|exact rfl|refine call_off (v:=.any) ?_|((first|apply Ca|apply Cb)<;>intro hb)|refine Ai (by omega) ?_|(apply Ai<;>intro hb)
 all_goals ((refine Fin.give [(q,none),(b0+160,some 0)] [p] ?_ ?_ ?_ ?_ ?_ (fun q hq=>by have hqq:=ho q hq;first|(simp only[gives,tgt,Lc,Lo,Lk,Ln,or_false]at hqq ⊢;omega)|(simp only[gives,tgt,Lc,Lo,Lk,Ln,or_false]at hqq))<;>(try simp only[results15,ntmps15,wks,rK,ren_cons,renOk_cons,ren_bytes,renOk_bytes,ite_self,Bool.false_and,Bool.false_eq_true,if_false,bK_t,hq,hp,yz,zy,y0,y1,y2,y3,z0,z1,z2,z3,fresh_self,giv,vcs,seval,tys])<;>(try simp only[injs])<;>(try omega)))
set_option maxRecDepth 100000 in
theorem wBytesO_ev (used:Bool)(q y p:Nat)(bs s:List UInt8)(hl:bs.length+s.length≤lim)(M:Mem)(nm:Nat)(hqy:q≠y)(hqp:q≠p)(hyp:y≠p)(hq:M q=some (bK used q (.own y 0 bs.length)))(hy:M y=some (rK bs))(hp:M p=some ⟨1,s.map byteRow⟩)(ho:∀ z,(M z).isSome=true→z∈[q,y,p])(hn:q<nm)(hny:y<nm)(hpn:p<nm) :
  Ev cx 15 nm [.ptr q 0 0,.own p 0 s.length] M (.tup [.int .i64 s.length,.val .nilIface]) [(p,none),(y,none),(q,some (bK true q (.own nm 0 (bs.length+s.length)))),(nm,some (rK (bs++s)))]:=by
 unfold lim at hl
 have n1:(q=y)=False:=eq_false hqy
 have n2:(y=q)=False:=eq_false (fun h=>hqy h.symm)
 have n3:(q=p)=False:=eq_false hqp
 have n4:(p=q)=False:=eq_false (fun h=>hqp h.symm)
 have n5:(y=p)=False:=eq_false hyp
 have n6:(p=y)=False:=eq_false (fun h=>hyp h.symm)
 refine ev_go rfl (fun cargs w=>call15 cargs w) func15 rfl mixed (by kernel_rfl) rfl ?_;intro b0 hb0
 have lq:q<b0:=below_of hb0 (by rw[hq];rfl)
 have ly:y<b0:=below_of hb0 (by rw[hy];rfl)
 have lp:p<b0:=below_of hb0 (by rw[hp];rfl)
 have y0:=lt_ne ly;have y1:=lt_ne_add ly;have y2:=lt_ne' ly;have y3:=lt_ne_add' ly
 have z0:=lt_ne lq;have z1:=lt_ne_add lq;have z2:=lt_ne' lq;have z3:=lt_ne_add' lq
 have x0:=lt_ne lp;have x1:=lt_ne_add lp;have x2:=lt_ne' lp;have x3:=lt_ne_add' lp
 repeat' first|simp only[fins,mems,results15,ntmps15,wks,bK_t,hq,hy,hp,n1,n2,n3,n4,n5,n6,y0,y1,y2,y3,z0,z1,z2,z3,x0,x1,x2,x3,vcs,seval,tys]|exact rfl|refine call_off (v:=.any) ?_|((first|apply Ca|apply Cb)<;>intro hb)|refine Ai (by omega) ?_|(apply Ai<;>intro hb)
 refine call_fn_full ?_ [q,y] (copyO_ev used q y bs.length bs _ _ hqy ?_ ?_ only_mem (by omega) (by omega)) ?_ ?_
 ·simp only[vcs,seval,tys]
 ·simp only[only_at,Lk,Ln,true_or,or_true,hq,hy,n1,n2,vcs,seval,tys]
 ·simp only[only_at,Lk,Ln,true_or,or_true,hq,hy,n1,n2,vcs,seval,tys]
 ·simp only[Lk,Ln,forall_eq,forall_eq_or_imp,true_or,or_true,hq,hy,n1,n2,vcs,seval,tys]
 repeat' first|simp only[fins,mems,results15,ntmps15,wks,rK,bK_t,hq,hy,hp,n1,n2,n3,n4,n5,n6,y0,y1,y2,y3,z0,z1,z2,z3,x0,x1,x2,x3,one_b,one_bs,Lm,List.take_of_length_le,Nat.le_refl,List.map_append.symm,vcs,seval,tys]|exact rfl|refine call_off (v:=.any) ?_|((first|apply Ca|apply Cb)<;>intro hb)|refine Ai (by omega) ?_|(apply Ai<;>intro hb)
 all_goals ((refine Fin.give [(q,none),(b0+160,some 0)] [p,y] ?_ ?_ ?_ ?_ ?_ (fun q hq=>by have hqq:=ho q hq;first|(simp only[gives,tgt,Lc,Lo,Lk,Ln,or_false]at hqq ⊢;omega)|(simp only[gives,tgt,Lc,Lo,Lk,Ln,or_false]at hqq))<;>(try simp only[results15,ntmps15,wks,rK,Option.bind_some,ren_bytes,renOk_bytes,ite_self,Bool.false_and,Bool.false_eq_true,if_false,bK_t,hq,hy,hp,n1,n2,n3,n4,n5,n6,y0,y1,y2,y3,z0,z1,z2,z3,x0,x1,x2,x3,fresh_self,giv,vcs,seval,tys])<;>(try simp only[injs])<;>(try omega)))
section
variable (u:Bool) (q y p:Nat) (bs:List UInt8) (M:Mem) (nm:Nat)
theorem wBytes_ev (s:List UInt8)(hs:s≠[])(hl:bs.length+s.length≤lim)(hqy:q≠y)(hqp:q≠p)(hyp:y≠p)(hq:M q=some (bS u q y bs))(hy:M y=some (rK bs))(hp:M p=some ⟨1,s.map byteRow⟩)(ho:∀ z,(M z).isSome=true→z∈[q,y,p])(hn:q<nm)(hny:y<nm)(hpn:p<nm) :
  Ev cx 15 nm [.ptr q 0 0,.own p 0 s.length] M (.tup [.int .i64 s.length,.val .nilIface]) [(p,none),(y,none),(q,some (bS false q nm (bs++s))),(nm,some (rK (bs++s)))]:=by
 rw[bS_ne false q nm (bs:=bs++s) (by simp[hs]),List.length_append]
 by_cases hb:bs=[]
 ·subst hb
  rw[bS_nil]at hq
  simp only[List.nil_append,List.length_nil,Nat.zero_add]at hl ⊢
  have h1:=wBytesN_ev u q p s hs hl (M.only [q,p]) nm hqp (only_eq.2 ⟨hq,by simp⟩) (only_eq.2 ⟨hp,by simp⟩) only_mem hn hpn
  refine Ev.eff_eq (Ev.dropM y (Ev.frame [q,p] h1 (fun x hx=>?_) (fun x hx=>?_))) ?_
  ·simp only[effNames,Lc,Lo,Lk,Ln,or_false]at hx
   rcases hx with rfl|rfl|rfl
   ·left;simp
   ·left;simp
   ·right;exact⟨Nat.le_refl _,by omega⟩
  ·cases hm:M x with
   | none=>rfl
   | some k =>
    have:=ho x (by rw[hm];rfl)
    simp only[Lk,Ln,or_false]at this
    have:=hx.1
    omega
  ·funext x
   simp only[Mem.app,Mem.put]
   by_cases e:x=y<;>by_cases e2:x=p<;>simp[e,e2]
 ·rw[bS_ne u q y hb]at hq
  exact wBytesO_ev true q y p bs s hl M nm hqy hqp hyp hq hy hp ho hn hny hpn
end
theorem hxL_len (l:List UInt8):(hxL l).length=2*l.length:=by
 induction l with
 | nil=>rfl
 | cons c l ih =>
  simp only[hxL,List.flatMap_cons,List.length_append,List.length_cons]at ih ⊢
  rw[ih];simp only[hxB,List.length_cons,List.length_nil];omega
theorem hxL_take {bs:List UInt8}{k:Nat}{c:UInt8}(h:bs[k]? = some c):hxL (bs.take (k+1))=hxL (bs.take k)++hxB c:=by
 obtain⟨hk,rfl⟩:=List.getElem?_eq_some_iff.1 h
 unfold hxL
 rw[List.take_succ_eq_append_getElem hk,List.flatMap_append]
 simp
set_option maxRecDepth 100000 in
set_option maxHeartbeats 4000000 in
theorem hPut_ev (t:Bool)(bs:List UInt8)(hl:bs.length≤1000)(nm:Nat):Ev cx 6 nm [.sl t 1 (bs.map byteRow)] Mem.nil (.str (hxL bs)) []:=by
 have h0:hxL []=[]:=rfl
 refine ev_go rfl (fun cargs w=>call6 cargs w) func6 rfl mixed (by kernel_rfl) rfl ?_;intro b0 hb0
 repeat' first|simp only[fins,mems,results6,ntmps6,wks,vcs,seval,tys]|exact rfl|refine call_off (v:=.any) ?_|((first|apply Ca|apply Cb)<;>intro hb)|refine Ai (by omega) ?_|(apply Ai<;>intro hb)
 (refine loop_can2 cxG (fun x:Nat=>bs.length-x) (fun x=>x≤bs.length) (b0+16) (fun x=>[(3,.ptr b0 0 0),(7,.sl t 1 (bs.map byteRow)),(8,.int .i64 bs.length),(9,.int .i64 x)]) (fun x=>[(b0,bS false b0 (b0+1) (hxL (bs.take x))),(b0+1,rK (hxL (bs.take x)))]) (0) [some (b0+16),none] ?_ ?_ ?_ ?_;rotate_left 1;(focus (show b0≤_;omega));(focus (refine⟨?_,?_⟩<;>(try simp only[cans,bS_new,rK_nil,rK_row,List.take_zero,h0,ren_mkT,renOk_mkT,ren_rK,renOk_rK,plain_bs,Lm,vcs,seval,tys,injs])<;>(try omega)));rotate_left 1)
 ·exact Nat.zero_le _
 ·intro k hk
  by_cases hlt:k<bs.length
  ·obtain⟨c,hc⟩:∃ c,bs[k]? = some c:=⟨_,List.getElem?_eq_getElem hlt⟩
   have hd:decide ((k:Int)<(bs.length:Int))=true:=decide_eq_true (by omega)
   have hd2:decide (k<bs.length)=true:=decide_eq_true hlt
   have hwk:IntKind.i64.wrap ((k:Int)+1)=((k+1:Nat):Int):=wrap_in (by omega) (by omega)
   have hat:(bs.map byteRow)[k]? = some (byteRow c):=by rw[List.getElem?_map,hc];rfl
   have h1:=hxL_len (bs.take k)
   have h2:(bs.take k).length=k:=by rw[List.length_take];omega
   have h3:=(hxL_take hc).symm
   have hll:(hxL (bs.take k)).length+(hxB c).length≤lim:=by unfold lim;simp only[hxB,List.length_cons,List.length_nil];omega
   repeat' first|simp only[fins,mems,results6,ntmps6,wks,hd,hd2,hat,hlt,hwk,ty_u8,byteRow,ones,Lc,Lo,Lm,fresh_self,vcs,seval,tys]|exact rfl|refine call_off (v:=.any) ?_|(first|(refine call_fn ?_ (pair_ev c _) ?_)|(refine call_fn_g ?_ (fun _=>pair_ev c _) ?_))|((first|apply Ca|apply Cb)<;>intro hb)|refine Ai (by omega) ?_|(apply Ai<;>intro hb)
   refine ext_sliceArr (y:=b0+112) (n:=2) (s:=1) (g:=false) (row:=[.int .u8 (hxD (c.toNat / 16)).toNat,.int .u8 (hxD (c.toNat % 16)).toNat]) (o:=instCells) (el:=5) (by kernel_rfl) (by kernel_rfl) (by simp only[vcs,seval,tys]) (by simp only[vcs,seval,tys]) (by decide) rfl ?_
   repeat' first|simp only[fins,mems,results6,ntmps6,wks,hxB,byteRow,ones,Lc,Lo,Lm,List.length_cons,List.length_nil,fresh_self,vcs,seval,tys]|exact rfl|refine call_off (v:=.any) ?_|(refine call_fn_full ?_ [b0,b0+1,b0+144] (wBytes_ev false b0 (b0+1) (b0+144) (hxL (bs.take k)) _ _ (hxB c) (by simp[hxB]) hll (by omega) (by omega) (by omega) ?_ ?_ ?_ only_mem (by omega) (by omega) (by omega)) ?_ ?_)|((first|apply Ca|apply Cb)<;>intro hb)|refine Ai (by omega) ?_|(apply Ai<;>intro hb)
   simp only[hxB]at h3
   all_goals ((refine again_can2 cxG (k+1) [some b0,some (b0+160)] ?_ ?_ ?_ ?_;rotate_left 2;(focus (show b0≤_;omega));(focus (refine⟨?_,?_⟩<;>(try simp only[cans,hwk,h3,ren_mkT,renOk_mkT,ren_bS,renOk_bS,ren_rK,renOk_rK,plain_bs,Lm,Option.getD_some,Option.isSome_some,vcs,seval,tys,injs])<;>(try omega)))))
   all_goals (first|(show bs.length-(k+1)<bs.length-k;omega)|(show k+1≤bs.length;omega)|skip)
  ·have hke:k=bs.length:=by omega
   subst hke
   have hd:decide ((bs.length:Int)<(bs.length:Int))=false:=decide_eq_false (by omega)
   have hd2:decide (bs.length<bs.length)=false:=decide_eq_false (by omega)
   have h1:=hxL_len bs
   have hll:(hxL bs).length≤lim:=by unfold lim;omega
   (repeat' first|simp only[fins,mems,results6,ntmps6,wks,hd,hd2,List.take_length,vcs,seval,tys]|exact rfl|refine call_off (v:=.any) ?_|(refine call_fn_full ?_ [b0,b0+1] (bStr_ev false b0 (b0+1) (hxL bs) _ _ hll (by omega) ?_ ?_ only_mem (by omega) (by omega)) ?_ ?_)|((first|apply Ca|apply Cb)<;>intro hb)|refine Ai (by omega) ?_|(apply Ai<;>intro hb)|refine Fin.pure ?_ ?_ ?_|simp only[injs])
theorem dec_chr {c:UInt8}(h1:c.toNat<128)(h2:may (c.toNat:Int)=true):dec [c]=some [(c.toNat:Int)]:=by
 refine(dec_iff _ _).2 ⟨by simp[h2],?_⟩
 have:∀ i:Fin 128,encodeRune (((UInt8.ofNat i.val).toNat:Nat):Int)=[UInt8.ofNat i.val]:=by decide +kernel
 have hc:=this ⟨c.toNat,h1⟩
 simp only[UInt8.ofNat_toNat]at hc
 simp[enc,hc]
theorem dec_chrs:∀ {s:List UInt8},(∀ c∈s,c.toNat<128∧may (c.toNat:Int)=true) → ∃ zs,dec s=some zs
 | [],_=>⟨[],rfl⟩
 | c::s,h=>by
  obtain⟨h1,h2⟩:=h c (List.mem_cons_self ..)
  obtain⟨zs,hz⟩:=dec_chrs (s:=s) (fun x hx=>h x (List.mem_cons_of_mem _ hx))
  exact⟨_,dec_both (a:=[c]) (dec_chr h1 h2) hz⟩
def refT (a:List UInt8):List UInt8:=38::(a++[59])
theorem refT_pts {a:List UInt8}(ha:∀ c∈a,c.toNat<128∧may (c.toNat:Int)=true)(hl:a.length≤100):ptsErr (refT a)=0:=by
 obtain⟨zs,hz⟩:=dec_chrs (s:=refT a) (fun c hc=>by
  simp only[refT,Lk,List.mem_append,Ln,or_false]at hc
  rcases hc with rfl|hc|rfl
  ·decide
  ·exact ha c hc
  ·decide)
 unfold ptsErr
 rw[if_neg (by simp[refT];omega),hz]
theorem refT_yes {a:List UInt8}{n:Nat}(ha:∀ c∈a,c.toNat<128∧may (c.toNat:Int)=true)(hl:a.length≤100)(h59:(59:UInt8) ∉ a)(hm:meantL a=pointW (some n))(h:may (n:Int)=true):readsB (refT a) (encodeRune n)=true:=by
 have hp:=refT_pts ha hl
 have hr:readL (refT a)=some (encodeRune n):=by
  unfold refT
  rw[readL_ref (cut1_of h59) (hm.trans (point_yes h)),readL_nil]
  simp
 have he:getE (refT a)=0:=by unfold getE;rw[if_neg (by simp[hp]),hr]
 have ht:getT (refT a)=encodeRune n:=by unfold getT;rw[if_pos he,hr];rfl
 unfold readsB
 rw[he,ht];simp
theorem refT_no {a:List UInt8}{n:Nat}(ha:∀ c∈a,c.toNat<128∧may (c.toNat:Int)=true)(hl:a.length≤100)(h59:(59:UInt8) ∉ a)(hm:meantL a=pointW (some n))(h:may (n:Int)=false):oddB (refT a)=true:=by
 have hp:=refT_pts ha hl
 have hr:readL (refT a)=none:=by
  unfold refT
  exact readL_bad (cut1_of h59) (hm.trans (point_no h))
 have he:getE (refT a)=80:=by unfold getE;rw[if_neg (by simp[hp]),hr]
 have ht:getT (refT a)=[]:=by unfold getT;rw[if_neg (by rw[he];decide)]
 unfold oddB
 rw[he,ht];rfl
theorem may_low:∀ c:UInt8,35≤c.toNat→c.toNat<128→may (c.toNat:Int)=true:=by
 intro c h1 h2
 unfold may
 exact decide_eq_true (.inr (.inr (.inr ⟨by omega,by omega,by omega,by omega,by omega⟩)))
theorem meant_dig {n:Nat}(h0:1≤n)(h:n≤9007199254740991):meantL (35::digitsL n)=pointW (some n):=by
 unfold meantL
 have hx:(digitsL n).head? ≠ some 120:=by
  intro e
  obtain⟨r,e⟩:=List.head?_eq_some_iff.1 e
  have:=digits_char n n (Nat.le_refl _) 120 (by rw[e];exact List.mem_cons_self ..)
  revert this;decide
 simp[hx,digits_read h0 h]
theorem meant_hexT (g:Bool){n:Nat}(h0:1≤n)(h:n<16777216):meantL (35::120::hexT g n)=pointW (some n):=by
 unfold meantL
 simp[hexT_read g h0 h]
theorem dig_all {n:Nat}(h:n≤9007199254740991):(∀ c∈(35::digitsL n),c.toNat<128∧may (c.toNat:Int)=true)∧(35::digitsL n).length≤100∧(59:UInt8) ∉ (35::digitsL n):=by
 have hc:=digits_char n n (Nat.le_refl _)
 have hl:=digits_len 15 n (by omega)
 refine⟨fun c hm=>?_,by simp only[List.length_cons];omega,fun hm=>?_⟩
 ·rcases List.mem_cons.1 hm with rfl|hm
  ·decide
  ·have:=hc c hm
   exact⟨by omega,may_low c (by omega) (by omega)⟩
 ·rcases List.mem_cons.1 hm with e|hm
  ·revert e;decide
  ·have:=hc _ hm
   revert this;decide
theorem hex_all (g:Bool){n:Nat}(h:n<16777216):(∀ c∈(35::120::hexT g n),c.toNat<128∧may (c.toNat:Int)=true)∧(35::120::hexT g n).length≤100∧(59:UInt8) ∉ (35::120::hexT g n):=by
 have hl:=hexT_len g h
 have hc:∀ c∈hexT g n,48≤c.toNat∧c.toNat<128∧c≠59:=by
  rw[hexT_eq g h]
  intro c hc
  simp only[List.map_map,List.mem_map,Function.comp]at hc
  obtain⟨d,hd,rfl⟩:=hc
  have:∀(g:Bool) (d:Fin 16),48≤(upC g (hxD d.val)).toNat∧(upC g (hxD d.val)).toNat<128∧upC g (hxD d.val)≠59:=by decide +kernel
  exact this g ⟨d,sixL_lt (noz_mem hd)⟩
 refine⟨fun c hm=>?_,by simp only[List.length_cons];omega,fun hm=>?_⟩
 ·rcases List.mem_cons.1 hm with rfl|hm
  ·decide
  rcases List.mem_cons.1 hm with rfl|hm
  ·decide
  ·have:=hc c hm
   exact⟨by omega,may_low c (by omega) (by omega)⟩
 ·rcases List.mem_cons.1 hm with e|hm
  ·revert e;decide
  rcases List.mem_cons.1 hm with e|hm
  ·revert e;decide
  ·exact(hc _ hm).2.2 rfl
end Go.Proofs.YtnnbggkpgacdiaaDoor
