/-
 Texts joined: XIa,XIc.
-/
import Derived.Stop.Asserts
import Derived.RowKitTokens
import Derived.Test.YtjonibipieofcaaGreatDoorQf
set_option linter.all false
namespace Go.Proofs.YtjonibipieofcaaGreatDoor
open Go Go.RowKit Go.Extern.Stop Go.Stop Go.Extern
def C3 (t:Value)(w:World) :
  Calls Tryz.prog 89 #[.nilIface,t] w fun e w'=>e = .returned (.bool false)/\w'=w:=by
 go_enter Tryz.func89,Tryz.ntmps89
 go_wp2
 go_ret
 exact⟨rfl,rfl⟩
def tQ (t:Addr)(w:World):(ReflectliteValue.unpack (.iface 110 (.pointer (some t)))).run Tryz.prog w
  = .ok (.agg #[.pointer (some ⟨5,110,none⟩),.pointer (some ⟨w.heap.size,0,none⟩),.int .u64 150]) (w.alloc (.cells #[.pointer (some t)] 110)):=by kernel_rfl
def zH (a : Addr) (w : World) : (ReflectliteValue.methodAny (ReflectliteValue.valueError "reflectlite.Value.Type" 0) (fun t _ _ _ => ReflectliteType.toType t) #[.agg #[.pointer (some ⟨5, 110, none⟩), .pointer (some a), .int .u64 150]]).run Tryz.prog w
  = .ok (.iface 181 (.agg #[.pointer (some ⟨5,110,none⟩)])) w:=by kernel_rfl
def rC (h : Value) (w : World) : (Go.method 363 181 (.agg #[h]) "Kind").run Tryz.prog w = .ok (213, h) w := by kernel_rfl
def zG (w:World):((ReflectliteType.abiMethod fun t=>(fun a:Nat=>Value.int IntKind.u8 (a:Int)) <$> Rtype.kind t) #[.pointer (some ⟨5,110,none⟩)]).run Tryz.prog w = .ok (.int .u8 22) w:=by kernel_rfl
def zE (w:World):((ReflectliteType.abiMethod fun t=>(fun a:Nat=>Value.int IntKind.u8 (a:Int)) <$> Rtype.kind t) #[.pointer (some ⟨5,28,none⟩)]).run Tryz.prog w = .ok (.int .u8 2) w:=by kernel_rfl
def PJ (z:Sem Value)(f:TypeId->Addr->Nat->Nat->Sem Value)(v:Value) :
  ReflectliteValue.method z f #[v]=(do match <- ReflectliteValue.parts v with|none=>z|some (t,a,fl)=>f t a fl (fl % 32)):=rfl
def qe (a:Addr)(w:World):(ReflectliteValue.parts (.agg #[.pointer (some ⟨5,110,none⟩),.pointer (some a),.int .u64 150])).run Tryz.prog w = .ok (some (110,a,150)) w:=by kernel_rfl
def xq (a p:Addr)(W:World)(ha:W.cell? a=some (.pointer (some p))) :
  (ReflectliteValue.method (ReflectliteValue.valueError "reflectlite.Value.IsNil" 0) ReflectliteValue.isNil #[.agg #[.pointer (some ⟨5, 110, none⟩), .pointer (some a), .int .u64 150]]).run Tryz.prog W = .ok (.bool false) W := by
 rw[PJ]
 simp only[Sem.run_bind,qe,Result.andThen]
 simp[ReflectliteValue.isNil,loadVar,isAgg,underlying,Tryz.underlying110,ha,Result.andThen]
def rB (h : Value) (w : World) : (Go.method 363 181 (.agg #[h]) "Elem").run Tryz.prog w = .ok (224, .agg #[h]) w := by kernel_rfl
def lp (h : Value) (w : World) : (Go.method 363 181 (.agg #[h]) "Implements").run Tryz.prog w = .ok (225, .agg #[h]) w := by kernel_rfl
def ke (h : Value) (w : World) : (Go.method 363 181 (.agg #[h]) "AssignableTo").run Tryz.prog w = .ok (222, .agg #[h]) w := by kernel_rfl
def zD (w:World):(ReflectliteType.method ReflectliteType.elem #[.agg #[.pointer (some ⟨5,110,none⟩)]]).run Tryz.prog w = .ok (.iface 181 (.agg #[.pointer (some ⟨5,28,none⟩)])) w:=by kernel_rfl
def pc (w : World) : (ReflectliteType.relation "Implements" ReflectliteType.implements_ #[.agg #[.pointer (some ⟨5, 28, none⟩)], .iface 181 (.agg #[.pointer (some ⟨5, 108, none⟩)])]).run Tryz.prog w = .ok (.bool true) w := by kernel_rfl
def vJ (v:Value)(w:World):(ReflectliteType.typeOf #[.iface 28 v]).run Tryz.prog w = .ok (.iface 181 (.agg #[.pointer (some ⟨5,28,none⟩)])) w:=by kernel_rfl
def pa (w : World) : (ReflectliteType.relation "AssignableTo" ReflectliteType.assignableTo #[.agg #[.pointer (some ⟨5, 28, none⟩)], .iface 181 (.agg #[.pointer (some ⟨5, 28, none⟩)])]).run Tryz.prog w = .ok (.bool true) w := by kernel_rfl
def tP (e:Int)(w:World):(ReflectliteValue.unpack (.iface 28 (.int .i64 e))).run Tryz.prog w
  = .ok (.agg #[.pointer (some ⟨5,28,none⟩),.pointer (some ⟨w.heap.size,0,none⟩),.int .u64 130]) (w.alloc (.cells #[.int .i64 e] 28)):=by kernel_rfl
def vH (w:World):(Rtype.elem? 110).run Tryz.prog w = .ok (some 28) w:=by kernel_rfl
def Fh (p:Addr)(w:World):(ReflectliteValue.mk 28 p ReflectliteValue.flagAddr).run Tryz.prog w = .ok (.agg #[.pointer (some ⟨5,28,none⟩),.pointer (some p),.int .u64 386]) w:=by kernel_rfl
def xp (a p:Addr)(W:World)(ha:W.cell? a=some (.pointer (some p))) :
  (ReflectliteValue.method (ReflectliteValue.valueError "reflectlite.Value.Elem" 0) ReflectliteValue.elem #[.agg #[.pointer (some ⟨5, 110, none⟩), .pointer (some a), .int .u64 150]]).run Tryz.prog W
   = .ok (.agg #[.pointer (some ⟨5,28,none⟩),.pointer (some p),.int .u64 386]) W:=by
 rw[PJ]
 simp only[Sem.run_bind,qe,Result.andThen]
 simp[ReflectliteValue.elem,loadVar,isAgg,underlying,Tryz.underlying110,ha,Result.andThen,vH,Fh]
def PO (v x:Value):ReflectliteValue.set #[v,x]=(do
  let (some (dst,a,fl),some (src,b,_)):=(<- ReflectliteValue.parts v,<- ReflectliteValue.parts x)
   | unsupported (.noEntry "extern/(internal/reflectlite.Value).Set.zeroValue")
  if fl / ReflectliteValue.flagAddr % 2 == 0 then unsupported (.noEntry "extern/(internal/reflectlite.Value).Set.unaddressable")
  let val <- loadVar src b
  if <- Rtype.directlyAssignable dst src then storeVar dst a val
  else if <- Rtype.implements dst src then
   if (<- Rtype.kind src)==20 then
    match val with
    | .nilIface => unsupported (.noEntry "extern/reflectlite: a nil value of one interface type handed on as a value of another")
    | _=>storeVar dst a val
   else storeVar dst a (.iface src val)
  else panicString ("reflectlite.Set: value of type " ++ (<- Rtype.spelt src) ++ " is not assignable to type " ++ (<- Rtype.spelt dst))
  pure (.tuple #[])):=rfl
def vI (a:Addr)(w:World):(ReflectliteValue.parts (.agg #[.pointer (some ⟨5,28,none⟩),.pointer (some a),.int .u64 386])).run Tryz.prog w = .ok (some (28,a,386)) w:=by kernel_rfl
def xt (a:Addr)(w:World):(ReflectliteValue.parts (.agg #[.pointer (some ⟨5,28,none⟩),.pointer (some a),.int .u64 130])).run Tryz.prog w = .ok (some (28,a,130)) w:=by kernel_rfl
def vG (w:World):(Rtype.directlyAssignable 28 28).run Tryz.prog w = .ok true w:=by kernel_rfl
def CE (ta b:Addr)(e:Int)(old:Value)(W:World)(hb:W.cell? b=some (.int .i64 e))(ht:W.cell? ta=some old)(hf:W.frozen? ta=false) :
  (ReflectliteValue.set #[.agg #[.pointer (some ⟨5,28,none⟩),.pointer (some ta),.int .u64 386],.agg #[.pointer (some ⟨5,28,none⟩),.pointer (some b),.int .u64 130]]).run Tryz.prog W
   = .ok (.tuple #[]) (W.setCell ta (.int .i64 e)):=by
 rw[PO]
 simp only[Sem.run_bind,vI,xt,Result.andThen]
 simp[ReflectliteValue.flagAddr,loadVar,isAgg,underlying,Tryz.underlying28,hb,Result.andThen,vG,storeVar,Value.cells,storeCells,Addr.add]
 rw[run_store Tryz.prog W ta _ _ (by rfl)]
 simp[ht,hf]
set_option maxRecDepth 100000 in
set_option maxHeartbeats 4000000 in
def C2 (e:Int)(t:Addr)(old:Value)(w:World)(hg:w.cell? ⟨0,0,none⟩=some (.iface 181 (.agg #[.pointer (some ⟨5,108,none⟩)])))(ht0:w.cell? t=some old)(hf0:w.frozen? t=false) :
  Calls Tryz.prog 89 #[.iface 28 (.int .i64 e),.iface 110 (.pointer (some t))] w fun ev w'=>ev = .returned (.bool true)/\w'=((((w.alloc (.cells #[.pointer (some t)] 110)).alloc (.cells #[.pointer (some ⟨5,110,none⟩),.pointer (some ⟨w.heap.size,0,none⟩),.int .u64 150] 146)).alloc (.cells #[.pointer (some ⟨5,110,none⟩),.pointer (some ⟨w.heap.size,0,none⟩),.int .u64 150] 146)).alloc (.cells #[.int .i64 e] 28)).setCell t (.int .i64 e):=by
 have h6:=@run_callFunc_extern Tryz.prog 122 _ (fun args=>ReflectliteValue.unpack (args.getD 0 (.tuple #[]))) Tryz.func122 (by kernel_rfl) (by kernel_rfl) (by kernel_rfl) (by kernel_rfl)
 have h7 := @run_callFunc_extern Tryz.prog 123 _ (ReflectliteValue.methodAny (ReflectliteValue.valueError "reflectlite.Value.Type" 0) (fun t _ _ _ => ReflectliteType.toType t)) Tryz.func123 (by kernel_rfl) (by kernel_rfl) (by kernel_rfl) (by kernel_rfl)
 have h8 := @run_callFunc_extern Tryz.prog 124 _ (ReflectliteValue.method (ReflectliteValue.valueError "reflectlite.Value.IsNil" 0) ReflectliteValue.isNil) Tryz.func124 (by kernel_rfl) (by kernel_rfl) (by kernel_rfl) (by kernel_rfl)
 have h27:=@run_callFunc_extern Tryz.prog 213 _ (ReflectliteType.abiMethod fun t=>do pure (.int .u8 (<- Rtype.kind t))) Tryz.func213 (by kernel_rfl) (by kernel_rfl) (by kernel_rfl) (by kernel_rfl)
 have h37:=@run_callFunc_extern Tryz.prog 224 _ (ReflectliteType.method ReflectliteType.elem) Tryz.func224 (by kernel_rfl) (by kernel_rfl) (by kernel_rfl) (by kernel_rfl)
 have h38 := @run_callFunc_extern Tryz.prog 225 _ (ReflectliteType.relation "Implements" ReflectliteType.implements_) Tryz.func225 (by kernel_rfl) (by kernel_rfl) (by kernel_rfl) (by kernel_rfl)
 have h10:=@run_callFunc_extern Tryz.prog 153 _ ReflectliteType.typeOf Tryz.func153 (by kernel_rfl) (by kernel_rfl) (by kernel_rfl) (by kernel_rfl)
 have h35 := @run_callFunc_extern Tryz.prog 222 _ (ReflectliteType.relation "AssignableTo" ReflectliteType.assignableTo) Tryz.func222 (by kernel_rfl) (by kernel_rfl) (by kernel_rfl) (by kernel_rfl)
 have h11 := @run_callFunc_extern Tryz.prog 154 _ (ReflectliteValue.method (ReflectliteValue.valueError "reflectlite.Value.Elem" 0) ReflectliteValue.elem) Tryz.func154 (by kernel_rfl) (by kernel_rfl) (by kernel_rfl) (by kernel_rfl)
 have h12:=@run_callFunc_extern Tryz.prog 155 _ ReflectliteValue.set Tryz.func155 (by kernel_rfl) (by kernel_rfl) (by kernel_rfl) (by kernel_rfl)
 have tO:=vJ
 have mA:=ke
 have a25:=pa
 have v25:=tP
 have f6:=tQ
 have f7:=zH
 have mK:=rC
 have mE:=rB
 have mI:=lp
 have k27:=zG
 have k25:=zE
 have e27:=zD
 have i25:=pc
 have n8:=xq ⟨w.heap.size,0,none⟩ t ((w.alloc (.cells #[.pointer (some t)] 110)).alloc (.cells #[.pointer (some ⟨5,110,none⟩),.pointer (some ⟨w.heap.size,0,none⟩),.int .u64 150] 146)) (by simp)
 have hlt:0<w.heap.size:=by
  rcases Nat.eq_zero_or_pos w.heap.size with h0|h
  ·simp[World.cell?,h0]at hg
  ·exact h
 have hg2:((w.alloc (.cells #[.pointer (some t)] 110)).alloc (.cells #[.pointer (some ⟨5,110,none⟩),.pointer (some ⟨w.heap.size,0,none⟩),.int .u64 150] 146)).cell? ⟨0,0,none⟩=some (.iface 181 (.agg #[.pointer (some ⟨5,108,none⟩)])):=by
  rw[World.cell?_alloc_lt _ _ ⟨0,0,none⟩ (by simp),World.cell?_alloc_lt _ _ ⟨0,0,none⟩ hlt];exact hg
 have htl:t.block<w.heap.size:=by
  rcases Nat.lt_or_ge t.block w.heap.size with h|h
  ·exact h
  ·simp[World.cell?,Array.getElem?_eq_none h]at ht0
 have el:=xp ⟨w.heap.size,0,none⟩ t (((w.alloc (.cells #[.pointer (some t)] 110)).alloc (.cells #[.pointer (some ⟨5,110,none⟩),.pointer (some ⟨w.heap.size,0,none⟩),.int .u64 150] 146)).alloc (.cells #[.pointer (some ⟨5,110,none⟩),.pointer (some ⟨w.heap.size,0,none⟩),.int .u64 150] 146)) (by rw[World.cell?_alloc_lt _ _ ⟨w.heap.size,0,none⟩ (by simp;omega)];simp)
 have st:=CE t ⟨w.heap.size+1+1+1,0,none⟩ e old ((((w.alloc (.cells #[.pointer (some t)] 110)).alloc (.cells #[.pointer (some ⟨5,110,none⟩),.pointer (some ⟨w.heap.size,0,none⟩),.int .u64 150] 146)).alloc (.cells #[.pointer (some ⟨5,110,none⟩),.pointer (some ⟨w.heap.size,0,none⟩),.int .u64 150] 146)).alloc (.cells #[.int .i64 e] 28))
  (by rw[World.cell?_alloc_at _ _ _ _ (by simp)];rfl)
  (by rw[World.cell?_alloc_lt _ _ t (by simp;omega),World.cell?_alloc_lt _ _ t (by simp;omega),World.cell?_alloc_lt _ _ t (by simp;omega),World.cell?_alloc_lt _ _ t htl];exact ht0)
  (by rw[World.frozen?_alloc_old _ _ t (by simp;omega),World.frozen?_alloc_old _ _ t (by simp;omega),World.frozen?_alloc_old _ _ t (by simp;omega),World.frozen?_alloc_old _ _ t (Nat.ne_of_lt htl)];exact hf0)
 go_enter Tryz.func89,Tryz.ntmps89
 go_wp2
 refine wp_loop_rounds 1 ?_
 rw[rounds_succ]
 go_wp2
 go_ret
 exact⟨rfl,rfl⟩
open Go Go.RowKit Vm Go.Lib Tryz
open Vm renaming aI->Ca,aP->Cb
open And renaming intro->Ai
open List renaming length_map->Lm,not_mem_nil->Ln,map_nil->Lo,map_cons->Lc,mem_cons->Lk
open Bool renaming not_false->Bf,not_true->Bt
def xP (t:V)(M:ao)(nm:Nat):Ev cx 89 nm [.val .nilIface,t] M (.bool false) []:=by
 refine⟨trivial,fun X w ρ cargs B hr hfr hB hlen hargs=>?_⟩
 match cargs,hlen,hargs with
 |⟨[v0,v1]⟩,hlen2,hargs =>
 have h0:=hargs 0 _ v0 rfl rfl
 cases h0
 refine .inl ⟨call89 _ _,(C3 v1 w).mono ?_⟩
 rintro e w' ⟨rfl,rfl⟩
 exact⟨_,rfl,(cV.still (nm:=nm) hr (.bool false)).n⟩
set_option maxHeartbeats 4000000 in
def xO (e:Int)(y:Nat)(old:V)(M:ao)(nm:Nat)(hM:M y=some ⟨1,[[old]]⟩):Ev cx 89 nm [.iface 28 (.int .i64 e),.iface 110 (.ptr y 0 0)] M (.bool true) [(y,some ⟨1,[[.int .i64 e]]⟩)]:=by
  refine⟨trivial,fun X w ρ cargs B hr hfr hB hlen hargs=>?_⟩
  match cargs,hlen,hargs with
  |⟨[v0,v1]⟩,hlen2,hargs =>
  have h0:=hargs 0 _ v0 rfl rfl
  have h1:=hargs 1 _ v1 rfl rfl
  cases h0 with
  | iface h0 =>
  cases h0
  cases h1 with
  | iface h1 =>
  cases h1 with
  | ptr hl =>
  rename_i l
  obtain⟨cs,el,hok,hh,k1,k2,k3,k4,k5⟩:=oU hr hM rfl hl
  have k1:1=l.sz:=k1
  have k2:1<=l.tot:=k2
  obtain⟨c0,hc0,_⟩:=k5 0 0 [old] old rfl rfl
  have htot:l.o<l.o+l.tot*l.sz:=by rw[<- k1];omega
  have hoff:l.o+0*l.sz+0=l.o:=by omega
  rw[hoff]at hc0 ⊢
  have hsz:l.o<cs.size:=by omega
  have ht0:w.cell? ⟨l.b,l.o,none⟩=some c0:=by simp[World.cell?,hh,hc0]
  have hf0:w.frozen? ⟨l.b,l.o,none⟩=false:=by
    have:=l.free htot
    simp only[World.frozen?,hh,Bool.and_eq_false_iff,decide_eq_false_iff_not]
    omega
  have hg:w.cell? ⟨0,0,none⟩=some (.iface 181 (.agg #[.pointer (some ⟨5,108,none⟩)])):=by
    have hq:=hr.glob 0
    rw[show cx.G 0 = .rp [.iface 181 (.agg [.val (.pointer (some ⟨5,108,none⟩))])] from rfl]at hq
    cases hq with
    | rp cv _ _ hc hu =>
      have a1:=hc 0 _ rfl
      have a2:=hu 0 _ rfl
      rw[a1]
      generalize cv 0=x at a2
      cases a2 with
      | iface a2 =>
        cases a2 with
        | agg hn hu =>
          rename_i cvs
          match cvs,hn,hu with
          |⟨[c]⟩,_,hu =>
            have:=hu 0 _ c rfl rfl
            cases this
            rfl
  have hblt:l.b<w.heap.size:=(hr.block_lt (by rw[hM];rfl) hl).1
  refine .inl ⟨call89 _ _,(C2 e ⟨l.b,l.o,none⟩ c0 w hg ht0 hf0).mono ?_⟩
  rintro ev w' ⟨rfl,hw'⟩
  generalize hw1:(((w.alloc (.cells #[.pointer (some ⟨l.b,l.o,none⟩)] 110)).alloc (.cells #[.pointer (some ⟨5,110,none⟩),.pointer (some ⟨w.heap.size,0,none⟩),.int .u64 150] 146)).alloc (.cells #[.pointer (some ⟨5,110,none⟩),.pointer (some ⟨w.heap.size,0,none⟩),.int .u64 150] 146)).alloc (.cells #[.int .i64 e] 28)=w1 at hw'
  have hk:∀ b,b<w.heap.size->w1.heap[b]? = w.heap[b]?:=fun b hb=>by
    rw[<- hw1]
    rw[Below.heap_alloc _ _ _ (by simp;omega),Below.heap_alloc _ _ _ (by simp;omega),Below.heap_alloc _ _ _ (by simp;omega),Below.heap_alloc _ _ _ hb]
  obtain⟨r1,m1⟩:=hr.grow (w':=w1) (by rw[<- hw1];simp;omega) (by rw[<- hw1];rfl) (by rw[<- hw1];rfl) (by rw[<- hw1];rfl) hk
  have hh1:w1.heap[l.b]? = some (.cells cs el l.frz):=(hk l.b hblt).trans hh
  have hb':(w1.setCell ⟨l.b,l.o,none⟩ (.int .i64 e)).heap[l.b]? = some (.cells (cs.setIfInBounds l.o (.int .i64 e)) el l.frz):=by
    simp only[World.setCell,Array.getElem?_modify,if_true,hh1,Option.map_some]
    rfl
  obtain⟨r2,m2⟩:=r1.write (k':=⟨1,[[.int .i64 e]]⟩) hM hl (w':=w1.setCell ⟨l.b,l.o,none⟩ (.int .i64 e)) (by simp[World.setCell]) rfl rfl rfl (fun b hb=>Below.heap_setCell _ _ _ _ hb) hb' k1 k2 (by simpa using k3)
    (fun i row hi=>by
      cases i with
      | zero=>cases hi;exact k1
      | succ i=>simp at hi)
    (fun i j row u hi hj=>by
      cases i with
      | zero =>
        cases hi
        cases j with
        | zero=>cases hj;exact⟨.int .i64 e,by rw[hoff,Array.getElem?_setIfInBounds_self_of_lt hsz],.int _ _⟩
        | succ j=>simp at hj
      | succ i=>simp at hi)
  subst hw'
  exact⟨_,rfl,ρ,r2,m1.trans m2,.bool true,fun _ _=>rfl⟩
end Go.Proofs.YtjonibipieofcaaGreatDoor
