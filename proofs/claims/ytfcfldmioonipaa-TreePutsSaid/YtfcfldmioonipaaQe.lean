/-
 Texts joined: XVF,XVJ,XVL,XVM,XVN,XVO,XVP,XVQ,XVR,XVS,XVT,XVW,XVX,XVY,XVZ,XVH,XVI.
-/
import Derived.Lib.Overlaps
import Derived.Conc.LoneSelect
import Derived.Lib.ConvBytes
import Derived.Laws.BytesString
import Derived.Laws.MakeOwn
import Derived.Laws.RangeAny
import Derived.Lib.Bytealg
import Derived.Lib.Builder
import Derived.Lib.UnsafeStr
import Derived.Laws.Externs
import Derived.Laws.Entries
import Derived.Laws.NewFold
import Derived.Lib.MakeNoZero
import Derived.Recover
import Derived.Test.YtfcfldmioonipaaQd
namespace Go.Proofs.Ytfcfldmioonipaa.Vm
set_option linter.unusedSimpArgs false
set_option linter.unusedVariables false
open Go Go.RowKit
theorem ren_mk (σ:List (Nat×Nat))(sz:Nat)(rows:List (List V)):Blk.ren σ ⟨sz,rows⟩=⟨sz,renLL σ rows⟩:=rfl
theorem renOk_mk (σ:List (Nat×Nat))(sz:Nat)(rows:List (List V)):Blk.renOk σ ⟨sz,rows⟩=renOkLL σ rows:=by
 show(renOkLL σ rows&&true)=_
 rw[Bool.and_true]
def tgt (nm:Nat)(p:Nat×Option Nat):Nat:=match p.2 with|none=>p.1|some j=>nm+j
def gives (nm:Nat)(g:List (Nat×Option Nat)):List (Nat×Nat):=g.map (fun p=>(p.1,tgt nm p))
def giveOk (nm b0:Nat)(M0 M:Mem)(σ:List (Nat×Nat)):List (Nat×Option Nat)→Prop
 | []=>True
 |(x,o)::r=>(match o with|none=>(M0 x).isSome=true|some j=>j<16∧(b0≤x∨(M0 x).isSome=true))∧(match M x with|some k=>k.renOk σ=true|none=>False)∧(∀ p∈r,p.1≠x∧tgt nm p≠tgt nm (x,o))∧giveOk nm b0 M0 M σ r
theorem giveOk_get {nm b0:Nat}{M0 M:Mem}{σ:List (Nat×Nat)} : ∀ {g:List (Nat×Option Nat)},giveOk nm b0 M0 M σ g→((gives nm g).map (·.1)).Nodup∧((gives nm g).map (·.2)).Nodup ∧ ∀ p∈gives nm g,((p.1=p.2∧(M0 p.2).isSome=true)∨(Fresh nm p.2∧(b0≤p.1∨(M0 p.1).isSome=true))) ∧ ∃ k,M p.1=some k∧k.renOk σ=true
  | [],_=>⟨List.nodup_nil,List.nodup_nil,fun p hp=>by cases hp⟩
  |(x,o)::r,h=>by
    obtain⟨h1,h2,h3,h4⟩:=h
    obtain⟨a,b,c⟩:=giveOk_get h4
    refine⟨List.nodup_cons.2 ⟨fun hm=>?_,a⟩,List.nodup_cons.2 ⟨fun hm=>?_,b⟩,fun p hp=>?_⟩
    · simp only[gives,List.map_map,List.mem_map,Function.comp_apply]at hm
      obtain⟨p,hp,e⟩:=hm
      exact(h3 p hp).1 e
    · simp only[gives,List.map_map,List.mem_map,Function.comp_apply]at hm
      obtain⟨p,hp,e⟩:=hm
      exact(h3 p hp).2 e
    · rcases List.mem_cons.1 hp with rfl|hp
      · refine⟨?_,?_⟩
        · cases o with
          | none=>exact .inl ⟨rfl,h1⟩
          | some j=>exact .inr ⟨⟨Nat.le_add_right _ _,by simp only[tgt];have:=h1.1;omega⟩,h1.2⟩
        · split at h2
          · rename_i k hk;exact⟨k,hk,h2⟩
          · exact h2.elim
      · exact c p hp
def giveE (nm:Nat)(M:Mem)(σ:List (Nat×Nat))(g:List (Nat×Option Nat)):List (Nat×Option Blk):=g.map (fun p=>(tgt nm p,(M p.1).map (Blk.ren σ)))
def dropE (δ:List Nat):List (Nat×Option Blk):=δ.map (fun x=>(x,none))
theorem Fin.give {cx:Cx}{N:Nat}{rs:List ResultVar}{nm:Nat}{M0:Mem}{v:V}{eff:List (Nat×Option Blk)}{b0 n:Nat}{e:Env}{M:Mem}(g:List (Nat×Option Nat))(δ:List Nat)(h1:resOk cx.P N rs e M)(h2:(resV cx.P rs e M).finOk (gives nm g) M)(h3:((resV cx.P rs e M).fin (gives nm g) M).le v)
  (h4:dropE δ++giveE nm M (gives nm g) g=eff) (h5:giveOk nm b0 M0 M (gives nm g) g) (h6:∀ x,(M0 x).isSome=true→x∈(gives nm g).map (·.2)∨x∈δ):FinG cx N rs nm M0 v eff b0 n e M:=by
 obtain⟨a,b,c⟩:=giveOk_get h5
 exact⟨[],h1,gives nm g,δ,h2,h3,by rw[← h4];simp[dropE,giveE,gives,Mem.ghosts],a,b,c,h6⟩
end Go.Proofs.Ytfcfldmioonipaa.Vm
namespace Go.Proofs.Ytfcfldmioonipaa.Vm
set_option linter.unusedSimpArgs false
set_option linter.unusedVariables false
open Go Go.RowKit Go.Conc
def chanK (cap:Nat)(closed:Bool)(ms:List V):Blk:=@Blk.mk 0 [] (.chan cap closed ms)
section
variable {cx:Cx} {P:Program} {G:Nat→V} {X:Nat→Prop} {w0:World} {I:Nat→Prop} {ρ:Names} {M:Mem} {w w':World} {D:Nat→Prop}
theorem Rel.grow (h:Rel G X w0 I ρ M w)(hs:w.heap.size≤w'.heap.size)(hos:w'.os=w.os)(htp:w'.tape=w.tape)(hout:w'.output=w.output)(hk:∀ b,b<w.heap.size→w'.heap[b]? = w.heap[b]?):Rel G X w0 I ρ M w'∧Moves ρ M w ρ M w':=by
 have m:Moves ρ M w ρ M w':=⟨fun _ _ h=>h,hs,hos,htp,hout,fun b hb _=>hk b hb,fun nm l h1 h2 _=>⟨nm,l,h1,h2,rfl⟩⟩
 exact⟨h.move m h.inj (fun nm k hM=>.inl ⟨hM,id,fun l hl=>hk l.b (h.block_lt (by rw[hM];rfl) hl).1⟩),m⟩
theorem Rel.chan (h:Rel G X w0 I ρ M w){y:Nat}{k:Blk}{l:Loc}(hM:M y=some k)(hl:ρ y=some l)(hz:l.sz=0)(ht:l.tot=0){cap s r:Nat}{closed:Bool}{buf:Array Value}{ms:List V}(hlt:l.b<w.heap.size)
  (hn:buf.size=ms.length) (hm:∀(i:Nat) (u:V),ms[i]? = some u → ∃ cv,buf[i]? = some cv∧Is ρ (Dom X ρ M) w u cv) :
  Rel G X w0 I ρ (M.put y (some (chanK cap closed ms))) (w.setChan l.b cap buf closed s r false)∧Moves ρ M w ρ (M.put y (some (chanK cap closed ms))) (w.setChan l.b cap buf closed s r false):=by
 have hk:∀ b,b≠l.b→(w.setChan l.b cap buf closed s r false).heap[b]? = w.heap[b]?:=fun b hb=>by
  simp only[World.setChan];rw[Array.getElem?_setIfInBounds_ne (Ne.symm hb)]
 have hs:∀ x,((M.put y (some (chanK cap closed ms))) x).isSome=true→(M x).isSome=true:=fun x hx=>by
  by_cases e:x=y
  ·subst e;rw[hM];rfl
  ·rwa[Mem.put_ne _ _ e]at hx
 have m:Moves ρ M w ρ (M.put y (some (chanK cap closed ms))) (w.setChan l.b cap buf closed s r false) :=
  ⟨fun _ _ h=>h,by simp[World.setChan],rfl,rfl,rfl,fun b _ hn=>hk b (fun e=>hn y l (by rw[hM];rfl) hl e.symm),fun n l' a1 a2 _=>⟨n,l',hs n a1,a2,rfl⟩⟩
 refine⟨h.move m (fun a b l1 l2 a1 a2 a3 a4 a5=>h.inj a b l1 l2 (hs a a1) (hs b a2) a3 a4 a5) ?_,m⟩
 intro x kx hx
 by_cases e:x=y
 ·subst e
  rw[Mem.put_same]at hx
  cases hx
  obtain⟨b1,b2,b3⟩:=h.block_lt (by rw[hM];rfl) hl
  refine .inr (.inr ⟨l,hl,b3,b2,.inr ⟨_,(),ms,buf,(),(),⟨rfl,s,r,rfl⟩,heap_setChan w l.b cap buf closed s r false hlt,hz.symm,rfl,ht,hn,fun i u hi=>?_⟩⟩)
  obtain⟨cv,c1,c2⟩:=hm i u hi
  exact⟨cv,c1,m.is c2⟩
 ·rw[Mem.put_ne _ _ e]at hx
  exact .inl ⟨hx,id,fun lx hlx=>hk _ (fun e2=>e (h.inj x y lx l (by rw[hx];rfl) (by rw[hM];rfl) hlx hl e2))⟩
end
theorem wp_val {P:Program}{o:Oper}{a:Act}{w:World}{s:Sem Value}{cv:Value}{w':World}(h1:execOp a.eval o=(do pure (.value (← s))))(h2:s.run P w = .ok cv w'):∀(K:Act→World→Prop) (Q:Exit→Act→World→Prop),K (a.put o.dst cv) w'→o.wp P a w K Q:=by
 intro K Q h3
 unfold Oper.wp
 rw[h1,Sem.run_bind,h2]
 exact h3
section
variable {cx:Cx} {Q:Post} {st:List Frm} {nm:Nat} {e:Env} {M:Mem} {d:Bool} {fs:List (List Nat)} {ops r:List Oper} {dst:Option Tmp} {t:TypeId} {pos:String} {af:Array Edge} {gd:Option (Nat×Bool)} {i:Nat}
theorem is_triple {ρ:Names}{D:Nat→Prop}{w:World}{u v z:V}{c1 c2 c3:Value}(h1:Is ρ D w u c1)(h2:Is ρ D w v c2)(h3:Is ρ D w z c3):Is ρ D w (.tup [u,v,z]) (.tuple #[c1,c2,c3]) :=
 .tup rfl (fun i q cv hi hc=>by
  rcases i with _|_|_|i
  ·simp at hi hc;subst hi;subst hc;exact h1
  ·simp at hi hc;subst hi;subst hc;exact h2
  ·simp at hi hc;subst hi;subst hc;exact h3
  ·simp at hi)
end
end Go.Proofs.Ytfcfldmioonipaa.Vm
namespace Go.Proofs.Ytfcfldmioonipaa.Vm
set_option linter.unusedSimpArgs false
set_option linter.unusedVariables false
open Go Go.RowKit
def bytesT (P:Program)(t:TypeId):Bool:=match P.underlying t with
 | some (.slice e)=>(match P.underlying e with|some (.int .u8)=>true|_=>false)
 | _=>false
theorem bytesT_spec {P:Program}{t:TypeId}(h:bytesT P t=true):∃ e,P.underlying t=some (.slice e)∧P.underlying e=some (.int .u8):=by
 unfold bytesT at h
 split at h
 ·rename_i e he
  split at h
  ·rename_i he2;exact⟨e,he,he2⟩
  ·cases h
 ·cases h
def V.isStr:V→Bool
 | .str _=>true
 | _=>false
theorem foldl_push:∀(l:List UInt8) (s:ByteArray),(l.map fun b=>(b.toNat:Int)).foldl (fun r n=>r.push (UInt8.ofNat n.toNat)) s=⟨s.data++l.toArray⟩
 | [],s=>by simp
 | b::l,s=>by
  simp only[List.map_cons,List.foldl_cons]
  rw[foldl_push l]
  apply ByteArray.ext
  simp[ByteArray.push]
section
variable {cx:Cx} {X:Nat→Prop} {w0:World} {I:Nat→Prop} {ρ:Names} {M:Mem} {w:World}
theorem bytes_string {P:Program}{G:Nat→V}(h:Rel G X w0 I ρ M w){x:V}{cv:Value}{bs:List UInt8}(hx:Is ρ (Dom X ρ M) w x cv)(hok:srcOk M 1 x)(hns:x.isStr=false)(hr:rowsV M x=bs.map byteRow){s d:TypeId}(hs:bytesT P s=true)(hd:P.underlying d=some .string) :
  (convert s d cv).run P w = .ok (.string ⟨bs.toArray⟩) w:=by
 obtain⟨e,hs,he⟩:=bytesT_spec hs
 obtain⟨h1,arr,h2,h3,h4⟩:=src_sound (P:=P) h (by decide:0<1) hx hok
 have form:∃ A n c,cv = .slice A n c:=by
  cases x<;>first|exact hok.elim|(simp[V.isStr]at hns;done)|skip
  all_goals cases hx<;>exact⟨_,_,_,rfl⟩
 obtain⟨A,n,c,rfl⟩:=form
 have hn:n=bs.length:=by
  have:(Builtin.lenOf (.slice A n c)).run P w = .ok n w:=rfl
  rw[this]at h1
  have h1':n=(rowsV M x).length:=by injection h1
  rw[h1',hr,List.length_map]
 subst hn
 rw[run_convert_bytes_string w s d e A _ c hs he hd]
 cases A with
 | none =>
  have hz:bs=[]:=by
   cases bs with
   | nil=>rfl
   | cons b bs =>
    exfalso
    have:(Builtin.firstCells 1 (rowsV M x).length (.slice none (b::bs).length c)).run P w = .ok #[] w:=rfl
    rw[this]at h2
    have h2':(#[]:Array Value)=arr:=by injection h2
    rw[← h2',hr]at h3
    simp at h3
  subst hz
  rfl
 | some a =>
  have hl:(loadCells a (bs.length*1)).run P w = .ok arr w:=by
   have:=h2
   rw[hr,List.length_map]at this
   exact this
  rw[Nat.mul_one]at hl
  have harr:arr=((bs.map fun b=>(b.toNat:Int)).map (Value.int .u8)).toArray:=by
   rw[hr,List.length_map,Nat.mul_one]at h3
   apply Array.ext
   ·simp[h3]
   ·intro i hi1 hi2
    have hib:i<bs.length:=by omega
    obtain⟨cc,c1,c2⟩:=h4.2.2 i 0 (byteRow bs[i]) (.int .u8 bs[i].toNat) (by rw[hr,List.getElem?_map,List.getElem?_eq_getElem hib];rfl) rfl
    cases c2
    simp only[Nat.mul_one,Nat.add_zero]at c1
    rw[Array.getElem?_eq_getElem hi1]at c1
    simp only[Option.some.injEq]at c1
    rw[c1]
    simp
  have:=run_bytesToString (P:=P) w a bs.length c (bs.map fun b=>(b.toNat:Int)) (by rw[← harr];exact hl)
  rw[this,foldl_push]
  have h0:ByteArray.empty.data = #[]:=rfl
  simp[h0]
variable {Q:Post} {st:List Frm} {nm:Nat} {e:Env} {d:Bool} {fs:List (List Nat)} {ops r:List Oper} {dst:Option Tmp} {t:TypeId} {pos:String} {af:Array Edge} {gd:Option (Nat×Bool)} {i:Nat}
theorem does_toStr {s dt:TypeId}{x:Operand}{v:V}{bs:List UInt8}{n:Nat}(hs:bytesT cx.P s=true)(hd:cx.P.underlying dt=some .string)(hx:evalV cx.G true e x=v)(hns:v.isStr=false)(hok:srcOk M 1 v)(hr:rowsV M v=bs.map byteRow) :
  ExtDoes cx ⟨dst,.convert s dt x,t,pos,af,gd⟩ n e M (.str bs) [] (namesV v):=by
 refine⟨fun x hx=>by simp[effNames]at hx,fun x hx=>by simp[effNames]at hx,fun h=>absurd rfl h,fun _=>rfl,?_⟩
 intro N X w0 I ρ e' M' a w hr' he hin hev hM _
 have hxi:=he.eval hr' (c:=true) rfl (hin x (by simp[Op.operands]))
 rw[hev x (by simp[Op.operands]),hx]at hxi
 have hrun:=bytes_string (P:=cx.P) hr' hxi (by rw[srcOk_congr hM];exact hok) hns (bs:=bs) (by rw[rowsV_congr hM];exact hr) hs hd
 exact⟨_,w,(Steps1.still (nm:=n) hr' (.str bs)).n,wp_val rfl hrun⟩
theorem ext_toStr {s dt:TypeId}{x:Operand}{v:V}{bs:List UInt8}(hs:bytesT cx.P s=true)(hd:cx.P.underlying dt=some .string)(hx:evalV cx.G true e x=v)(hns:v.isStr=false)(hok:srcOk M 1 v)(hr:rowsV M v=bs.map byteRow)
  (h:goOps cx Q st nm (e.putD dst (.str bs)) M d (fs++[namesV v]) ops r (i+1)):goExt cx Q st nm e M d fs ops ⟨dst,.convert s dt x,t,pos,af,gd⟩ r i :=
 ⟨_,[],_,does_toStr hs hd hx hns hok hr,h⟩
theorem ghosts_append (gs hs:List Nat):∀(M:Mem) (n:Nat),(M.ghosts n gs).ghosts (n+gs.length) hs=M.ghosts n (gs++hs):=by
 induction gs with
 | nil=>intro M n;rfl
 | cons g gs ih =>
  intro M n
  simp only[Mem.ghosts,List.cons_append,List.length_cons]
  rw[← ih]
  congr 1
  omega
theorem Fin.more {N:Nat}{rs:List ResultVar}{M0:Mem}{v:V}{eff:List (Nat×Option Blk)}{b0 n:Nat}(gs:List Nat)(h:FinG cx N rs nm M0 v eff b0 (n+gs.length) e (M.ghosts n gs)):FinG cx N rs nm M0 v eff b0 n e M:=by
 obtain⟨hs,h⟩:=h
 rw[ghosts_append]at h
 exact⟨_,h⟩
theorem extG_true {o:Oper}(h:goExt cx Q st nm e M d fs ops o r i):goExtG cx Q st nm e M d fs true ops o r i:=.inr ⟨fun _=>h,fun h=>by cases h⟩
theorem extG_false {o:Oper}(h:goOps cx Q st nm (e.putD o.dst .any) M d (fs++[[]]) ops r (i+1)):goExtG cx Q st nm e M d fs false ops o r i:=.inr ⟨fun h=>(by cases h),fun _=>h⟩
def madeK (P:Program)(ty:TypeId)(n:Nat):Blk:=match elInfo P ty with
 | some (zc,_)=>⟨zc.length,List.replicate n zc⟩
 | none=>⟨0,[]⟩
def madeOk (P:Program)(ty:TypeId)(n:Nat):Prop:=match elInfo P ty with
 | some (zc,b)=>n*zc.length≤16777216∧b*n≤281474976710656
 | none=>False
theorem ext_makeN {ty:TypeId}{x y:Operand}{kx ky:IntKind}{n c:Nat}(hx:evalV cx.G true e x = .int kx n)(hy:evalV cx.G true e y = .int ky c)(hn:n≤c)(hok:madeOk cx.P ty c)
  (h:goOps cx Q st nm (e.putD dst (.own (nm+16*i) 0 n)) (M.app [(nm+16*i,some (madeK cx.P ty c))]) d (fs++[[nm+16*i]]) ops r (i+1)):goExt cx Q st nm e M d fs ops ⟨dst,.makeSlice ty x y,t,pos,af,gd⟩ r i:=by
 refine⟨_,_,_,⟨fun x hx=>hx,fun x hx=>?_,fun _=>rfl,fun _=>rfl,?_⟩,h⟩
 ·simp only[effNames,List.map_cons,List.map_nil,List.mem_singleton]at hx
  subst hx;exact .inr ⟨Nat.le_refl _,by omega⟩
 ·intro N X w0 I ρ e' M' a w hr he hin hev _ hf
  obtain⟨f1,f2⟩:=hf (nm+16*i) ⟨Nat.le_refl _,by omega⟩
  have hxi:=he.eval hr (c:=true) rfl (hin x (by simp[Op.operands]))
  rw[hev x (by simp[Op.operands]),hx]at hxi
  have hyi:=he.eval hr (c:=true) rfl (hin y (by simp[Op.operands]))
  rw[hev y (by simp[Op.operands]),hy]at hyi
  unfold madeOk at hok
  cases hel:elInfo cx.P ty with
  | none=>rw[hel]at hok;exact hok.elim
  | some q =>
   obtain⟨zc,b⟩:=q
   rw[hel]at hok
   obtain⟨el,inf,z,hu,hi,hz,hzs,hpos,hzc,hzl,hb⟩:=elInfo_spec hel
   obtain⟨ho1,ho2⟩:=hok
   have hc63:c≤16777216:=by
    have:c*1≤c*zc.length:=Nat.mul_le_mul_left _ (by omega)
    omega
   have hrun:=run_makeSlice (P:=cx.P) w ty el inf z hu hi hz kx ky n c (by omega) (by omega) (by simp only[Int.toNat_natCast];rw[← hzl];exact ho1) (by rw[hb,← Int.natCast_mul];exact Int.ofNat_le.2 ho2) (by omega)
   simp only[Int.toNat_natCast]at hrun
   have hrows:RowsAre ρ (Dom X ρ M') w inf.size (List.replicate c zc) (madeCells z.cells (c*inf.size)):=zeroRows hzs hpos hzc c _ (size_madeCells _ _) (fun k hk=>by simp[madeCells,hzs,hk])
   obtain⟨g1,g2⟩:=hr.alloc f1 f2 (madeCells z.cells (c*inf.size)) el ⟨inf.size,List.replicate c zc⟩ c (by simp) (by simp[size_madeCells]) hrows.2.1 hrows.2.2
   have hK:madeK cx.P ty c=⟨inf.size,List.replicate c zc⟩:=by simp only[madeK,hel,hzl]
   rw[hK]
   refine⟨_,_,(show Steps1 _ _ _ _ _ _ _ _ _ _ _ _ from ⟨_,g1,g2,.own (c:=c) (Names.put_same _ _ _) (by simp) hn,fun x hx=>Names.put_ne _ _ hx⟩).n,wp_val (s:=Instr.makeSlice ty (a.eval x) (a.eval y)) rfl ?_⟩
   generalize hcv:a.eval x=cv at hxi
   generalize hcw:a.eval y=cw at hyi
   cases hxi
   cases hyi
   simpa using hrun
theorem ext_make {ty:TypeId}{x y:Operand}{kx ky:IntKind}{n c:Int}(hx:evalV cx.G true e x = .int kx n)(hy:evalV cx.G true e y = .int ky c)(h0:0≤n)(hn:n≤c)(hok:madeOk cx.P ty c.toNat)
  (h:goOps cx Q st nm (e.putD dst (.own (nm+16*i) 0 n.toNat)) (M.app [(nm+16*i,some (madeK cx.P ty c.toNat))]) d (fs++[[nm+16*i]]) ops r (i+1)):goExt cx Q st nm e M d fs ops ⟨dst,.makeSlice ty x y,t,pos,af,gd⟩ r i :=
 ext_makeN (n:=n.toNat) (c:=c.toNat) (by rw[Int.toNat_of_nonneg h0];exact hx) (by rw[Int.toNat_of_nonneg (by omega)];exact hy) (by omega) hok h
end
def envL:List (Nat×V)→Env
 | [],_=>.any
 |(t,v)::r,x=>if x=t then v else envL r x
def memL:List (Nat×Blk)→Mem
 | [],_=>none
 |(y,k)::r,x=>if x=y then some k else memL r x
theorem envL_cons (t:Nat)(v:V)(r:List (Nat×V))(x:Nat):envL ((t,v)::r) x=if x=t then v else envL r x:=rfl
theorem envL_nil (x:Nat):envL [] x = .any:=rfl
theorem memL_cons (y:Nat)(k:Blk)(r:List (Nat×Blk))(x:Nat):memL ((y,k)::r) x=if x=y then some k else memL r x:=rfl
theorem memL_nil (x:Nat):memL [] x=none:=rfl
def leLL:List (List V)→List (List V)→Prop
 | [],[]=>True
 | x::xs,y::ys=>leL x y∧leLL xs ys
 | _,_=>False
theorem leLL_refl:∀(l:List (List V)),leLL l l
 | []=>trivial
 | x::l=>⟨leL_refl x,leLL_refl l⟩
theorem leLL_same (l:List (List V)):leLL l l=True:=eq_true (leLL_refl l)
theorem leLL_get:∀ {a b:List (List V)},leLL a b→a.length=b.length ∧ ∀(i:Nat) (y:List V),b[i]? = some y → ∃ x,a[i]? = some x∧leL x y
 | [],[],_=>⟨rfl,fun i y h=>by simp at h⟩
 | x::xs,y::ys,h=>by
  obtain⟨h1,h2⟩:=leLL_get h.2
  refine⟨by simp[h1],fun i u hu=>?_⟩
  cases i with
  | zero=>simp at hu;subst hu;exact⟨x,rfl,h.1⟩
  | succ i=>exact h2 i u (by simpa using hu)
 | [],_::_,h=>h.elim
 | _::_,[],h=>h.elim
def Ob.le (a b:Ob):Prop:=a=b∨(b = .cells∧a.isRow=true)
theorem Ob.le_ok {a b:Ob}{e:TypeId}{l:Loc}(h:a.okCells e l)(hl:a.le b):b.okCells e l:=by
 rcases hl with rfl|⟨rfl,_⟩
 ·exact h
 ·trivial
theorem Ob.le_lies {a b:Ob}{x:Obj}{ms:List V}{buf:Array Value}{off:Nat}(h:a.lies x ms buf off)(hl:a.le b):b.lies x ms buf off:=by
 rcases hl with rfl|⟨rfl,hr⟩
 ·exact h
 ·cases a<;>first|exact h.elim|cases hr
def leBlk (a b:Blk):Prop:=a.sz=b.sz∧a.ob.le b.ob∧leLL a.rows b.rows
theorem leBlk_mk (o:Ob)(s s':Nat)(r r':List (List V)):leBlk (@Blk.mk s r o) (@Blk.mk s' r' o)=(s=s'∧leLL r r'):=propext ⟨fun h=>⟨h.1,h.2.2⟩,fun h=>⟨h.1,.inl rfl,h.2⟩⟩
theorem leBlk_same (k:Blk):leBlk k k=True:=eq_true ⟨rfl,.inl rfl,leLL_refl _⟩
theorem BlkAt.le {ρ:Names}{D:Nat→Prop}{w:World}{l:Loc}{a b:Blk}(h:BlkAt ρ D w l a)(hle:leBlk a b):BlkAt ρ D w l b:=by
 obtain⟨e1,e2,e3⟩:=hle
 obtain⟨f1,f2⟩:=leLL_get e3
 rcases h with ⟨cs,e,h1,h2,h3,h4,h5,h6,h7⟩|⟨cap,closed,msgs,buf,s,r,h1,h2,h3,h4,h5,h6,h7⟩
 ·refine .inl ⟨cs,e,Ob.le_ok h1 e2,h2,by rw[← e1];exact h3,by rw[← f1];exact h4,h5,fun i row hi=>?_,fun i j row u hi hj=>?_⟩
  ·obtain⟨x,g1,g2⟩:=f2 i row hi
   rw[←(leL_get g2).1];exact h6 i x g1
  ·obtain⟨x,g1,g2⟩:=f2 i row hi
   obtain⟨v,g3,g4⟩:=(leL_get g2).2 j u hj
   obtain⟨cv,c1,c2⟩:=h7 i j x v g1 g3
   exact⟨cv,c1,c2.le u g4⟩
 ·refine .inr ⟨cap,closed,msgs,buf,s,r,Ob.le_lies h1 e2,h2,by rw[← e1];exact h3,?_,h5,h6,h7⟩
  rw[h4]at f1
  cases hb:b.rows with
  | nil=>rfl
  | cons x y=>rw[hb]at f1;simp at f1
def zipS:List (Nat×Blk)→List (Option Nat)→List (Nat×Option Nat×Blk)
 |(y,k)::r,o::s=>(y,o,k)::zipS r s
 |(y,k)::r,[]=>(y,none,k)::zipS r []
 | [],_=>[]
def sigS:List (Nat×Option Nat×Blk)→List (Nat×Nat)
 | []=>[]
 |(y,some x,_)::r=>(x,y)::sigS r
 |(_,none,_)::r=>sigS r
def renR (σ:List (Nat×Nat))(k0 k:Blk):Prop:=k0.renOk σ=true∧leBlk (k0.ren σ) k
def canM (R:Blk→Blk→Prop)(b0 nm':Nat)(M:Mem):List (Nat×Option Nat×Blk)→Prop
  | []=>True
  |(y,o,k)::r=>y<nm'∧(match o with
    | some x=>(b0≤y∨x=y)∧(match M x with|some k0=>R k0 k|none=>False)
    | none=>b0≤y∧k.rows=[]∧k.ob.isRow=true)∧(∀ p∈r,p.1≠y∧(o≠none→p.2.1≠o))∧canM R b0 nm' M r
def canE (M:Mem)(σ:List (Nat×Nat))(e:Env):List (Nat×V)→Prop
 | []=>True
 |(t,v)::r=>((e t).finOk σ M∧((e t).fin σ M).le v)∧canE M σ e r
theorem canM_get {R:Blk→Blk→Prop}{b0 nm':Nat}{M:Mem} : ∀ {C:List (Nat×Option Nat×Blk)},canM R b0 nm' M C → ∀ {y:Nat} {o:Option Nat} {k:Blk},(y,o,k)∈C→y<nm'∧(match o with
    | some x=>(b0≤y∨x=y)∧(match M x with|some k0=>R k0 k|none=>False)
    | none=>b0≤y∧k.rows=[]∧k.ob.isRow=true)
  |(y',o',k')::C,h,y,o,k,hm=>by
    rcases List.mem_cons.1 hm with e|hm
    · cases e;exact⟨h.1,h.2.1⟩
    · exact canM_get h.2.2.2 hm
theorem sigS_mem:∀ {C:List (Nat×Option Nat×Blk)} {x y:Nat},(x,y)∈sigS C ↔ ∃ k,(y,some x,k)∈C
  | [],x,y=>by simp[sigS]
  |(y',none,k')::C,x,y=>by
    simp only[sigS,sigS_mem (C:=C),List.mem_cons,Prod.mk.injEq,reduceCtorEq,false_and,and_false,false_or]
  |(y',some x',k')::C,x,y=>by
    simp only[sigS,List.mem_cons,sigS_mem (C:=C),Prod.mk.injEq,Option.some.injEq]
    constructor
    · rintro (⟨rfl,rfl⟩|⟨k,h⟩)
      · exact⟨k',.inl ⟨rfl,rfl,rfl⟩⟩
      · exact⟨k,.inr h⟩
    · rintro ⟨k,⟨rfl,rfl,_⟩|h⟩
      · exact .inl ⟨rfl,rfl⟩
      · exact .inr ⟨k,h⟩
theorem canM_nodup {R:Blk→Blk→Prop}{b0 nm':Nat}{M:Mem} : ∀ {C:List (Nat×Option Nat×Blk)},canM R b0 nm' M C→((sigS C).map (·.1)).Nodup∧((sigS C).map (·.2)).Nodup
  | [],_=>⟨List.nodup_nil,List.nodup_nil⟩
  |(y,none,k)::C,h=>by
    obtain⟨a,b⟩:=canM_nodup (C:=C) h.2.2.2
    exact⟨a,b⟩
  |(y,some x,k)::C,h=>by
    obtain⟨a,b⟩:=canM_nodup h.2.2.2
    refine⟨List.nodup_cons.2 ⟨fun hm=>?_,a⟩,List.nodup_cons.2 ⟨fun hm=>?_,b⟩⟩
    · obtain⟨⟨x',y'⟩,hp,he⟩:=List.mem_map.1 hm
      simp only at he;subst he
      obtain⟨k',hk⟩:=sigS_mem.1 hp
      exact(h.2.2.1 _ hk).2 (by simp) rfl
    · obtain⟨⟨x',y'⟩,hp,he⟩:=List.mem_map.1 hm
      simp only at he;subst he
      obtain⟨k',hk⟩:=sigS_mem.1 hp
      exact(h.2.2.1 _ hk).1 rfl
theorem canM_one {R:Blk→Blk→Prop}{b0 nm':Nat}{M:Mem} : ∀ {C:List (Nat×Option Nat×Blk)},canM R b0 nm' M C → ∀ {y:Nat} {o o':Option Nat} {k k':Blk},(y,o,k)∈C→(y,o',k')∈C→o=o'
  | [],_,_,_,_,_,_,h1,_=>by simp at h1
  |(y',o'',k'')::C,h,y,o,o',k,k',h1,h2=>by
    have h3:=h.2.2.1
    have h4:=h.2.2.2
    clear h
    rcases List.mem_cons.1 h1 with e1|g1<;>rcases List.mem_cons.1 h2 with e2|g2
    · cases e1;cases e2;rfl
    · cases e1;exact absurd rfl (h3 _ g2).1
    · cases e2;exact absurd rfl (h3 _ g1).1
    · exact canM_one h4 g1 g2
theorem memL_zip:∀ {Ms:List (Nat×Blk)} {src:List (Option Nat)} {y:Nat} {k:Blk},memL Ms y=some k → ∃ o,(y,o,k)∈zipS Ms src
  |(y',k')::Ms,src,y,k,h=>by
    simp only[memL]at h
    split at h
    · rename_i he;subst he;cases h
      cases src with
      | nil=>exact⟨none,by simp[zipS]⟩
      | cons o s=>exact⟨o,by simp[zipS]⟩
    · cases src with
      | nil =>
        obtain⟨o,ho⟩:=memL_zip (src:=[]) h
        exact⟨o,by simp[zipS,ho]⟩
      | cons o' s =>
        obtain⟨o,ho⟩:=memL_zip (src:=s) h
        exact⟨o,by simp[zipS,ho]⟩
theorem memL_none {R:Blk→Blk→Prop}{b0 nm':Nat}{M:Mem}{Ms:List (Nat×Blk)}{src:List (Option Nat)}(h:canM R b0 nm' M (zipS Ms src)){y:Nat}(hy:nm'≤y):memL Ms y=none:=by
 cases hm:memL Ms y with
 | none=>rfl
 | some k =>
  obtain⟨o,ho⟩:=memL_zip (src:=src) hm
  have:=(canM_get h ho).1
  omega
theorem newName_of {σ:List (Nat×Nat)}(hn:(σ.map (·.1)).Nodup){x y:Nat}(h:(x,y)∈σ):newName σ x=some y:=by
 induction σ with
 | nil=>cases h
 | cons p r ih =>
  simp only[List.map_cons,List.nodup_cons]at hn
  obtain⟨x',y'⟩:=p
  rw[newName_cons]
  rcases List.mem_cons.1 h with e|h
  ·cases e;rw[if_pos rfl]
  ·have hne:x'≠x:=fun e=>hn.1 (List.mem_map.2 ⟨(x,y),h,e.symm⟩)
   rw[if_neg hne]
   exact ih hn.2 h
section
variable {cx:Cx}
def Keeps (R:Blk→Blk→Prop)(σ:List (Nat×Nat))(M:Mem)(cx:Cx):Prop:=∀(X:Nat→Prop) (w0:World) (I:Nat→Prop) (ρ ρ':Names) (D':Nat→Prop) (w:World),Rel cx.G X w0 I ρ M w→(∀ x y,newName σ x=some y→ρ' y=ρ x)→(∀ b,D' b→Dom X ρ M b)→(∀ x l,newName σ x=none→(M x).isSome=true→ρ x=some l → ¬ D' l.b) →
 ∀ k0 k,R k0 k→(∀ l,BlkAt ρ (Dom X ρ M) w l k0→BlkAt ρ' D' w l k)∧(k0.rows=[]→k.rows=[])
theorem keeps_ren (σ:List (Nat×Nat))(M:Mem):Keeps (renR σ) σ M cx:=fun X w0 I ρ ρ' D' w hr hnew hdom hout k0 k h=>by
 obtain⟨g3,g4⟩:=h
 refine⟨fun l a4=>(a4.ren hnew hdom g3).le g4,fun a1=>?_⟩
 have hz:(k0.ren σ).rows=[]:=by simp[Blk.ren,renLL,a1,plainLL]
 have:=(leLL_get g4.2.2).1
 rw[hz]at this
 cases hb:k.rows with
 | nil=>rfl
 | cons x y=>rw[hb]at this;simp at this
theorem weak_canR {R:Blk→Blk→Prop}(hG:∀ g,(cx.G g).plain=true){b0 nm nm':Nat}{e:Env}{M:Mem}{Es:List (Nat×V)}{Ms:List (Nat×Blk)}(src:List (Option Nat))(hK:Keeps R (sigS (zipS Ms src)) M cx)(hn:b0≤nm')(hM:canM R b0 nm' M (zipS Ms src))(hE:canE M (sigS (zipS Ms src)) e Es):Weak cx b0 nm e M nm' (envL Es) (memL Ms):=by
  intro N X w0 I ρ0 ρ a w h
  generalize hC:zipS Ms src=C at hM hE
  rw[hC]at hK
  generalize hσ:sigS C=σ at hM hE hK
  obtain⟨nd1,nd2⟩:=canM_nodup hM
  rw[hσ]at nd1 nd2
  let ρ':Names:=fun y=>if y<b0 then ρ0 y else match oldName σ y with|some x=>ρ x|none=>none
  have hnew:∀ x y,newName σ x=some y→ρ' y=ρ x:=fun x y hxy=>by
    have hmem:=newName_some hxy
    rw[← hσ,sigS_mem]at hmem
    obtain⟨k,hk⟩:=hmem
    obtain⟨g1,g2,g3⟩:=canM_get hM hk
    show(if y<b0 then ρ0 y else match oldName σ y with|some x=>ρ x|none=>none)=ρ x
    by_cases hy:y<b0
    · rw[if_pos hy]
      rcases g2 with g2|rfl
      · omega
      · exact(h.low x hy).symm
    · rw[if_neg hy,oldName_of nd2 (newName_some hxy)]
  have src':∀ y k,memL Ms y=some k→(∃ x k0,(y,some x,k)∈C∧M x=some k0∧R k0 k∧ρ' y=ρ x∧newName σ x=some y)∨(k.rows=[]∧ρ' y=none):=fun y k hk=>by
    obtain⟨o,ho⟩:=memL_zip (src:=src) hk
    rw[hC]at ho
    obtain⟨g1,g2⟩:=canM_get hM ho
    cases o with
    | some x =>
      simp only at g2
      obtain⟨g2,g3⟩:=g2
      cases hx:M x with
      | none=>rw[hx]at g3;exact g3.elim
      | some k0 =>
        rw[hx]at g3
        have hin:(x,y)∈σ:=by rw[← hσ,sigS_mem];exact⟨k,ho⟩
        have hnn:newName σ x=some y:=newName_of nd1 hin
        exact .inl ⟨x,k0,ho,hx,g3,hnew x y hnn,hnn⟩
    | none =>
      simp only at g2
      refine .inr ⟨g2.2.1,?_⟩
      show(if y<b0 then ρ0 y else match oldName σ y with|some x=>ρ x|none=>none)=none
      rw[if_neg (by omega)]
      cases hon:oldName σ y with
      | none=>rfl
      | some x =>
        have hin:=oldName_some hon
        rw[← hσ,sigS_mem]at hin
        obtain⟨k',hk'⟩:=hin
        cases canM_one hM ho hk'
  have hdom:∀ b,Dom X ρ' (memL Ms) b→Dom X ρ M b:=by
    rintro b (hx|⟨y,l,h1,h2,h3⟩)
    · exact .inl hx
    · obtain⟨k,hk⟩:=Option.isSome_iff_exists.1 h1
      rcases src' y k hk with ⟨x,k0,_,g1,_,g2,_⟩|⟨_,g⟩
      · exact .inr ⟨x,l,by rw[g1];rfl,by rw[← g2];exact h2,h3⟩
      · rw[h2]at g;cases g
  have hinj:∀ x y y',newName σ x=some y→newName σ x=some y'→y=y':=fun x y y' h1 h2=>by rw[h1]at h2;exact Option.some.inj h2
  have hout:∀ x l,newName σ x=none→(M x).isSome=true→ρ x=some l → ¬ Dom X ρ' (memL Ms) l.b:=by
    rintro x l hn hMx hl (hX|⟨y,l',h1,h2,h3⟩)
    · exact(h.rel.block_lt hMx hl).2.1 hX
    · obtain⟨k,hk⟩:=Option.isSome_iff_exists.1 h1
      rcases src' y k hk with ⟨x',k0,_,g1,_,g2,g5⟩|⟨_,g⟩
      · have:=h.rel.inj x' x l' l (by rw[g1];rfl) hMx (by rw[← g2];exact h2) hl h3
        subst this
        rw[hn]at g5;cases g5
      · rw[h2]at g;cases g
  refine⟨ρ',⟨?_,⟨h.env.size,h.env.defers,fun t ht=>?_⟩,fun x hx=>⟨memL_none (src:=src) (by rw[hC];exact hM) hx,?_⟩,fun x l hx=>?_,hn,fun x hx=>?_,h.top⟩⟩
  · exact
    { size:=h.rel.size,os:=h.rel.os,tape:=h.rel.tape,output:=h.rel.output,old:=h.rel.old
      live:=fun y k hk=>by
        rcases src' y k hk with ⟨x,k0,_,g1,g3,g2,_⟩|⟨g1,g2⟩
        · obtain⟨q1,q2⟩:=hK X w0 I ρ ρ' (Dom X ρ' (memL Ms)) w h.rel hnew hdom hout k0 k g3
          rcases h.rel.live x k0 g1 with ⟨a1,a2⟩|⟨l,a1,a2,a3,a4⟩
          · exact .inl ⟨q2 a1,by rw[g2];exact a2⟩
          · exact .inr ⟨l,by rw[g2];exact a1,a2,a3,q1 l a4⟩
        · exact .inl ⟨g1,g2⟩
      inj:=fun y y' l l' h1 h2 h3 h4 h5=>by
        obtain⟨k,hk⟩:=Option.isSome_iff_exists.1 h1
        obtain⟨k',hk'⟩:=Option.isSome_iff_exists.1 h2
        rcases src' y k hk with ⟨x,k0,_,g1,_,g2,g5⟩|⟨_,g⟩
        · rcases src' y' k' hk' with ⟨x',k0',_,g1',_,g2',g5'⟩|⟨_,g⟩
          · have:=h.rel.inj x x' l l' (by rw[g1];rfl) (by rw[g1'];rfl) (by rw[← g2];exact h3) (by rw[← g2'];exact h4) h5
            subst this
            exact hinj x y y' g5 g5'
          · rw[h4]at g;cases g
        · rw[h3]at g;cases g
      hX:=h.rel.hX
      glob:=fun g=>(h.rel.glob g).plain (Nat.le_refl _) (fun _ _ _=>rfl) (fun b _ hb=>hdom b hb) (hG g) }
  · have key:∀ {L:List (Nat×V)},canE M σ e L→Is ρ' (Dom X ρ' (memL Ms)) w (envL L t) (a.tmps.getD t undef):=by
      intro L
      induction L with
      | nil=>intro _;exact .any _
      | cons p r ih =>
        obtain⟨t',v⟩:=p
        intro hc
        simp only[envL]
        split
        · rename_i he
          subst he
          exact(fin_is (cx:=cx) h.rel hnew hdom hout (h.env.is t ht) hc.1.1).le _ hc.1.2
        · exact ih hc.2
    exact key hE
  · show(if x<b0 then ρ0 x else match oldName σ x with|some x=>ρ x|none=>none)=none
    rw[if_neg (by omega)]
    cases hon:oldName σ x with
    | none=>rfl
    | some z =>
      have hin:=oldName_some hon
      rw[← hσ,sigS_mem]at hin
      obtain⟨k',hk'⟩:=hin
      have:=(canM_get hM hk').1
      omega
  · show(if x<b0 then ρ0 x else match oldName σ x with|some x=>ρ x|none=>none)=some l
    by_cases hxb:x<b0
    · rw[if_pos hxb];exact hx
    · rw[h.top x (by omega)]at hx;cases hx
  · show(if x<b0 then ρ0 x else match oldName σ x with|some x=>ρ x|none=>none)=ρ0 x
    rw[if_pos hx]
theorem weak_can (hG:∀ g,(cx.G g).plain=true){b0 nm nm':Nat}{e:Env}{M:Mem}{Es:List (Nat×V)}{Ms:List (Nat×Blk)}(src:List (Option Nat))(hn:b0≤nm')(hM:canM (renR (sigS (zipS Ms src))) b0 nm' M (zipS Ms src))(hE:canE M (sigS (zipS Ms src)) e Es):Weak cx b0 nm e M nm' (envL Es) (memL Ms) :=
 weak_canR hG src (keeps_ren _ _) hn hM hE
def canJ {α:Type}(μ:α→Nat)(P:α→Prop)(nmS:Nat)(Es:α→List (Nat×V))(Ms:α→List (Nat×Blk))(g nm:Nat)(e:Env)(M:Mem):Prop:=∃ x,μ x=g∧P x∧nm=nmS∧e=envL (Es x)∧M=memL (Ms x)
variable {Q:Post} {st:List Frm} {nm:Nat} {e:Env} {M:Mem}
theorem loop_can {c:Code}(hG:∀ g,(cx.G g).plain=true){α:Type}(μ:α→Nat)(P:α→Prop)(nmS:Nat)(Es:α→List (Nat×V))(Ms:α→List (Nat×Blk))(x0:α)(src:List (Option Nat))(h0:P x0)(hb:Q.b0≤nmS)
  (hM:canM (renR (sigS (zipS (Ms x0) src))) Q.b0 nmS M (zipS (Ms x0) src)) (hE:canE M (sigS (zipS (Ms x0) src)) e (Es x0))
  (hr:∀ x,P x→go cx Q (.again (canJ μ P nmS Es Ms) (μ x)::st) nmS (envL (Es x)) (memL (Ms x)) c):goLoop cx Q st nm e M c :=
 loop_to (canJ μ P nmS Es Ms) (μ x0) (weak_can hG src hb hM hE) ⟨x0,rfl,h0,rfl,rfl,rfl⟩ (by rintro g nm e M ⟨x,rfl,hP,rfl,rfl,rfl⟩;exact hr x hP)
theorem again_can (hG:∀ g,(cx.G g).plain=true){α:Type}{μ:α→Nat}{P:α→Prop}{nmS:Nat}{Es:α→List (Nat×V)}{Ms:α→List (Nat×Blk)}{g:Nat}(x:α)(src:List (Option Nat))(hg:μ x<g)(h0:P x)(hb:Q.b0≤nmS)
  (hM:canM (renR (sigS (zipS (Ms x) src))) Q.b0 nmS M (zipS (Ms x) src)) (hE:canE M (sigS (zipS (Ms x) src)) e (Es x)):goEx cx Q (.again (canJ μ P nmS Es Ms) g::st) nm e M .normal :=
 again_to (μ x) hg (weak_can hG src hb hM hE) ⟨x,rfl,h0,rfl,rfl,rfl⟩
end
def objK (o:Obj):Blk:=@Blk.mk 0 [] (.obj o)
section
variable {G:Nat→V} {X:Nat→Prop} {w0:World} {I:Nat→Prop} {ρ:Names} {M:Mem} {w w':World} {D:Nat→Prop}
theorem obj_at (h:Rel G X w0 I ρ M w){y:Nat}{o:Obj}(hM:M y=some (objK o)){l:Loc}(hl:ρ y=some l):w.heap[l.b]? = some o∧l.sz=0∧l.tot=0∧l.o=0:=by
 rcases h.live y _ hM with ⟨_,a⟩|⟨l',a1,_,_,⟨cs,e,a2,_⟩|⟨o',_,ms',buf,_,_,a2,a3,a4,_,a5,a6,a7⟩⟩
 ·rw[hl]at a;cases a
 ·exact a2.elim
 ·rw[hl]at a1;cases a1
  obtain⟨rfl,_,h0⟩:=a2
  exact⟨a3,a4.symm,a5,h0⟩
def setAt (w:World)(b:Nat)(o:Obj):World:={ w with heap:=w.heap.setIfInBounds b o }
theorem setAt_same {b:Nat}{o:Obj}(h:b<w.heap.size):(setAt w b o).heap[b]? = some o:=by simp[setAt,h]
theorem Rel.setObj (h:Rel G X w0 I ρ M w){y:Nat}{o o':Obj}(hM:M y=some (objK o)){l:Loc}(hl:ρ y=some l) :
  Rel G X w0 I ρ (M.put y (some (objK o'))) (setAt w l.b o')∧Moves ρ M w ρ (M.put y (some (objK o'))) (setAt w l.b o'):=by
 obtain⟨hh,hz,ht,h0⟩:=obj_at h hM hl
 have hk:∀ b,b≠l.b→(setAt w l.b o').heap[b]? = w.heap[b]?:=fun b hb=>by
  simp only[setAt];rw[Array.getElem?_setIfInBounds_ne (Ne.symm hb)]
 have hs:∀ x,((M.put y (some (objK o'))) x).isSome=true→(M x).isSome=true:=fun x hx=>by
  by_cases e:x=y
  ·subst e;rw[hM];rfl
  ·rwa[Mem.put_ne _ _ e]at hx
 have m:Moves ρ M w ρ (M.put y (some (objK o'))) (setAt w l.b o') :=
  ⟨fun _ _ h=>h,by simp[setAt],rfl,rfl,rfl,fun b _ hn=>hk b (fun e=>hn y l (by rw[hM];rfl) hl e.symm),fun n l' a1 a2 _=>⟨n,l',hs n a1,a2,rfl⟩⟩
 refine⟨h.move m (fun a b l1 l2 a1 a2 a3 a4 a5=>h.inj a b l1 l2 (hs a a1) (hs b a2) a3 a4 a5) ?_,m⟩
 intro x kx hx
 by_cases e:x=y
 ·subst e
  rw[Mem.put_same]at hx
  cases hx
  obtain⟨b1,b2,b3⟩:=h.block_lt (by rw[hM];rfl) hl
  exact .inr (.inr ⟨l,hl,b3,b2,.inr ⟨_,(),[],#[],(),(),⟨rfl,rfl,h0⟩,setAt_same b1,hz.symm,rfl,ht,rfl,fun i u hi=>by simp at hi⟩⟩)
 ·rw[Mem.put_ne _ _ e]at hx
  exact .inl ⟨hx,id,fun lx hlx=>hk _ (fun e2=>e (h.inj x y lx l (by rw[hx];rfl) (by rw[hM];rfl) hlx hl e2))⟩
theorem Rel.newObj (h:Rel G X w0 I ρ M w){nm:Nat}(hM:M nm=none)(hρ:ρ nm=none)(o:Obj){v:V}{cv:Value}(hv:∀ ρ D w',ρ nm=some ⟨w.heap.size,0,0,0⟩→Is ρ D w' v cv) :
  Steps1 G X w0 I ρ M w nm v (M.put nm (some (objK o))) cv (w.alloc o):=by
 have hne:∀ x,(M x).isSome=true→x≠nm:=fun x hx e=>by subst e;rw[hM]at hx;cases hx
 have hlt:∀ x l,(M x).isSome=true→ρ x=some l→l.b<w.heap.size:=fun x l hx hl=>(h.block_lt hx hl).1
 have m:Moves ρ M w (ρ.put nm ⟨w.heap.size,0,0,0⟩) (M.put nm (some (objK o))) (w.alloc o):=by
  refine⟨fun x l hx=>by rw[Names.put_ne _ _ (fun e=>by subst e;rw[hρ]at hx;cases hx)];exact hx,by simp,rfl,rfl,rfl,fun b hb _=>Below.heap_alloc _ _ _ hb,fun x l a1 a2 a3=>?_⟩
  by_cases e:x=nm
  ·subst e;rw[Names.put_same]at a2;cases a2;simp at a3
  ·rw[Names.put_ne _ _ e]at a2;rw[Mem.put_ne _ _ e]at a1
   exact⟨x,l,a1,a2,rfl⟩
 refine⟨ρ.put nm ⟨w.heap.size,0,0,0⟩,h.move m ?_ ?_,m,hv _ _ _ (Names.put_same _ _ _),fun x hx=>Names.put_ne _ _ hx⟩
 ·intro x y l l' a1 a2 a3 a4 a5
  by_cases ex:x=nm
  ·subst ex
   rw[Names.put_same]at a3;cases a3
   by_cases ey:y=x
   ·exact ey.symm
   ·rw[Names.put_ne _ _ ey]at a4;rw[Mem.put_ne _ _ ey]at a2
    have:=hlt y l' a2 a4
    simp at a5;omega
  ·rw[Names.put_ne _ _ ex]at a3;rw[Mem.put_ne _ _ ex]at a1
   have:=hlt x l a1 a3
   by_cases ey:y=nm
   ·subst ey
    rw[Names.put_same]at a4;cases a4
    simp at a5;omega
   ·rw[Names.put_ne _ _ ey]at a4;rw[Mem.put_ne _ _ ey]at a2
    exact h.inj x y l l' a1 a2 a3 a4 a5
 ·intro x kx hx
  by_cases ex:x=nm
  ·subst ex
   rw[Mem.put_same]at hx;cases hx
   refine .inr (.inr ⟨_,Names.put_same _ _ _,.inr h.size,fun hX=>?_,.inr ⟨_,(),[],#[],(),(),⟨rfl,rfl,rfl⟩,heap_alloc_new w _,rfl,rfl,rfl,rfl,fun i u hi=>by simp at hi⟩⟩)
   have:=(h.hX _ hX).1
   have:=h.size
   simp at *;omega
  ·rw[Mem.put_ne _ _ ex]at hx
   exact .inl ⟨hx,fun hn=>by rw[Names.put_ne _ _ ex];exact hn,fun lx hlx=>Below.heap_alloc _ _ _ (hlt x lx (by rw[hx];rfl) hlx)⟩
end
def iterK (s:List UInt8)(pos:Nat):Blk:=objK (.stringIter ⟨s.toArray⟩ pos)
theorem ren_iter (σ:List (Nat×Nat))(s:List UInt8)(p:Nat):Blk.ren σ (iterK s p)=iterK s p:=rfl
theorem renOk_iter (σ:List (Nat×Nat))(s:List UInt8)(p:Nat):Blk.renOk σ (iterK s p)=true:=rfl
def runeAt (s:List UInt8)(pos:Nat):Nat×Nat:=Utf8.decode ⟨s.toArray⟩ pos
section
variable {cx:Cx} {Q:Post} {st:List Frm} {nm:Nat} {e:Env} {M:Mem} {d:Bool} {fs:List (List Nat)} {ops r:List Oper} {dst:Option Tmp} {t:TypeId} {pos:String} {af:Array Edge} {gd:Option (Nat×Bool)} {i:Nat}
theorem ext_range {ty:TypeId}{x:Operand}{s:List UInt8}(hx:evalV cx.G true e x = .str s)(ht:cx.P.underlying ty=some .string)
  (h:goOps cx Q st nm (e.putD dst (.ptr (nm+16*i) 0 0)) (M.app [(nm+16*i,some (iterK s 0))]) d (fs++[[nm+16*i]]) ops r (i+1)):goExt cx Q st nm e M d fs ops ⟨dst,.range ty x,t,pos,af,gd⟩ r i:=by
 refine⟨_,_,_,⟨fun x hx=>hx,fun x hx=>?_,fun _=>rfl,fun _=>rfl,?_⟩,h⟩
 ·simp only[effNames,List.map_cons,List.map_nil,List.mem_singleton]at hx
  subst hx;exact .inr ⟨Nat.le_refl _,by omega⟩
 ·intro N X w0 I ρ e' M' a w hr he hin hev _ hf
  obtain⟨f1,f2⟩:=hf (nm+16*i) ⟨Nat.le_refl _,by omega⟩
  have hxi:=he.eval hr (c:=true) rfl (hin x (by simp[Op.operands]))
  rw[hev x (by simp[Op.operands]),hx]at hxi
  generalize hcv:a.eval x=cv at hxi
  cases hxi
  refine⟨_,_,(Rel.newObj (v:=.ptr (nm+16*i) 0 0) hr f1 f2 (.stringIter ⟨s.toArray⟩ 0) (cv:=.pointer (some ⟨w.heap.size,0,none⟩)) (fun ρ D w' hl=>?_)).n,wp_val (s:=Instr.range ty (a.eval x)) rfl ?_⟩
  ·have:=Is.ptr (D:=D) (w:=w') (i:=0) (j:=0) hl
   simpa using this
  ·rw[hcv];exact run_range_string w ty _ ht
theorem run_next_at {P:Program}{w:World}{b:Nat}{s:ByteArray}{p:Nat}(ty:TypeId)(hb:w.heap[b]? = some (.stringIter s p))(h:p<s.size) :
  (Instr.next (.pointer (some ⟨b,0,none⟩)) true ty).run P w = .ok (.tuple #[.bool true,.int .i64 p,.int .i32 (Utf8.decode s p).1]) (setAt w b (.stringIter s (p+(Utf8.decode s p).2))):=by
 simp only[Instr.next,getObj,Go.setObj,Sem.run_bind,Sem.run,hb,Result.andThen,h,if_true]
 simp[goInt,setAt]
theorem run_next_over {P:Program}{w:World}{b:Nat}{s:ByteArray}{p:Nat}(ty:TypeId)(hb:w.heap[b]? = some (.stringIter s p))(h:¬ p<s.size) :
  (Instr.next (.pointer (some ⟨b,0,none⟩)) true ty).run P w = .ok (.tuple #[.bool false]) w:=by
 simp[Instr.next,getObj,Sem.run,hb,h]
theorem ext_next {x:Operand}{s:List UInt8}{y p:Nat}(hx:evalV cx.G true e x = .ptr y 0 0)(hM:M y=some (iterK s p))(hp:p<s.length)
  (h:goOps cx Q st nm (e.putD dst (.tup [.bool true,.int .i64 p,.int .i32 (runeAt s p).1])) (M.app [(y,some (iterK s (p+(runeAt s p).2)))]) d (fs++[[y]]) ops r (i+1)):goExt cx Q st nm e M d fs ops ⟨dst,.next x true,t,pos,af,gd⟩ r i:=by
 refine⟨_,_,_,⟨fun x hx=>hx,fun x hx=>?_,fun _=>rfl,fun _=>rfl,?_⟩,h⟩
 ·simp only[effNames,List.map_cons,List.map_nil,List.mem_singleton]at hx
  subst hx;exact .inl (by rw[hM];rfl)
 ·intro N X w0 I ρ e' M' a w hr he hin hev hMM hf
  have hxi:=he.eval hr (c:=true) rfl (hin x (by simp[Op.operands]))
  rw[hev x (by simp[Op.operands]),hx]at hxi
  have hM':M' y=some (iterK s p):=by rw[hMM y (List.mem_singleton.2 rfl)];exact hM
  generalize hcv:a.eval x=cv at hxi
  cases hxi with
  | ptr hl =>
   rename_i l
   obtain⟨hh,hz,ht,h0⟩:=obj_at hr hM' hl
   obtain⟨g1,g2⟩:=Rel.setObj hr hM' hl (o':=.stringIter ⟨s.toArray⟩ (p+(runeAt s p).2))
   refine⟨_,_,⟨ρ,g1,g2,is_triple (.bool _) (.int _ _) (.int _ _),fun _ _=>rfl⟩,wp_val (s:=Instr.next (a.eval x) true t) rfl ?_⟩
   rw[hcv,h0,hz]
   exact run_next_at t hh (by simpa [ByteArray.size] using hp)
theorem ext_over {x:Operand}{s:List UInt8}{y p:Nat}(hx:evalV cx.G true e x = .ptr y 0 0)(hM:M y=some (iterK s p))(hp:¬ p<s.length)
  (h:goOps cx Q st nm (e.putD dst (.tup [.bool false])) M d (fs++[[y]]) ops r (i+1)):goExt cx Q st nm e M d fs ops ⟨dst,.next x true,t,pos,af,gd⟩ r i:=by
 refine⟨_,[],_,⟨fun x hx=>by simp[effNames]at hx,fun x hx=>by simp[effNames]at hx,fun _=>rfl,fun _=>rfl,?_⟩,h⟩
 intro N X w0 I ρ e' M' a w hr he hin hev hMM hf
 have hxi:=he.eval hr (c:=true) rfl (hin x (by simp[Op.operands]))
 rw[hev x (by simp[Op.operands]),hx]at hxi
 have hM':M' y=some (iterK s p):=by rw[hMM y (List.mem_singleton.2 rfl)];exact hM
 generalize hcv:a.eval x=cv at hxi
 cases hxi with
 | ptr hl =>
  rename_i l
  obtain⟨hh,hz,ht,h0⟩:=obj_at hr hM' hl
  refine⟨.tuple #[.bool false],w,(Steps1.still (nm:=nm+16*i) hr (.tup rfl (fun i u cv hi hc=>?_))).n,wp_val (s:=Instr.next (a.eval x) true t) rfl ?_⟩
  ·cases i with
   | zero=>simp at hi hc;subst hi;subst hc;exact .bool _
   | succ i=>simp at hi
  ·rw[hcv,h0,hz]
   exact run_next_over t hh (by simpa [ByteArray.size] using hp)
end
theorem Ev.extern {cx : Cx} {f : FuncId} {fn : Func} {g : Array Value → Sem Value} (hf : cx.P.funcs[f]? = some fn) (hname : (fn.name == "runtime.NumGoroutine") = false) (hb : fn.body.isNone = true) (hn : Extern.findNext fn = none)
  (he:Extern.find fn=some g) (args:List V) (M:Mem) (v:V) (nm:Nat)
  (hrun:∀(ρ:Names) (D:Nat→Prop) (w:World) (cargs:Array Value),args.length=cargs.size→(∀(i:Nat) (u:V) (cv:Value),args[i]? = some u→cargs[i]? = some cv→Is ρ D w u cv) → ∃ cv,(g cargs).run cx.P w = .ok cv w∧Is ρ D w v cv) :
  Ev cx f nm args M v []:=by
 refine⟨trivial,fun X w ρ cargs B hr hfr hB hlen hargs=>?_⟩
 obtain⟨cv,h1,h2⟩:=hrun ρ _ w cargs hlen hargs
 refine .inr ⟨cv,w,?_,cv,rfl,ρ,hr,.refl _ _ _,h2,fun _ _=>rfl⟩
 rw[run_callFunc_extern hf hname hb hn he,h1];rfl
theorem Ev.indexByte {cx : Cx} {f : FuncId} {fn : Func} (hf : cx.P.funcs[f]? = some fn) (hname : (fn.name == "runtime.NumGoroutine") = false) (hb : fn.body.isNone = true) (hn : Extern.findNext fn = none)
  (he:Extern.find fn=some Extern.BytealgIndexByte.indexByte) (s:List UInt8) (c:UInt8) (M:Mem) (nm:Nat):Ev cx f nm [.str s,.int .u8 c.toNat] M (.int .i64 (Lib.indexByte s c)) []:=by
 refine Ev.extern hf hname hb hn he _ _ _ _ (fun ρ D w cargs hlen hargs=>?_)
 match cargs,hlen,hargs with
 |⟨[v0,v1]⟩,_,hargs =>
 have h0:=hargs 0 _ v0 rfl rfl
 have h1:=hargs 1 _ v1 rfl rfl
 cases h0;cases h1
 refine⟨_,Lib.run_indexByteString _ _ _,?_⟩
 simp only[Int.toNat_natCast]
 have:(c.toNat).toUInt8=c:=by simp
 rw[this]
 exact .int _ _
section
variable {cx:Cx} {Q:Post} {st:List Frm} {nm:Nat} {e:Env} {M:Mem} {d:Bool} {fs:List (List Nat)} {ops r:List Oper} {dst:Option Tmp} {t:TypeId} {pos:String} {af:Array Edge} {gd:Option (Nat×Bool)} {i:Nat}
end
def known1:V→Bool
 | .bool _ | .int _ _ | .str _ | .nilp | .nils | .val _=>true
 | _=>false
def known:V→Bool
 | .agg cells=>cells.all known1
 | v=>known1 v
section
variable {cx:Cx} {Q:Post} {st:List Frm} {nm:Nat} {e:Env} {M:Mem} {d:Bool} {fs:List (List Nat)} {ops r:List Oper} {dst:Option Tmp} {t:TypeId} {pos:String} {af:Array Edge} {gd:Option (Nat×Bool)} {i:Nat}
end
section
variable {cx:Cx} {f:FuncId} {nm:Nat} {args:List V} {M:Mem} {v:V} {eff:List (Nat×Option Blk)}
theorem Ev.frame (l:List Nat)(h:Ev cx f nm args (M.only l) v eff)(heff:∀ x∈effNames eff,x∈l∨Fresh nm x)(hfr:∀ x,Fresh nm x→M x=none):Ev cx f nm args M v eff:=by
 refine⟨h.1,fun X w ρ cargs B hr hf hB hn hargs=>(h.2 (FX X ρ M l) w ρ cargs B (hr.focus l) hf (fun x hx=>⟨by unfold Mem.only;simp[(hB x hx).1],(hB x hx).2⟩) hn (fun i u cv hi hc=>(hargs i u cv hi hc).focus)).mono ?_⟩
 rintro e w' ⟨cv,rfl,hs⟩
 exact⟨cv,rfl,hr.unfocus hfr heff hs⟩
end
mutual
theorem fin_plain (σ:List (Nat×Nat))(M:Mem):∀ v:V,v.plain=true→v.fin σ M=v∧v.finOk σ M
 | .agg cs,h=>by
  simp only[V.plain]at h
  obtain⟨h1,h2⟩:=finL_plain σ M cs h
  simp only[V.fin,V.finOk,h1];exact⟨trivial,h2⟩
 | .tup cs,h=>by
  simp only[V.plain]at h
  obtain⟨h1,h2⟩:=finL_plain σ M cs h
  simp only[V.fin,V.finOk,h1];exact⟨trivial,h2⟩
 | .fn f cs,h=>by
  simp only[V.plain]at h
  obtain⟨h1,h2⟩:=finL_plain σ M cs h
  simp only[V.fin,V.finOk,h1];exact⟨trivial,h2⟩
 | .fnb f cs,h=>by
  simp only[V.plain]at h
  obtain⟨h1,h2⟩:=finL_plain σ M cs h
  simp only[V.fin,V.finOk,h1];exact⟨trivial,h2⟩
 | .gd b v,h=>by
  simp only[V.plain]at h
  obtain⟨h1,h2⟩:=fin_plain σ M v h
  simp only[V.fin,V.finOk,h1];exact⟨trivial,h2⟩
 | .iface t v,h=>by
  simp only[V.plain]at h
  obtain⟨h1,h2⟩:=fin_plain σ M v h
  simp only[V.fin,V.finOk,h1];exact⟨trivial,h2⟩
 | .rp cs,h=>by simp only[V.plain]at h;simp only[V.fin,V.finOk];exact⟨trivial,h⟩
 | .sl t s rows,h=>by simp only[V.plain]at h;simp only[V.fin,V.finOk];exact⟨trivial,h⟩
 | .ys t s rows,h=>by simp only[V.plain]at h;simp only[V.fin,V.finOk];exact⟨trivial,h⟩
 | .own _ _ _,h | .ownc _ _ _ _,h | .ptr _ _ _,h | .chan _,h | .mp _,h=>by simp[V.plain]at h
 | .any,_ | .bool _,_ | .bit _ _,_ | .int _ _,_ | .str _,_ | .nilp,_ | .upt,_ | .nils,_ | .val _,_=>⟨by simp only[V.fin],by simp only[V.finOk]⟩
theorem finL_plain (σ:List (Nat×Nat))(M:Mem):∀ cs:List V,plainL cs=true→finL σ M cs=cs∧finLOk σ M cs
 | [],_=>⟨by simp only[finL],by simp only[finLOk]⟩
 | v::r,h=>by
  simp only[plainL,Bool.and_eq_true]at h
  obtain⟨h1,h2⟩:=fin_plain σ M v h.1
  obtain⟨h3,h4⟩:=finL_plain σ M r h.2
  simp only[finL,finLOk,h1,h3]
  exact⟨trivial,h2,h4⟩
end
def finLL (σ:List (Nat×Nat))(M:Mem)(rows:List (List V)):List (List V):=rows.map (finL σ M)
def finLLOk (σ:List (Nat×Nat))(M:Mem)(rows:List (List V)):Prop:=∀ r∈rows,finLOk σ M r
theorem finLL_nil (σ:List (Nat×Nat))(M:Mem):finLL σ M []=[]:=rfl
theorem finLL_cons (σ:List (Nat×Nat))(M:Mem)(r:List V)(rows:List (List V)):finLL σ M (r::rows)=finL σ M r::finLL σ M rows:=rfl
theorem finLL_append (σ:List (Nat×Nat))(M:Mem)(a b:List (List V)):finLL σ M (a++b)=finLL σ M a++finLL σ M b:=List.map_append
theorem finLL_plain (σ:List (Nat×Nat))(M:Mem){rows:List (List V)}(h:plainLL rows=true):finLL σ M rows=rows:=by
 unfold finLL
 rw[plainLL_all,List.all_eq_true]at h
 conv=>rhs;rw[← List.map_id rows]
 exact List.map_congr_left (fun r hr=>(finL_plain σ M r (h r hr)).1)
theorem finLLOk_nil (σ:List (Nat×Nat))(M:Mem):finLLOk σ M []=True:=eq_true (fun r hr=>by simp at hr)
theorem finLLOk_cons (σ:List (Nat×Nat))(M:Mem)(r:List V)(rows:List (List V)):finLLOk σ M (r::rows)=(finLOk σ M r∧finLLOk σ M rows):=by
 unfold finLLOk;simp
theorem finLLOk_append (σ:List (Nat×Nat))(M:Mem)(a b:List (List V)):finLLOk σ M (a++b)=(finLLOk σ M a∧finLLOk σ M b):=by
 unfold finLLOk
 simp only[List.mem_append,eq_iff_iff]
 exact⟨fun h=>⟨fun r hr=>h r (.inl hr),fun r hr=>h r (.inr hr)⟩,fun h r hr=>hr.elim (h.1 r) (h.2 r)⟩
theorem finLLOk_plain (σ:List (Nat×Nat))(M:Mem){rows:List (List V)}(h:plainLL rows=true):finLLOk σ M rows=True:=by
 rw[plainLL_all,List.all_eq_true]at h
 exact eq_true (fun r hr=>(finL_plain σ M r (h r hr)).2)
theorem obLe_same (o:Ob):Ob.le o o=True:=eq_true (.inl rfl)
theorem leLL_cons (x y:List V)(xs ys:List (List V)):leLL (x::xs) (y::ys)=(leL x y∧leLL xs ys):=rfl
def finR (σ:List (Nat×Nat))(M:Mem)(k0 k:Blk):Prop:=renR σ k0 k∨(k0.ob.isRow=true∧finLLOk σ M k0.rows∧k0.sz=k.sz∧k0.ob.le k.ob∧leLL (finLL σ M k0.rows) k.rows)
theorem keeps_fin {cx:Cx}(σ:List (Nat×Nat))(M:Mem):Keeps (finR σ M) σ M cx:=fun X w0 I ρ ρ' D' w hr hnew hdom hout k0 k h=>by
 rcases h with h|⟨h1,h2,h3,h4,h5⟩
 ·exact keeps_ren σ M X w0 I ρ ρ' D' w hr hnew hdom hout k0 k h
 ·obtain⟨f1,f2⟩:=leLL_get h5
  have hlen:k.rows.length=k0.rows.length:=by rw[← f1];simp[finLL]
  refine⟨fun l hb=>?_,fun hz=>by rw[hz]at hlen;exact List.eq_nil_of_length_eq_zero (by simpa using hlen)⟩
  rcases hb with ⟨cs,e,g1,g2,g3,g4,g5,g6,g7⟩|⟨o,_,msgs,buf,_,_,g1,_⟩
  ·refine .inl ⟨cs,e,Ob.le_ok g1 h4,g2,by rw[← h3];exact g3,by rw[hlen];exact g4,g5,fun i row hi=>?_,fun i j row u hi hj=>?_⟩
   ·obtain⟨x,q1,q2⟩:=f2 i row hi
    unfold finLL at q1
    rw[List.getElem?_map]at q1
    obtain⟨row',q3,rfl⟩:=Option.map_eq_some_iff.1 q1
    rw[←(leL_get q2).1,finL_length];exact g6 i row' q3
   ·obtain⟨x,q1,q2⟩:=f2 i row hi
    unfold finLL at q1
    rw[List.getElem?_map]at q1
    obtain⟨row',q3,rfl⟩:=Option.map_eq_some_iff.1 q1
    obtain⟨v,q4,q5⟩:=(leL_get q2).2 j u hj
    rw[finL_get]at q4
    obtain⟨v',q6,rfl⟩:=Option.map_eq_some_iff.1 q4
    obtain⟨cv,c1,c2⟩:=g7 i j row' v' q3 q6
    exact⟨cv,c1,(fin_is (cx:=cx) hr hnew hdom hout c2 (finLOk_get (h2 row' (List.mem_of_getElem? q3)) q6)).le u q5⟩
  ·exfalso
   cases ho:k0.ob with
   | cells=>rw[ho]at g1;exact g1
   | typed t=>rw[ho]at g1;exact g1
   | chan a b c=>rw[ho]at h1;cases h1
   | obj o=>rw[ho]at h1;cases h1
section
variable {cx:Cx} {Q:Post} {st:List Frm} {nm:Nat} {e:Env} {M:Mem}
theorem again_canF (hG:∀ g,(cx.G g).plain=true){α:Type}{μ:α→Nat}{P:α→Prop}{nmS:Nat}{Es:α→List (Nat×V)}{Ms:α→List (Nat×Blk)}{g:Nat}(x:α)(src:List (Option Nat))(hg:μ x<g)(h0:P x)(hb:Q.b0≤nmS)
  (hM:canM (finR (sigS (zipS (Ms x) src)) M) Q.b0 nmS M (zipS (Ms x) src)) (hE:canE M (sigS (zipS (Ms x) src)) e (Es x)):goEx cx Q (.again (canJ μ P nmS Es Ms) g::st) nm e M .normal :=
 again_to (μ x) hg (weak_canR hG src (keeps_fin _ _) hb hM hE) ⟨x,rfl,h0,rfl,rfl,rfl⟩
theorem loop_canF {c:Code}(hG:∀ g,(cx.G g).plain=true){α:Type}(μ:α→Nat)(P:α→Prop)(nmS:Nat)(Es:α→List (Nat×V))(Ms:α→List (Nat×Blk))(x0:α)(src:List (Option Nat))(h0:P x0)(hb:Q.b0≤nmS)
  (hM:canM (finR (sigS (zipS (Ms x0) src)) M) Q.b0 nmS M (zipS (Ms x0) src)) (hE:canE M (sigS (zipS (Ms x0) src)) e (Es x0))
  (hr:∀ x,P x→go cx Q (.again (canJ μ P nmS Es Ms) (μ x)::st) nmS (envL (Es x)) (memL (Ms x)) c):goLoop cx Q st nm e M c :=
 loop_to (canJ μ P nmS Es Ms) (μ x0) (weak_canR hG src (keeps_fin _ _) hb hM hE) ⟨x0,rfl,h0,rfl,rfl,rfl⟩ (by rintro g nm e M ⟨x,rfl,hP,rfl,rfl,rfl⟩;exact hr x hP)
end
end Go.Proofs.Ytfcfldmioonipaa.Vm
namespace Go.Proofs.Ytfcfldmioonipaa.Vm
open And renaming intro→Ai
set_option linter.unusedSimpArgs false
set_option linter.unusedVariables false
open Go Go.RowKit
set_option linter.defProp false
def wks0 :=
 (Ai (Ai (Ai (Ai @envL_cons @envL_nil) (Ai @memL_cons (Ai @memL_nil @Go.maxLen.eq_1))) (Ai (Ai @forall_eq'.{1} (Ai @forall_eq'.{0} @exists_eq'.{1})) (Ai @exists_eq'.{0} (Ai @Prod.mk.injEq.{0,0} @Bool.true_or)))) (Ai (Ai (Ai @Bool.false_or @Bool.or_true) (Ai @Bool.or_false (Ai @Bool.true_and @Bool.false_and))) (Ai (Ai @Bool.and_false (Ai @pick_false @pick_true)) (Ai @goGuard_sgd (Ai @Option.bind_some.{0,0} @Option.bind_none.{0,0})))))
def wks:=wks0
def cans0 :=
 (Ai (Ai (Ai (Ai @canM.eq_1 (Ai @canM.eq_2 @canM.eq_3)) (Ai @renR.eq_1 (Ai @canE.eq_1 @canE.eq_2))) (Ai (Ai @Nat.lt_add_right_iff_pos (Ai @Nat.add_lt_add_iff_left @leBlk_mk)) (Ai @leBlk_same (Ai @leLL_same @leLL.eq_1)))) (Ai (Ai (Ai @leLL.eq_2 (Ai @zipS.eq_1 @zipS.eq_2)) (Ai @zipS.eq_3 (Ai @sigS.eq_1 @sigS.eq_2))) (Ai (Ai @sigS.eq_3 (Ai @endP_b0 @envL_cons)) (Ai @envL_nil (Ai @memL_cons @memL_nil)))))
def cans1 :=
 (Ai (Ai (Ai (Ai @ren_mk (Ai @renOk_mk @renLL.eq_1)) (Ai @renOkLL.eq_1 (Ai @renL.eq_1 @renL.eq_2))) (Ai (Ai @renOkL.eq_1 (Ai @renOkL.eq_2 @V.ren.eq_1)) (Ai @V.ren.eq_2 (Ai @V.ren.eq_3 @V.ren.eq_4)))) (Ai (Ai (Ai @V.ren.eq_5 (Ai @V.ren.eq_6 @V.ren.eq_7)) (Ai @V.ren.eq_8 (Ai @V.ren.eq_9 @V.ren.eq_10))) (Ai (Ai @V.ren.eq_11 (Ai @V.ren.eq_12 @V.renOk.eq_1)) (Ai @V.renOk.eq_2 (Ai @V.renOk.eq_3 @V.renOk.eq_4)))))
def cans2 :=
 (Ai (Ai (Ai (Ai @V.renOk.eq_5 (Ai @V.renOk.eq_6 @V.renOk.eq_7)) (Ai @V.renOk.eq_8 (Ai @V.renOk.eq_9 @V.renOk.eq_10))) (Ai (Ai @V.renOk.eq_11 (Ai @V.renOk.eq_12 @V.renOk.eq_13)) (Ai @V.renOk.eq_14 (Ai @V.renOk.eq_15 @V.fin.eq_1)))) (Ai (Ai (Ai @V.fin.eq_2 (Ai @V.fin.eq_3 @V.fin.eq_4)) (Ai @V.fin.eq_5 (Ai @V.fin.eq_6 @V.fin.eq_7))) (Ai (Ai @V.fin.eq_8 (Ai @V.fin.eq_9 @V.fin.eq_10)) (Ai @V.fin.eq_11 (Ai @V.fin.eq_12 @V.finOk.eq_1)))))
def cans3 :=
 (Ai (Ai (Ai (Ai @V.finOk.eq_2 (Ai @V.finOk.eq_3 @V.finOk.eq_4)) (Ai @V.finOk.eq_5 (Ai @V.finOk.eq_6 @V.finOk.eq_7))) (Ai (Ai @V.finOk.eq_8 (Ai @V.finOk.eq_9 @V.finOk.eq_10)) (Ai @V.finOk.eq_11 (Ai @V.finOk.eq_12 @V.finOk.eq_13)))) (Ai (Ai (Ai @finL.eq_1 (Ai @finL.eq_2 @finLOk.eq_1)) (Ai @finLOk.eq_2 (Ai @newName_nil @newName_cons))) (Ai (Ai @List.mem_cons.{0} (Ai @List.not_mem_nil.{0} @forall_eq.{1})) (Ai @forall_eq.{0} (Ai @forall_eq_or_imp.{1} @forall_eq_or_imp.{0})))))
def cans4 :=
 (Ai (Ai (Ai @ne_eq.{1} @ne_eq.{0}) (Ai @not_false_eq_true (Ai @not_true_eq_false @Bool.or_true))) (Ai (Ai @Bool.true_or (Ai @Bool.false_or @Bool.or_false)) (Ai @isCells_inst (Ai @Option.some.injEq.{0} @Nat.le_add_right))))
def cans:=(Ai (Ai cans0 cans1) (Ai cans2 (Ai cans3 cans4)))
def canfs0 :=
 (Ai (Ai (Ai (Ai @finR.eq_1 @finLL_nil) (Ai @finLL_cons @finLL_append)) (Ai (Ai @finLLOk_nil @finLLOk_cons) (Ai @finLLOk_append @obLe_same))) (Ai (Ai (Ai @leLL_cons @true_or) (Ai @or_true @false_or)) (Ai (Ai @or_false @eq_self.{1}) (Ai @eq_self.{0} (Ai @and_true @true_and)))))
def canfs:=canfs0
def giv0 :=
 (Ai (Ai (Ai (Ai @tgt.eq_1 (Ai @gives.eq_1 @giveOk.eq_1)) (Ai @giveOk.eq_2 (Ai @giveOk.eq_3 @giveE.eq_1))) (Ai (Ai @dropE.eq_1 (Ai @ren_mk @renOk_mk)) (Ai @renLL.eq_1 (Ai @renOkLL.eq_1 @renL.eq_1)))) (Ai (Ai (Ai @renL.eq_2 (Ai @renOkL.eq_1 @renOkL.eq_2)) (Ai @V.ren.eq_1 (Ai @V.ren.eq_2 @V.ren.eq_3))) (Ai (Ai @V.ren.eq_4 (Ai @V.ren.eq_5 @V.ren.eq_6)) (Ai @V.ren.eq_7 (Ai @V.ren.eq_8 @V.ren.eq_9)))))
def giv1 :=
 (Ai (Ai (Ai (Ai @V.ren.eq_10 (Ai @V.ren.eq_11 @V.ren.eq_12)) (Ai @V.renOk.eq_1 (Ai @V.renOk.eq_2 @V.renOk.eq_3))) (Ai (Ai @V.renOk.eq_4 (Ai @V.renOk.eq_5 @V.renOk.eq_6)) (Ai @V.renOk.eq_7 (Ai @V.renOk.eq_8 @V.renOk.eq_9)))) (Ai (Ai (Ai @V.renOk.eq_10 (Ai @V.renOk.eq_11 @V.renOk.eq_12)) (Ai @V.renOk.eq_13 (Ai @V.renOk.eq_14 @V.renOk.eq_15))) (Ai (Ai @newName_nil (Ai @newName_cons @List.mem_cons.{0})) (Ai @List.not_mem_nil.{0} (Ai @forall_eq.{1} @forall_eq.{0})))))
def giv2 :=
 (Ai (Ai (Ai @forall_eq_or_imp.{1} @forall_eq_or_imp.{0}) (Ai @ne_eq.{1} (Ai @ne_eq.{0} @not_false_eq_true))) (Ai (Ai @not_true_eq_false (Ai @Nat.le_add_right @Bool.or_true)) (Ai @Bool.true_or (Ai @Bool.false_or @Bool.or_false))))
def giv:=(Ai giv0 (Ai giv1 giv2))
def ownx0 :=
 (Ai (Ai (Ai (Ai @ghosts_nil (Ai @ghosts_cons @sigOk.eq_1)) (Ai @sigOk.eq_2 (Ai @sigE.eq_1 @sigN.eq_1))) (Ai (Ai @sigG_nil (Ai @sigG_cons @zipN_nil)) (Ai @zipN_cons (Ai @V.owns.eq_1 @V.owns.eq_2)))) (Ai (Ai (Ai @V.owns.eq_3 (Ai @V.owns.eq_4 @ownsL.eq_1)) (Ai @ownsL.eq_2 (Ai @newName_nil @newName_cons))) (Ai (Ai @List.mem_cons.{0} (Ai @List.not_mem_nil.{0} @or_false)) (Ai @forall_eq.{1} (Ai @forall_eq.{0} @forall_eq_or_imp.{1})))))
def ownx1 :=
 (Ai (Ai @forall_eq_or_imp.{0} (Ai @ne_eq.{1} @ne_eq.{0})) (Ai @Nat.le_add_right (Ai @not_false_eq_true @not_true_eq_false)))
def ownx:=(Ai ownx0 ownx1)
def mems0 :=
 (Ai (Ai @only_at (Ai @List.mem_cons.{0} @List.not_mem_nil.{0})) (Ai (Ai @forall_eq.{1} @forall_eq.{0}) (Ai @forall_eq_or_imp.{1} @forall_eq_or_imp.{0})))
def mems:=mems0
def injs0 :=
 (Ai (Ai (Ai @V.bool.injEq @V.int.injEq) (Ai @V.str.injEq (Ai @V.agg.injEq @V.tup.injEq))) (Ai (Ai @V.sl.injEq (Ai @V.own.injEq @List.cons.injEq.{0})) (Ai @and_true (Ai @true_and @and_self))))
def injs:=injs0
def fins0 :=
 (Ai (Ai (Ai @finL.eq_1 (Ai @finL.eq_2 @V.fin.eq_1)) (Ai (Ai @V.fin.eq_2 @V.fin.eq_3) (Ai @V.fin.eq_4 @V.fin.eq_5))) (Ai (Ai (Ai @V.fin.eq_6 @V.fin.eq_7) (Ai @V.fin.eq_8 @V.fin.eq_9)) (Ai (Ai @V.fin.eq_10 @V.fin.eq_11) (Ai @V.fin.eq_12 @newName_nil))))
def fins:=fins0
theorem again_can2 {cx:Cx}{Q:Post}{st:List Frm}{nm:Nat}{e:Env}{M:Mem}(hG:∀ g,(cx.G g).plain=true){α:Type}{μ:α→Nat}{P:α→Prop}{nmS:Nat}{Es:α→List (Nat×V)}{Ms:α→List (Nat×Blk)}{g:Nat}(x:α)(src:List (Option Nat))(hg:μ x<g)(h0:P x)(hb:Q.b0≤nmS)(hME:canM (renR (sigS (zipS (Ms x) src))) Q.b0 nmS M (zipS (Ms x) src)∧canE M (sigS (zipS (Ms x) src)) e (Es x)):goEx cx Q (.again (canJ μ P nmS Es Ms) g::st) nm e M .normal:=again_can hG x src hg h0 hb hME.1 hME.2
theorem loop_can2 {cx:Cx}{Q:Post}{st:List Frm}{nm:Nat}{e:Env}{M:Mem}{c:Code}(hG:∀ g,(cx.G g).plain=true){α:Type}(μ:α→Nat)(P:α→Prop)(nmS:Nat)(Es:α→List (Nat×V))(Ms:α→List (Nat×Blk))(x0:α)(src:List (Option Nat))(h0:P x0)(hb:Q.b0≤nmS)(hME:canM (renR (sigS (zipS (Ms x0) src))) Q.b0 nmS M (zipS (Ms x0) src)∧canE M (sigS (zipS (Ms x0) src)) e (Es x0))(hr:∀ x,P x→go cx Q (.again (canJ μ P nmS Es Ms) (μ x)::st) nmS (envL (Es x)) (memL (Ms x)) c):goLoop cx Q st nm e M c:=loop_can hG μ P nmS Es Ms x0 src h0 hb hME.1 hME.2 hr
theorem again_can2F {cx:Cx}{Q:Post}{st:List Frm}{nm:Nat}{e:Env}{M:Mem}(hG:∀ g,(cx.G g).plain=true){α:Type}{μ:α→Nat}{P:α→Prop}{nmS:Nat}{Es:α→List (Nat×V)}{Ms:α→List (Nat×Blk)}{g:Nat}(x:α)(src:List (Option Nat))(hg:μ x<g)(h0:P x)(hb:Q.b0≤nmS)(hME:canM (finR (sigS (zipS (Ms x) src)) M) Q.b0 nmS M (zipS (Ms x) src)∧canE M (sigS (zipS (Ms x) src)) e (Es x)):goEx cx Q (.again (canJ μ P nmS Es Ms) g::st) nm e M .normal:=again_canF hG x src hg h0 hb hME.1 hME.2
theorem loop_can2F {cx:Cx}{Q:Post}{st:List Frm}{nm:Nat}{e:Env}{M:Mem}{c:Code}(hG:∀ g,(cx.G g).plain=true){α:Type}(μ:α→Nat)(P:α→Prop)(nmS:Nat)(Es:α→List (Nat×V))(Ms:α→List (Nat×Blk))(x0:α)(src:List (Option Nat))(h0:P x0)(hb:Q.b0≤nmS)(hME:canM (finR (sigS (zipS (Ms x0) src)) M) Q.b0 nmS M (zipS (Ms x0) src)∧canE M (sigS (zipS (Ms x0) src)) e (Es x0))(hr:∀ x,P x→go cx Q (.again (canJ μ P nmS Es Ms) (μ x)::st) nmS (envL (Es x)) (memL (Ms x)) c):goLoop cx Q st nm e M c:=loop_canF hG μ P nmS Es Ms x0 src h0 hb hME.1 hME.2 hr
end Go.Proofs.Ytfcfldmioonipaa.Vm
namespace Go.Proofs.Ytfcfldmioonipaa.Vm
set_option linter.unusedSimpArgs false
set_option linter.unusedVariables false
open Go Go.RowKit
theorem EvE.cell {cx:Cx}{f:FuncId}{nm:Nat}{args:List V}{M:Mem}{v:Nat→V}{eff:List (Nat×Option Blk)}(q j y lo n sz:Nat)(row:List V)(ob:Ob)(hM:M q=some (@Blk.mk sz [row] ob))(hj:row[j]? = some (.own y lo n))(hob:ob.isRow=true)(hq:q∈effNames eff)
  (h:∀ c,n≤c→Ev cx f nm args (M.put q (some (@Blk.mk sz [row.set j (.ownc y lo n c)] ob))) (v c) eff):EvE cx f nm args M (fun u=>∃ c,n≤c∧u=v c) eff:=by
 refine⟨trivial,fun X w ρ cargs B hr hfr hB hn hargs=>?_⟩
 obtain⟨l,a1,a2,a3,cs,e,hok,a4,a5,a6,a7,a8,a9⟩:∃ l,ρ q=some l∧(Blocks ρ M l.b∨w.heap.size≤l.b) ∧ ¬ X l.b∧CellsAt ρ (Dom X ρ M) w l (@Blk.mk sz [row] ob):=by
  rcases hr.live q _ hM with ⟨b1,_⟩|⟨l,b1,b2,b3,b4|⟨o,_,ms,buf,_,_,c1,_,_,c4,_⟩⟩
  ·cases b1
  ·exact⟨l,b1,b2,b3,b4⟩
  ·cases c4
 obtain⟨cv0,c1,c2⟩:=a9 0 j row _ rfl hj
 obtain⟨c,hnc,hic⟩:∃ c,n≤c∧Is ρ (Dom X ρ M) w (.ownc y lo n c) cv0:=by
  cases c2 with
  | own0=>exact⟨0,Nat.le_refl _,.ownc0⟩
  | own hl hlc hnc =>
   rename_i c l
   by_cases h0:c=0
   ·have hn0:n=0:=by omega
    subst h0;subst hn0
    exact⟨0,Nat.le_refl _,.ownc0⟩
   ·exact⟨c,hnc,.ownc hl hlc hnc (by omega)⟩
 generalize hk:(@Blk.mk sz [row.set j (.ownc y lo n c)] ob)=k' at *
 have hs:∀ x,((M.put q (some k')) x).isSome=(M x).isSome:=fun x=>by
  by_cases e:x=q
  ·subst e;rw[Mem.put_same,hM];rfl
  ·rw[Mem.put_ne _ _ e]
 have hsb:∀ x,(((M.put q (some k')) x).isSome=true)=((M x).isSome=true):=fun x=>by rw[hs x]
 have hblk:Blocks ρ (M.put q (some k'))=Blocks ρ M:=by
  funext b;simp only[Blocks,hsb]
 have hdom:Dom X ρ (M.put q (some k'))=Dom X ρ M:=by
  funext b;simp only[Dom,hsb]
 have happ:(M.put q (some k')).app eff=M.app eff:=by
  funext x
  by_cases e:x=q
  ·subst e;exact Mem.app_congr (fun hx=>absurd hq hx)
  ·exact Mem.app_congr (fun _=>Mem.put_ne _ _ e)
 have hr':Rel cx.G X w (Blocks ρ (M.put q (some k'))) ρ (M.put q (some k')) w:=by
  rw[hblk]
  refine { size:=hr.size,os:=hr.os,tape:=hr.tape,output:=hr.output,old:=hr.old,live:=?_,inj:=?_,hX:=hr.hX,glob:=?_ }
  ·intro x k hx
   rw[hdom]
   by_cases e:x=q
   ·subst e
    rw[Mem.put_same]at hx;cases hx
    subst hk
    refine .inr ⟨l,a1,a2,a3,.inl ⟨cs,e,hok,a4,a5,a6,a7,fun i r hi=>?_,fun i p r u hi hp=>?_⟩⟩
    ·cases i with
     | zero =>
      have hi':row.set j (.ownc y lo n c)=r:=by simpa using hi
      rw[← hi',List.length_set];exact a8 0 row rfl
     | succ i=>simp at hi
    ·cases i with
     | zero =>
      have hi':row.set j (.ownc y lo n c)=r:=by simpa using hi
      rw[← hi',List.getElem?_set]at hp
      split at hp
      ·rename_i hjp
       split at hp
       ·cases hp
        subst hjp
        exact⟨cv0,c1,hic⟩
       ·cases hp
      ·exact a9 0 p row u rfl hp
     | succ i=>simp at hi
   ·rw[Mem.put_ne _ _ e]at hx
    exact hr.live x k hx
  ·intro a b l l' h1 h2
   rw[hs]at h1 h2
   exact hr.inj a b l l' h1 h2
  ·intro g;rw[hdom];exact hr.glob g
 have hB':∀ x,B≤x→(M.put q (some k')) x=none:=fun x hx=>by
  have h0:=hs x
  rw[(hB x hx).1]at h0
  cases hq:(M.put q (some k')) x with
  | none=>rfl
  | some k=>rw[hq]at h0;cases h0
 have hcc:=h c hnc
 rw[hk]at hcc
 refine(hcc.2 X w ρ cargs B hr' hfr (fun x hx=>⟨hB' x hx,(hB x hx).2⟩) hn (fun i u cv hi hc=>by rw[hdom];exact hargs i u cv hi hc)).mono ?_
 rintro e w' ⟨cv,rfl,ρ',r,m,hv,hnn⟩
 rw[happ]at r m hv
 rw[hblk]at r
 refine⟨cv,rfl,v c,⟨c,hnc,rfl⟩,ρ',r,⟨m.names,m.size,m.os,m.tape,m.output,fun b hb hk2=>m.kept b hb (fun x l h1 h2=>hk2 x l (by rw[← hs x];exact h1) h2),fun x l h1 h2 h3=>?_⟩,hv,hnn⟩
 obtain⟨x',l',k1,k2,k3⟩:=m.dom x l h1 h2 h3
 exact⟨x',l',by rw[← hs x'];exact k1,k2,k3⟩
section
variable {P:Program}
end
theorem env_args {ρ:Names}{D:Nat→Prop}{w:World}{N:Nat}{args:List V}{cargs:Array Value}(hn:args.length=cargs.size)(hle:args.length≤N)(his:∀(i:Nat) (u:V) (cv:Value),args[i]? = some u→cargs[i]? = some cv→Is ρ D w u cv) :
  EnvAt [] ρ D w N (argsE args) { tmps:=cargs++Array.replicate (N-cargs.size) undef,defers:=[] }:=by
 refine⟨by simp;omega,rfl,fun t ht=>?_⟩
 simp only[argsE,Array.getD_eq_getD_getElem?]
 by_cases hlt:t<args.length
 ·rw[Array.getElem?_append_left (by omega),List.getElem?_eq_getElem hlt,Array.getElem?_eq_getElem (show t<cargs.size by omega)]
  exact his t _ _ (List.getElem?_eq_getElem hlt) (Array.getElem?_eq_getElem (by omega))
 ·rw[List.getElem?_eq_none (by omega)]
  exact .any _
variable {cx:Cx} {X:Nat→Prop} {w0:World} {I:Nat→Prop} {ρ:Names} {M:Mem} {w:World}
section
variable {cx:Cx} {fn:Func} {nm:Nat} {M:Mem} {v:V} {eff:List (Nat×Option Blk)} {b0 c1 c2 y1 y2 t2 t3:Nat} {restc:Code} {n':Nat} {e':Env} {M':Mem}
end
variable {cx:Cx}
section
variable {Q:Post} {st:List Frm} {nm:Nat} {e:Env} {M:Mem}
end
def ones (row:List V):List (List V):=row.map fun u=>[u]
section
variable {G:Nat→V} {X:Nat→Prop} {w0:World} {I:Nat→Prop} {ρ:Names} {M:Mem} {w:World}
end
section
variable {cx:Cx} {Q:Post} {st:List Frm} {nm:Nat} {e:Env} {M:Mem} {d:Bool} {fs:List (List Nat)} {ops:List Oper} {dst:Option Tmp} {t:TypeId} {pos:String} {af:Array Edge} {gd:Option (Nat×Bool)} {r:List Oper} {i:Nat}
end
def midW (cx:Cx)(fn:Func)(nm:Nat)(M:Mem)(v:V)(eff:List (Nat×Option Blk))(b0:Nat):Code→Ex→Nat→Env→Mem→Prop
 | .seq c1 r1,.normal,n,e,M1=>∃ n' e' M',Weak cx b0 n e M1 n' e' M'∧(go cx (endP cx fn nm M v eff b0) [] n' e' M' (.seq c1 r1)∨go cx ⟨b0,midW cx fn nm M v eff b0 r1⟩ [] n' e' M' c1)
 | rest,.normal,n,e,M1=>∃ n' e' M',Weak cx b0 n e M1 n' e' M'∧go cx (endP cx fn nm M v eff b0) [] n' e' M' rest
 | _,.ret,n,e,M1=>atEnd cx fn nm M v eff b0 .ret n e M1
 | _,_,_,_,_=>False
theorem midW_ret (cx:Cx)(fn:Func)(nm:Nat)(M:Mem)(v:V)(eff:List (Nat×Option Blk))(b0:Nat)(c:Code)(n:Nat)(e:Env)(M1:Mem):midW cx fn nm M v eff b0 c .ret n e M1=atEnd cx fn nm M v eff b0 .ret n e M1:=by
 cases c<;>rfl
theorem midW_exit {cx:Cx}{fn:Func}{nm:Nat}{M:Mem}{v:V}{eff:List (Nat×Option Blk)}{b0:Nat}{c:Code}{n:Nat}{e:Env}{M1:Mem}{id:Nat} : ¬ midW cx fn nm M v eff b0 c (.exit id) n e M1:=by
 cases c<;>exact fun h=>h
theorem midW_pan {cx:Cx}{fn:Func}{nm:Nat}{M:Mem}{v:V}{eff:List (Nat×Option Blk)}{b0:Nat}{c:Code}{n:Nat}{e:Env}{M1:Mem}{u:V} : ¬ midW cx fn nm M v eff b0 c (.panic u) n e M1:=by
 cases c<;>exact fun h=>h
theorem midW_end {cx:Cx}{fn:Func}{nm:Nat}{M:Mem}{v:V}{eff:List (Nat×Option Blk)}{b0:Nat}{rest:Code}{n:Nat}{e:Env}{M1:Mem}(n':Nat)(e':Env)(M':Mem)(hw:Weak cx b0 n e M1 n' e' M')(h:go cx (endP cx fn nm M v eff b0) [] n' e' M' rest):midW cx fn nm M v eff b0 rest .normal n e M1:=by
 cases rest<;>first|exact⟨n',e',M',hw,h⟩|exact⟨n',e',M',hw,.inl h⟩
theorem mid_sound {cx:Cx}(hm:cx.P.follows .mixedOrders=true){fn:Func}{nm:Nat}{M:Mem}{v:V}{eff:List (Nat×Option Blk)}{b0:Nat}{X:Nat→Prop}{w0:World}{I:Nat→Prop}{ρ0:Names} : ∀(rest:Code) {n:Nat} {e:Env} {M1:Mem} {ρ:Names} {a:Act} {w:World},codeIn fn.ntmps rest=true→Lies cx fn.ntmps X w0 I ρ0 b0 n e M1 ρ a w→midW cx fn nm M v eff b0 rest .normal n e M1 →
  WpN cx.P rest (LiftQ cx fn.ntmps X w0 I ρ0 b0 (atEnd cx fn nm M v eff b0)) a w:=by
 intro rest
 have base:∀(rest:Code) {n:Nat} {e:Env} {M1:Mem} {ρ:Names} {a:Act} {w:World},codeIn fn.ntmps rest=true→Lies cx fn.ntmps X w0 I ρ0 b0 n e M1 ρ a w→(∃ n' e' M',Weak cx b0 n e M1 n' e' M'∧go cx (endP cx fn nm M v eff b0) [] n' e' M' rest)→WpN cx.P rest (LiftQ cx fn.ntmps X w0 I ρ0 b0 (atEnd cx fn nm M v eff b0)) a w:=by
  rintro rest n e M1 ρ a w hin hl ⟨n2,e2,M2,hw,hrest⟩
  obtain⟨ρ2,h2⟩:=hw _ _ _ _ _ _ _ _ hl
  exact vc_sound hm rest _ n2 e2 M2 ρ2 _ w hin h2 hrest
 induction rest with
 | seq c1 r1 _ ih =>
  intro n e M1 ρ a w hin hl hq
  obtain⟨n2,e2,M2,hw,hrest⟩:=hq
  rcases hrest with hrest|hrest
  ·exact base _ hin hl ⟨n2,e2,M2,hw,hrest⟩
  ·obtain⟨ρ2,h2⟩:=hw _ _ _ _ _ _ _ _ hl
   simp only[codeIn,Bool.and_eq_true]at hin
   refine WpN.seq (WpN.mono (vc_sound hm c1 _ n2 e2 M2 ρ2 _ w hin.1 h2 hrest) ?_)
   rintro x a w1 ⟨n,e,M1,ρ1,h1,hq⟩
   cases x with
   | exit id=>exact(midW_exit hq).elim
   | ret=>exact⟨n,e,M1,ρ1,h1,by simp only[unst]at hq;rw[midW_ret]at hq;exact hq⟩
   | goto l=>exact hq.elim
   | panic ch=>obtain⟨_,_,_,_,h⟩:=hq;exact(midW_pan h).elim
   | outgrown=>exact hq.elim
   | normal=>exact ih hin.2 h1 hq
 | _=>intro n e M1 ρ a w hin hl hq;exact base _ hin hl hq
theorem ev_goW {cx:Cx}(hD:cx.D=[]){f:FuncId}{nm:Nat}{args:List V}{M:Mem}{v:V}{eff:List (Nat×Option Blk)}{fn:Func}{c0 rest:Code}
  (hcall:∀ cargs w,(callFunc f cargs).run cx.P w = .ok (.enter f cargs) w) (hf:cx.P.funcs[f]? = some fn) (hb:fn.body=some (.seq c0 rest)) (hm:cx.P.follows .mixedOrders=true) (hin:codeIn fn.ntmps (.seq c0 rest)=true) (hargs:decide (args.length≤fn.ntmps)=true)
  (hvc:∀ b0,(∀ x,b0≤x→M x=none)→go cx ⟨b0,midW cx fn nm M v eff b0 rest⟩ [] b0 (argsE args) M c0):Ev cx f nm args M v eff:=by
 have hargs:=of_decide_eq_true hargs
 refine⟨trivial,fun X w ρ cargs B hrel hfr hB hlen his=>?_⟩
 have hstart:Lies cx fn.ntmps X w (Blocks ρ M) ρ B B (argsE args) M ρ { tmps:=cargs++Array.replicate (fn.ntmps-cargs.size) undef,defers:=[] } w :=
  ⟨hrel,by rw[hD];exact env_args hlen hargs his,hB,fun _ _ h=>h,Nat.le_refl _,fun _ _=>rfl,fun x hx=>(hB x hx).2⟩
 refine .inl ⟨hcall _ _,?_⟩
 have hmid:midW cx fn nm M v eff B (.seq c0 rest) .normal B (argsE args) M:=⟨B,_,M,Weak.refl _ _ _ _ _,.inr (hvc B (fun x hx=>(hB x hx).1))⟩
 refine calls_of_wpN hf hb (WpN.mono (mid_sound hm _ hin hstart hmid) ?_)
 rintro x a w' ⟨n,e,M',ρ',h',hq⟩
 have done:FinG cx fn.ntmps fn.results.toList nm M v eff B n e M'→a.defers=[] ∧ ∃ cv,(results fn a.tmps).run cx.P w' = .ok cv w' ∧ ∃ cv',Ending.returned cv = .returned cv'∧StepsN cx.G X w (Blocks ρ M) ρ M w nm v (M.app eff) cv' w':=fun ⟨gs,hfin⟩=>by
  have h':=h'.ghosts gs
  obtain⟨cv,h1,h2⟩:=res_sound h'.rel h'.env fn hfin.1
  exact⟨h'.env.defers.trans hD,cv,h1,cv,rfl,fin_sound hrel hfr hB h' hfin h2⟩
 cases x<;>simp only[atEnd]at hq<;>try (exact hq.elim)
 case normal=>exact done hq
 case ret=>exact done hq
 case panic ch=>obtain⟨_,_,_,_,hf⟩:=hq;exact hf.elim
section
variable {cx:Cx} {fn:Func} {nm0:Nat} {M0:Mem} {v:V} {eff:List (Nat×Option Blk)} {b0:Nat} {rest c1 r1:Code} {nm:Nat} {e:Env} {M:Mem}
theorem mid_can (hG:∀ g,(cx.G g).plain=true)(nmS:Nat)(Es:List (Nat×V))(Ms:List (Nat×Blk))(src:List (Option Nat))(hb:b0≤nmS)
  (hME:canM (renR (sigS (zipS Ms src))) b0 nmS M (zipS Ms src)∧canE M (sigS (zipS Ms src)) e Es) (h:go cx (endP cx fn nm0 M0 v eff b0) [] nmS (envL Es) (memL Ms) rest):midW cx fn nm0 M0 v eff b0 rest .normal nm e M :=
 midW_end nmS (envL Es) (memL Ms) (weak_can hG src hb hME.1 hME.2) h
end
def lostN (l:List Nat):List (Nat×Option Blk):=l.map fun x=>(x,none)
theorem lostN_nil:lostN []=[]:=rfl
theorem lostN_cons (x:Nat)(l:List Nat):lostN (x::l)=(x,none)::lostN l:=rfl
theorem lostN_names (l:List Nat):effNames (lostN l)=l:=by
 induction l with
 | nil=>rfl
 | cons x l ih=>rw[lostN_cons];show x::effNames (lostN l)=_;rw[ih]
theorem only_lost (M:Mem)(eff:List (Nat×Option Blk)):∀(l k:List Nat),(∀ x∈k,x∈l∨M x=none)→(M.only k).app (lostN l++eff)=Mem.nil.app eff
 | [],k,h=>by
  have e:M.only k=Mem.nil:=by
   funext x
   show(if x∈k then M x else none)=none
   split
   ·rename_i hx
    rcases h x hx with hx|hx
    ·cases hx
    ·exact hx
   ·rfl
  rw[e];rfl
 | y::l,k,h=>by
  have e:(M.only k).put y none=Mem.only (fun x=>if x=y then none else M x) k:=by
   funext x
   show(if x=y then none else (if x∈k then M x else none))=(if x∈k then (if x=y then none else M x) else none)
   by_cases hy:x=y<;>simp[hy]
  show((M.only k).put y none).app (lostN l++eff)=_
  rw[e]
  refine only_lost (fun x=>if x=y then none else M x) eff l k (fun x hx=>?_)
  by_cases hy:x=y
  ·right;simp[hy]
  ·rcases h x hx with h1|h1
   ·rcases List.mem_cons.1 h1 with h2|h2
    ·exact absurd h2 hy
    ·exact .inl h2
   ·right;simp[hy,h1]
theorem Ev.lose {cx:Cx}{f:FuncId}{nm:Nat}{args:List V}{M:Mem}{v:V}{eff eff':List (Nat×Option Blk)}(h:Ev cx f nm (finL [] M args) Mem.nil v eff)(hok:finLOk [] M args)(he:M.app eff'=Mem.nil.app eff):Ev cx f nm args M v eff':=by
  refine⟨h.1,fun X w ρ cargs B hr hfresh hB hn hargs=>?_⟩
  have hdom:∀ b,Dom X ρ Mem.nil b→Dom X ρ M b:=by
    rintro b (hx|⟨nm,l,h1,_⟩)
    · exact .inl hx
    · simp[Mem.nil]at h1
  have hr0:Rel cx.G X w (Blocks ρ Mem.nil) ρ Mem.nil w :=
    { size:=Nat.le_refl _,os:=rfl,tape:=rfl,output:=rfl,old:=fun _ _ _=>rfl
      live:=fun nm k hk=>by simp[Mem.nil]at hk
      inj:=fun nm nm' l l' h1=>by simp[Mem.nil]at h1
      hX:=fun b hb=>⟨(hr.hX b hb).1,by rintro ⟨nm,q,h1,_⟩;simp[Mem.nil]at h1⟩
      glob:=fun g=>(hr.glob g).step (fun _ _ h=>h) (Nat.le_refl _) (fun _ _ _=>rfl) (fun b _ hb=>hdom b hb) }
  refine(h.2 X w ρ cargs B hr0 hfresh (fun x hx=>⟨rfl,(hB x hx).2⟩) (by rw[finL_length];exact hn) ?_).mono ?_
  · intro i u cv hi hc
    rw[finL_get]at hi
    obtain⟨u',h1,rfl⟩:=Option.map_eq_some_iff.1 hi
    refine fin_is (cx:=cx) hr (fun nm y hy=>by simp[newName]at hy) hdom (fun nm l _ hM hl=>?_) (hargs i u' cv h1 hc) (finLOk_get hok h1)
    rintro (hx|⟨nm',q,h2,_⟩)
    · exact(hr.block_lt hM hl).2.1 hx
    · simp[Mem.nil]at h2
  · rintro e' w' ⟨cv,rfl,ρ',r,m,hvv,hn'⟩
    have hkept:∀ b,b<w.heap.size→w'.heap[b]? = w.heap[b]?:=fun b hb=>m.kept b hb (fun nm l h1=>by simp[Mem.nil]at h1)
    rw[he]
    refine⟨cv,rfl,ρ',⟨r.size,r.os,r.tape,r.output,fun b hb _=>hkept b hb,fun x k hx=>?_,r.inj,hr.hX,r.glob⟩,⟨m.names,m.size,m.os,m.tape,m.output,fun b hb _=>hkept b hb,fun x l h1 h2 h3=>?_⟩,hvv,hn'⟩
    · rcases r.live x k hx with h1|⟨l,h1,h2,h3⟩
      · exact .inl h1
      · refine .inr ⟨l,h1,?_,h3⟩
        rcases h2 with ⟨nm',q,c1,_⟩|h2
        · simp[Mem.nil]at c1
        · exact .inr h2
    · obtain⟨nm',l',c1,_⟩:=m.dom x l h1 h2 h3
      simp[Mem.nil]at c1
section
variable {cx:Cx} {Q:Post} {st:List Frm} {nm:Nat} {e:Env} {M:Mem}
theorem call_fn_lose {d:Bool}{fs:List (List Nat)}{ops:List Oper}{dst:Option Tmp}{g:FuncId}{args:Array Operand}{ats:Array TypeId}{t:TypeId}{pos:String}{af:Array Edge}{r:List Oper}{i:Nat}{xs as':List V}
  (l:List Nat) (has:args.toList.map (evalV cx.G true e)=xs) (has':finL [] (M.only l) xs=as') (hok:finLOk [] (M.only l) xs) {v:V} {eff:List (Nat×Option Blk)} (hl:∀ x∈l,(M x).isSome=true) (hev:Ev cx g (nm+16*i) as' Mem.nil v eff) (he:∀ x∈effNames eff,nm+16*i≤x∧x<nm+16*i+16)
  (h:goOps cx Q st nm (e.putD dst v) (M.app (lostN l++eff)) d (fs++[l++effNames (lostN l++eff)]) ops r (i+1)):goCall cx Q st nm e M d fs ops ⟨dst,.call ⟨.value (.func g),args,ats⟩,t,pos,af,none⟩ r i :=
 call_fn_full has l (Ev.lose (by rw[has'];exact hev) hok (only_lost M eff l l (fun x hx=>.inl hx))) (fun x hx=>by
  have hn:effNames (lostN l++eff)=l++effNames eff:=by
   have:effNames (lostN l++eff)=effNames (lostN l)++effNames eff:=by simp[effNames]
   rw[this,lostN_names]
  rw[hn]at hx
  rcases List.mem_append.1 hx with hx|hx
  ·exact .inl ⟨hx,hl x hx⟩
  ·exact .inr (he x hx)) h
end
theorem Ev.bit_false {cx:Cx}{f:FuncId}{nm:Nat}{args:List V}{M:Mem}{b:Bool}{eff:List (Nat×Option Blk)}(h:Ev cx f nm args M (.bit false b) eff):Ev cx f nm args M (.bool false) eff:=by
 refine⟨h.1,fun X w ρ cargs B hr hf hB hn hargs=>(h.2 X w ρ cargs B hr hf hB hn hargs).mono ?_⟩
 rintro e w' ⟨cv,rfl,ρ',r,m,hv,hnn⟩
 refine⟨cv,rfl,ρ',r,m,?_,hnn⟩
 cases hv with
 | bit c ht hf =>
  cases c with
  | true=>exact absurd (ht rfl) (by simp)
  | false=>exact .bool false
section
variable {cx:Cx} {Q:Post} {st:List Frm} {nm:Nat} {e:Env} {M:Mem} {d:Bool} {fs:List (List Nat)} {ops r:List Oper} {dst:Option Tmp} {t:TypeId} {pos:String} {af:Array Edge} {gd:Option (Nat×Bool)} {i:Nat}
end
def lim:Nat:=140737488355328
theorem only_mem {M:Mem}{l:List Nat} : ∀ z,((M.only l) z).isSome=true→z∈l:=fun z h=>(only_some.1 h).2
theorem below_of {M:Mem}{b0 x:Nat}(h:∀ z,b0≤z→M z=none)(hx:(M x).isSome=true):x<b0:=by
 rcases Nat.lt_or_ge x b0 with h1|h1
 ·exact h1
 ·rw[h x h1]at hx;cases hx
section
variable {cx:Cx}
theorem Fin.keep {N:Nat}{rs:List ResultVar}{nm:Nat}{M0:Mem}{v:V}{eff:List (Nat×Option Blk)}{b0 n:Nat}{e:Env}{M:Mem}(l:List Nat)(h1:resOk cx.P N rs e M)(h2:(resV cx.P rs e M).finOk (l.map fun y=>(y,y)) M)(h3:((resV cx.P rs e M).fin (l.map fun y=>(y,y)) M).le v)
  (h4:(l.map fun x=>(x,M x))=eff) (hn:l.Nodup) (h5:∀ x∈l,(M0 x).isSome=true∧(M x).isSome=true∧obOk M x=true∧plainLL (rowsOf M x)=true) (h6:∀ x,(M0 x).isSome=true→x∈l):FinG cx N rs nm M0 v eff b0 n e M:=by
 refine⟨[],Fin.two ⟨h1,l.map (fun y=>(y,y)),h2,h3,?_,?_,?_,?_,?_⟩⟩
 ·rw[← h4];simp[Mem.ghosts]
 ·rw[List.map_map,show((fun p:Nat×Nat=>p.1) ∘ fun y=>(y,y))=id from rfl,List.map_id];exact hn
 ·rw[List.map_map,show((fun p:Nat×Nat=>p.2) ∘ fun y=>(y,y))=id from rfl,List.map_id];exact hn
 ·intro p hp
  obtain⟨x,hx,rfl⟩:=List.mem_map.1 hp
  obtain⟨g1,g2,g5,g3⟩:=h5 x hx
  refine⟨.inl ⟨rfl,g1⟩,?_⟩
  obtain⟨k,hk⟩:=Option.isSome_iff_exists.1 g2
  exact⟨k,hk,by simpa [obOk,hk] using g5,by simpa [rowsOf,hk] using g3⟩
 ·intro x hx;simpa using h6 x hx
theorem EvF.res_le {f:FuncId}{nm:Nat}{xs:List V}{v u:V}(h:Ev cx f nm xs Mem.nil v [])(hv:v.flat=true)(hle:v.le u):EvF cx f nm xs u :=
 ⟨v,[],h,flat_flatO _ v hv,fun p hp=>by simp at hp,fun x hx=>by simp[effNames]at hx,(flat_fin _ v hv).1,by rw[(flat_fin _ v hv).2];exact hle⟩
end
theorem Is.young {ρ:Names}{D:Nat→Prop}{w:World}{L s:Nat}{rows:List (List V)}{A:Option Addr}{n c:Nat}(h:Is ρ D w (.sl false s rows) (.slice A n c))
  (hy:∀ b o,A=some ⟨b,o,none⟩→0<n→L≤b ∧ ∃ cs t fz,w.heap[b]? = some (.cells cs t fz) ∧ ∀ p,p<o+n*s → ¬(fz.1≤p∧p<fz.2)):Is ρ D w (.ys L s rows) (.slice A n c):=by
 cases h with
 | sl0=>exact .ys0
 | sl cv hc ht hD hb hr hx hu =>
  rcases Nat.eq_zero_or_pos rows.length with h0|h0
  ·have:=List.eq_nil_of_length_eq_zero h0
   subst this
   exact .ys0
  ·obtain⟨h1,h2⟩:=hy _ _ rfl h0
   exact .ys cv hc h1 hD hb h2 hr hx hu
mutual
def V.you (L:Nat)(M:Mem):V→V
 | .own nm lo n=>.ys L (szOf M nm) (((rowsOf M nm).drop lo).take n)
 | .agg cs=>.agg (youL L M cs)
 | .tup cs=>.tup (youL L M cs)
 | v=>v.fin [] M
def youL (L:Nat)(M:Mem):List V→List V
 | []=>[]
 | v::r=>v.you L M::youL L M r
end
theorem youL_get {L:Nat}{M:Mem}{l:List V}{i:Nat} :(youL L M l)[i]? =(l[i]?).map (V.you L M):=by
 induction l generalizing i with
 | nil=>simp[youL]
 | cons v r ih=>cases i<;>simp[youL,ih]
theorem youL_length {L:Nat}{M:Mem}{l:List V} :(youL L M l).length=l.length:=by
 induction l with
 | nil=>simp[youL]
 | cons v r ih=>simp[youL,ih]
theorem you_is {L:Nat}{ρ ρ2:Names}{D D':Nat→Prop}{w:World}{M:Mem}{P:V→Prop}(hPa:∀ cs,P (.agg cs) → ∀(i:Nat) (u:V),cs[i]? = some u→P u)(hPt:∀ cs,P (.tup cs) → ∀(i:Nat) (u:V),cs[i]? = some u→P u)
  (hfin:∀(u:V) (c:Value),Is ρ D w u c→P u→Is ρ2 D' w (u.fin [] M) c)
  (hown:∀(nm:Nat) (q:Loc) (lo n:Nat),P (.own nm lo n)→ρ nm=some q→0<n→L≤q.b∧szOf M nm=q.sz ∧ ∃ cs t,w.heap[q.b]? = some (.cells cs t q.frz))
  {v:V} {cv:Value} (h:Is ρ D w v cv):P v→Is ρ2 D' w (v.you L M) cv:=by
 have hcv:=h
 induction h with
 | agg hn hu ih =>
  intro hp
  simp only[V.you]
  refine .agg (by rw[youL_length];exact hn) (fun i u cv hi hc=>?_)
  rw[youL_get]at hi
  obtain⟨u',h1,rfl⟩:=Option.map_eq_some_iff.1 hi
  exact ih i u' cv h1 hc (hu i u' cv h1 hc) (hPa _ hp i u' h1)
 | tup hn hu ih =>
  intro hp
  simp only[V.you]
  refine .tup (by rw[youL_length];exact hn) (fun i u cv hi hc=>?_)
  rw[youL_get]at hi
  obtain⟨u',h1,rfl⟩:=Option.map_eq_some_iff.1 hi
  exact ih i u' cv h1 hc (hu i u' cv h1 hc) (hPt _ hp i u' h1)
 | own0 =>
  intro hp
  simp only[V.you,List.take_zero]
  exact .ys0
 | own hl hlc hnc =>
  rename_i nm lo n c q
  intro hp
  simp only[V.you]
  have h1:=hfin _ _ hcv hp
  simp only[V.fin,newName_nil]at h1
  refine h1.young (fun b o e hpos=>?_)
  obtain⟨g1,g2,cs,t,g3⟩:=hown nm q lo n hp hl hpos
  cases e
  refine⟨g1,cs,t,q.frz,g3,fun p hpp=>q.free ?_⟩
  rw[g2]at hpp
  have:=Nat.mul_le_mul_right q.sz (show lo+n≤q.tot by omega)
  rw[Nat.add_mul]at this
  omega
 | any|bool|bit|int|str|nilp|upt|ptr|rp|nils|sl0|sl|ys0|ys|ownc0|ownc|chan|fn|mp|fnb|iface|gd|val =>
  intro hp
  have h1:=hfin _ _ hcv hp
  simpa only[V.you] using h1
section
variable {cx:Cx} {f:FuncId} {nm:Nat} {args:List V} {v u:V} {eff:List (Nat×Option Blk)} {L:Nat}
theorem lim_of {X:Nat→Prop}{w0 w:World}{I:Nat→Prop}{ρ:Names}{M:Mem}(hr:Rel cx.G X w0 I ρ M w)(hL:L=0 ∨ ∃ cs,cx.G (L-1) = .rp cs):L≤w.heap.size:=by
 rcases hL with h0|⟨cs,e⟩
 ·omega
 have:=hr.glob (L-1)
 rw[e]at this
 cases this with
 | rp cv hd hb hc hu=>omega
theorem young_own {X:Nat→Prop}{w w':World}{ρ ρ':Names}{M M':Mem}(r:Rel cx.G X w (Blocks ρ M) ρ' M' w')(m:Moves ρ M w ρ' M' w'){nm:Nat}{q:Loc}{k:Blk}(hk:M' nm=some k)(hM:M nm=none)(hin:∀ x,(M x).isSome=true→(M' x).isSome=true)(hq:ρ' nm=some q)(hrow:k.ob.isRow=true) :
    w.heap.size≤q.b∧szOf M' nm=q.sz ∧ ∃ cs t,w'.heap[q.b]? = some (.cells cs t q.frz):=by
  rcases r.live nm k hk with ⟨_,a2⟩|⟨l2,a1,hI,_,hb⟩
  · rw[hq]at a2;cases a2
  · rw [hq]at a1;cases a1
    have h1:w.heap.size≤q.b:=by
      rcases hI with ⟨y,qy,g1,g2,g3⟩|h
      · have:=r.inj y nm qy q (hin y g1) (by rw[hk];rfl) (m.names y qy g2) hq g3
        subst this
        rw[hM]at g1;cases g1
      · exact h
    rcases hb with ⟨cs,e,_,b2,b3,_⟩|⟨o,_,msgs,buf,_,_,b1,_⟩
    · exact⟨h1,by rw[szOf,hk];exact b3,cs,e,b2⟩
    · exfalso
      cases ho:k.ob with
      | cells=>rw[ho]at b1;exact b1
      | typed t=>rw[ho]at b1;exact b1
      | chan a b c=>rw[ho]at hrow;cases hrow
      | obj o=>rw[ho]at hrow;cases hrow
theorem Ev.young (h:Ev cx f nm args Mem.nil v eff)(hL:L=0 ∨ ∃ cs,cx.G (L-1) = .rp cs)(hfl:∀ p∈eff,∀ k,p.2=some k→k.ob.isRow=true)(hok:v.finOk [] (Mem.nil.app eff))(hle:(v.you L (Mem.nil.app eff)).le u):Ev cx f nm args Mem.nil u []:=by
 refine⟨h.1,fun X w ρ cargs B hr hfr hB hn hargs=>(h.2 X w ρ cargs B hr hfr hB hn hargs).mono ?_⟩
 rintro e w' ⟨cv,rfl,ρ',r,m,hv,_⟩
 have hlim:=lim_of hr hL
 have hkept:∀ b,b<w.heap.size→w'.heap[b]? = w.heap[b]?:=fun b hb=>m.kept b hb (fun nm l h1=>by simp[Mem.nil]at h1)
 have mv:Moves ρ Mem.nil w ρ Mem.nil w':=⟨fun _ _ h=>h,m.size,m.os,m.tape,m.output,fun b hb _=>hkept b hb,fun nm l h1=>by simp[Mem.nil]at h1⟩
 refine⟨cv,rfl,ρ,hr.move mv hr.inj (fun nm k hk=>by simp[Mem.app,Mem.nil]at hk),mv,Is.le ?_ u hle,fun _ _=>rfl⟩
 refine you_is (P:=fun v=>v.finOk [] (Mem.nil.app eff)) ?_ ?_ ?_ ?_ hv hok
 ·rintro cs h2 i u hu
  simp only[V.finOk]at h2
  exact finLOk_get h2 hu
 ·rintro cs h2 i u hu
  simp only[V.finOk]at h2
  exact finLOk_get h2 hu
 ·rintro u c hu h2
  refine fin_is (cx:=cx) r (fun nm y hy=>by simp[newName]at hy) ?_ (fun nm l _ hM hl=>?_) hu h2
  ·rintro b (hx|⟨nm,l,h1,_⟩)
   ·exact .inl hx
   ·simp[Mem.app,Mem.nil]at h1
  ·rintro (hx|⟨nm',q,h2,_⟩)
   ·exact(r.block_lt hM hl).2.1 hx
   ·simp[Mem.app,Mem.nil]at h2
 ·rintro y q lo n h2 hq hpos
  simp only[V.finOk]at h2
  rcases(h2 rfl).1 with h3|⟨h3,_⟩
  ·omega
  obtain⟨k,hk⟩:=Option.isSome_iff_exists.1 h3
  have hy:y∈effNames eff:=by
   refine Classical.byContradiction fun hn=>?_
   rw[Mem.app_of_notin hn]at hk;simp[Mem.nil]at hk
  obtain⟨p,p1,p2⟩:=app_mem hy hk
  obtain⟨a1,a2,a3⟩:=young_own r m hk rfl (fun x hx=>by simp[Mem.nil]at hx) hq (hfl p p1 k p2)
  exact⟨by omega,a2,a3⟩
theorem Ev.more {cx':Cx}{M:Mem}(hP:cx'.P=cx.P)(hG:∀ g,cx.G g = .any∨cx.G g=cx'.G g)(h:Ev cx f nm args M v eff):Ev cx' f nm args M v eff:=by
 refine⟨trivial,fun X w ρ cargs B hr hfr hB hn hargs=>?_⟩
 rw[hP]
 have hg:∀ g,Is ρ (Dom X ρ M) w (cx.G g) (.pointer (some ⟨g,0,none⟩)):=fun g=>by
  rcases hG g with e|e
  ·rw[e];exact .any _
  ·rw[e];exact hr.glob g
 have hr1:Rel cx.G X w (Blocks ρ M) ρ M w:={ hr with glob:=hg }
 refine(h.2 X w ρ cargs B hr1 hfr hB hn hargs).mono ?_
 rintro e w' ⟨cv,rfl,ρ',r,m,hv,hn'⟩
 exact⟨cv,rfl,ρ',{ r with glob:=fun g=>m.is (hr.glob g) },m,hv,hn'⟩
end
def Cx.at (cx:Cx)(L:Nat):Cx:={ cx with G:=fun g=>match cx.G g with | .any=>if g+1=L then .rp [] else .any|v=>v }
theorem Cx.at_P (cx:Cx)(L:Nat):(cx.at L).P=cx.P:=rfl
theorem Cx.at_more (cx:Cx)(L:Nat)(g:Nat):cx.G g = .any∨cx.G g=(cx.at L).G g:=by
 unfold Cx.at
 cases h:cx.G g<;>first|exact .inl rfl|exact .inr (by simp only[h])
theorem Cx.at_plain {cx:Cx}(hG:∀ g,(cx.G g).plain=true)(L:Nat)(g:Nat):((cx.at L).G g).plain=true:=by
 have:=hG g
 unfold Cx.at
 cases h:cx.G g<;>simp only[h]at this ⊢<;>first|exact this|(split<;>rfl)
theorem Ev.at {cx:Cx}{f:FuncId}{nm:Nat}{args:List V}{M:Mem}{v:V}{eff:List (Nat×Option Blk)}(h:Ev cx f nm args M v eff)(L:Nat):Ev (cx.at L) f nm args M v eff:=Ev.more (cx:=cx) (cx':=cx.at L) rfl (cx.at_more L) h
section
variable {cx:Cx} {L:Nat} {Q:Post} {st:List Frm} {nm:Nat} {e:Env} {M:Mem}
end
theorem Is.rows_le {ρ:Names}{D:Nat→Prop}{w:World}{t:Bool}{z:Nat}{a b:List (List V)}{cv:Value}(h:Is ρ D w (.sl t z a) cv)(hle:leLL a b):Is ρ D w (.sl t z b) cv:=by
 obtain⟨e1,e2⟩:=leLL_get hle
 cases h with
 | sl0 ht =>
  have:b=[]:=List.eq_nil_of_length_eq_zero e1.symm
  subst this;exact .sl0 ht
 | sl c hc ht hd hb hr hx hu =>
  rw[e1]at hc ht ⊢
  refine .sl c hc ht hd hb (fun i row hi=>?_) (fun i j row u hi hj=>?_) (fun i j row u hi hj=>?_)
  ·obtain⟨x,h1,h2⟩:=e2 i row hi
   rw[← hr i x h1,(leL_get h2).1]
  ·obtain⟨x,h1,h2⟩:=e2 i row hi
   obtain⟨y,h3,_⟩:=(leL_get h2).2 j u hj
   exact hx i j x y h1 h3
  ·obtain⟨x,h1,h2⟩:=e2 i row hi
   obtain⟨y,h3,h4⟩:=(leL_get h2).2 j u hj
   exact(hu i j x y h1 h3).le u h4
theorem Ev.rows_le {cx:Cx}{f:FuncId}{nm:Nat}{t:Bool}{z:Nat}{a b:List (List V)}{xs:List V}{M:Mem}{v:V}{eff:List (Nat×Option Blk)}(h:Ev cx f nm (.sl t z b::xs) M v eff)(hle:leLL a b):Ev cx f nm (.sl t z a::xs) M v eff:=by
 refine⟨h.1,fun X w ρ cargs B hr hfr hB hn hargs=>h.2 X w ρ cargs B hr hfr hB (by simpa using hn) (fun i u cv hi hc=>?_)⟩
 cases i with
 | zero=>simp only[List.getElem?_cons_zero,Option.some.injEq]at hi;subst hi;exact Is.rows_le (hargs 0 _ cv rfl hc) hle
 | succ i=>exact hargs (i+1) u cv (by simpa using hi) hc
end Go.Proofs.Ytfcfldmioonipaa.Vm
