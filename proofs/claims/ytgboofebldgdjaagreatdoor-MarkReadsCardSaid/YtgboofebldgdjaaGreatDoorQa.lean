/-
 Texts joined: XVa,XVb,XVc,XVd,XVe,XVf,XVg,XVh,XVi,XVj,XVk,XVE.
-/
import Derived.WalkKit
import Derived.Below
import Derived.Orders
import Derived.Deep.LoopGhost
import Derived.Laws.CopyRow
import Derived.Deep.MidRow
import Derived.Laws.Tables
import Derived.Laws.Cells
import Derived.Laws.Concat
import Derived.Laws.Strings
import Derived.Laws.Cover1
import Derived.Laws.StructEq
import Derived.WalkSpells
import Derived.LaidEql
import Derived.Great.FillDense
import Derived.Laws.Append
import Derived.Great.BuildSlice
import Derived.Laws.AppendOwn
import Derived.Lib.AppendZerosOnto
set_option linter.all false
set_option linter.all false
namespace Go.Proofs.YtgboofebldgdjaaGreatDoor
def Y6 {p:Prop}(h:p:=by omega):p:=h
def Ai:=@And.intro
theorem Bf:(!false)=true:=rfl
theorem Bt:(!true)=false:=rfl
theorem Lc {α β}{f:α->β}{a:α}{l:List α}:List.map f (a::l)=f a::List.map f l:=rfl
def Lk:=@List.mem_cons
def Lm:=@List.length_map
def Ln:=@List.not_mem_nil
theorem Lo {α β}{f:α->β}:List.map f []=[]:=rfl
abbrev Y8:=List (Nat × Nat)
abbrev Y9:=List (List Nat)
abbrev ZA:=List UInt8
abbrev ZB:=List Nat
abbrev ZC:=Option Nat
abbrev ZD:=List Go.Oper
abbrev ZE:=Array Go.Operand
abbrev ZF:=Array Go.TypeId
abbrev ZG:=Array Go.Value
def ZH {p:Prop}(h:p:=by simp):p:=h
def ZI {p:Prop}(h:p:=by decide):p:=h
def ZJ {p:Prop}(h:p:=by decide +kernel):p:=h
def ZK {p:Prop}(h:p:=by simp;omega):p:=h
def AI:=@decide_eq_true
def AS:=@List.getElem?_eq_some_iff
def AT:=@List.getElem?_eq_getElem
def BY:=@Option.map_eq_some_iff
def By:=@List.mem_of_getElem?
def IN:=@List.take_of_length_le
def IS:=@Nat.le_refl
def IT:=@eq_false
def If:=@beq_false_of_ne
def In:=@Bool.and_eq_true
def No:=@Bool.and_self
def OF:=@Option.isSome_iff_exists
def WA:=@decide_eq_false
def WB:=@Nat.zero_le
def WC:=@Option.bind_eq_some_iff
def WD:=@decide_eq_true_eq
def WF:=@List.take_succ_eq_append_getElem
def WG:=@List.getElem?_map
def WH:=@Bool.false_eq_true
def WI:=@List.all_eq_true
def WJ:=@List.take_length
def WK:=@List.length_take
def WL:=@Bool.eq_iff_iff
def WM:=@List.map_append
def WN:=@List.drop_succ_cons
def WO:=@Option.some.injEq
def WP:=@List.drop_zero
def WQ:=@if_true
def WR:=@List.append_nil
def WS:=@if_false
def WT:=@beq_self_eq_true
def WU:=@Ne.symm
def WV:=@List.append_assoc
def WW:=@List.mem_singleton
def WX:=@Nat.mul_le_mul_right
def WY:=@bne_self_eq_false
def WZ:=@List.mem_cons
def Wb:=@beq_eq_false_iff_ne
def Wc:=@List.map_cons
def Wd:=@List.length_drop
def We:=@Nat.zero_add
def Wf:=@List.mem_append
def Wg:=@Array.getElem?_eq_getElem
def Wi:=@Nat.lt_of_lt_of_le
def Wj:=@exists_eq_left'
def Wk:=@List.takeWhile_append_dropWhile
def Wl:=@List.length_pos_iff
def Wm:=@Bool.and_false
def Wn:=@List.mem_map
def Wo:=@Bool.and_eq_false_iff
def Wp:=@List.eq_nil_of_length_eq_zero
def Wq:=@Bool.true_and
def Wr:=@List.getElem?_drop
def Ws:=@List.getElem?_append
def Wt:=@List.length_replicate
def Wu:=@Array.getD_eq_getD_getElem?
def Wv:=@List.not_mem_nil
def Ww:=@Option.some.inj
def Wx:=@List.map_nil
def Wy:=@Bool.false_and
def Wz:=@Bool.and_true
def W0:=@List.getElem?_eq_none
def W1:=@List.drop_eq_getElem_cons
def W2:=@Array.getElem?_append_left
def W3:=@beq_iff_eq
def W4:=@Nat.le_trans
def W5:=@List.getD_cons_zero
def W6:=@Prod.mk.injEq
def W7:=@List.map_congr_left
def W8:=@Bool.true_or
def W9:=@List.getD_cons_succ
def XA:=@decide_eq_false_iff_not
def XB:=@List.getD_eq_getElem?_getD
def XC:=@List.isEmpty_iff
def XD:=@Bool.or_false
def XE:=@Array.getElem?_toList
def XF:=@Array.getElem?_append_right
def XG:=@Bool.or_true
def XH:=@Bool.not_eq_true'
def XI:=@List.getElem?_take
def XJ:=@and_self
def XK:=@Bool.or_eq_false_iff
def XL:=@ite_self
def XM:=@Int.tdiv_eq_ediv_of_nonneg
def XN:=@Bool.false_or
def XO:=@Iff.rfl
def XP:=@forall_eq_or_imp
def XQ:=@List.findIdx?_eq_none_iff
def XR:=@List.mem_iff_getElem?
def XS:=@Nat.add_assoc
def XT:=@List.drop_left
def XU:=@or_false
def XV:=@List.drop_length
def XW:=@Nat.le_add_right
def XX:=@List.forall_mem_cons
def XY:=@List.length_eq_zero_iff
def XZ:=@Nat.pow_le_pow_right
def Xa:=@List.any_eq_true
def Xb:=@List.getElem?_set
def Xc:=@List.head?_eq_getElem?
def Xd:=@List.getElem_of_mem
def Xe:=@List.dropWhile_cons
def Xf:=@Bool.or_eq_true
def Xg:=@List.nodup_cons
def Xh:=@List.contains_iff_mem
def Xi:=@List.getElem_mem
def Xj:=@List.mem_cons_of_mem
def Xk:=@List.flatMap_cons
def Xl:=@of_decide_eq_true
def Xm:=@List.length_map
def Xn:=@List.mem_zipIdx_iff_getElem?
def Xo:=@List.dropLast_concat_getLast
def Xp:=@Array.append_assoc
def Xq:=@List.nodup_nil
def Xr:=@List.exists_cons_of_ne_nil
def Xs:=@List.getElem?_toArray
def Xt:=@List.findIdx?_eq_some_iff_getElem
def Xu:=@List.isEmpty_eq_false_iff
def Xv:=@List.all_append
def Xw:=@not_false_eq_true
def Xx:=@List.ext_getElem?
def Xy:=@List.getElem?_modify
def Xz:=@List.any_eq_false
def X0:=@eq_true
def X1:=@List.takeWhile_cons
def X2:=@Nat.one_mul
def X3:=@List.getLast?_eq_some_getLast
def X4:=@Nat.eq_zero_or_pos
def X5:=@List.drop_length_add_append
def X6:=@Decidable.not_not
def X7:=@List.mem_of_mem_take
def X8:=@List.isPrefixOf_iff_prefix
def X9:=@Int.tmod_eq_emod_of_nonneg
def YA:=@Int.fdiv_eq_ediv_of_nonneg
def YC:=@Nat.mul_comm
def YD:=@List.map_map
def YE:=@Nat.lt_or_ge
def YF:=@List.flatMap_nil
def YG:=@List.getElem?_eq_none_iff
def YH:=@List.reverse_append
def YI:=@Nat.add_sub_cancel'
def YJ:=@List.map_take
def YK:=@Bool.or_assoc
def YL:=@List.length_set
def YM:=@List.mem_filter
def YN:=@Nat.lt_or_gt_of_ne
def YO:=@Nat.add_sub_cancel
def YP:=@List.findIdx?_cons
def YQ:=@Nat.le_zero
def YR:=@Nat.zero_mul
def YS:=@List.drop_of_length_le
def YT:=@Bool.and_assoc
def YU:=@List.mem_append_right
def YV:=@List.length_filter_le
def YW:=@Nat.div_lt_of_lt_mul
def YX:=@UInt8.toNat_inj
def YY:=@List.getElem?_range
def YZ:=@Nat.sub_self
def Ya:=@List.mapM_cons
def Yb:=@Bool.not_false
def Yc:=@List.take_left
def Yd:=@decide_eq_true_iff
def Ye:=@List.getElem?_append_right
def Yf:=@List.mem_cons_self
def Yg:=@List.getElem?_append_left
def Yh:=@not_true_eq_false
def Yi:=@List.foldl_append
def Yj:=@Bool.not_true
def Yk:=@false_implies
def Yl:=@List.all_reverse
def Ym:=@decide_eq_decide
def Yn:=@Bool.not_eq_true
def Yo:=@implies_true
def Yp:=@or_true
def Yq:=@bne_iff_ne
def Yr:=@List.append_eq_nil_iff
def Ys:=@Array.getElem?_eq_none
def Yt:=@Nat.div_add_mod
def Yu:=@List.cons.injEq
def Yv:=@and_congr_right
def Yw:=@List.any_append
def Yx:=@and_true
def Yy:=@Int.pow_nonneg
def Yz:=@List.drop_nil
def Y0:=@Int.add_zero
def Y1:=@Int.pow_zero
def Y2:=@List.all_map
def Y3:=@List.map_set
def Y4:=@List.map_id
def Y5:=@Nat.mul_one
end Go.Proofs.YtgboofebldgdjaaGreatDoor
namespace Go.Proofs.YtgboofebldgdjaaGreatDoor.Vm
open Go Go.RowKit
inductive V where
 | any
 | bool (b:Bool)
 | bit (t f:Bool)
 | int (k:IntKind) (n:Int)
 | str (s:ZA)
 | nilp
 | upt
 | ys (L s:Nat) (rows:List (List V))
 | ptr (nm i j:Nat)
 | rp (cells:List V)
 | nils
 | sl (tight:Bool) (sz:Nat) (rows:List (List V))
 | own (nm lo n:Nat)
 | ownc (nm lo n c:Nat)
 | chan (nm:Nat)
 | mp (nm:Nat)
 | fn (f:Nat) (caps:List V)
 | fnb (f:Nat) (first:List V)
 | iface (t:TypeId) (v:V)
 | agg (cells:List V)
 | tup (vs:List V)
 | gd (b:Bool) (v:V)
 | val (v:Value)
 deriving Inhabited
class Fz where
 n:Nat
instance instFz:Fz:=⟨0⟩
structure Loc where
 b:Nat
 o:Nat
 sz:Nat
 tot:Nat
 [fz:Fz]
def Loc.frz (l:Loc):Nat×Nat:=if l.fz.n=0 then (0,0) else (l.o+l.tot*l.sz+(l.fz.n-1),l.o+l.tot*l.sz+l.fz.n)
def Loc.free (l:Loc){p:Nat}(h:p<l.o+l.tot*l.sz):¬(l.frz.1<=p/\p<l.frz.2):=by
 grind[Loc.frz]
inductive Is (ρ:Nat->Option Loc) (D:Nat->Prop) (w:World):V->Value->Prop
 | any (cv:Value):Is ρ D w .any cv
 | bool (b:Bool):Is ρ D w (.bool b) (.bool b)
 | bit {t f:Bool} (b:Bool) (ht:b=true->t=true) (hf:b=false->f=true):Is ρ D w (.bit t f) (.bool b)
 | int (k:IntKind) (n:Int):Is ρ D w (.int k n) (.int k n)
 | str (s:ZA):Is ρ D w (.str s) (.string ⟨s.toArray⟩)
 | nilp:Is ρ D w .nilp (.pointer none)
 | upt (p:Option Addr):Is ρ D w .upt (.pointer p)
 | ptr {nm i j:Nat} {l:Loc} (h:ρ nm=some l):Is ρ D w (.ptr nm i j) (.pointer (some ⟨l.b,l.o+i*l.sz+j,none⟩))
 | rp {cells:List V} {b o:Nat} (cv:Nat->Value) (hD:¬ D b) (hb:b<w.heap.size) (hc:∀(j:Nat) (u:V),cells[j]? = some u->w.cell? ⟨b,o+j,none⟩=some (cv j))
   (hu:∀(j:Nat) (u:V),cells[j]? = some u->Is ρ D w u (cv j)):Is ρ D w (.rp cells) (.pointer (some ⟨b,o,none⟩))
 | nils:Is ρ D w .nils (.slice none 0 0)
 | sl0 {t:Bool} {sz:Nat} {A:Option Addr} {c:Nat} (ht:t=true->c=0):Is ρ D w (.sl t sz []) (.slice A 0 c)
 | sl {t:Bool} {sz:Nat} {rows:List (List V)} {b o c:Nat} (cv:Nat->Nat->Value) (hc:rows.length<=c) (ht:t=true->c=rows.length) (hD:¬ D b) (hb:b<w.heap.size)
   (hr:∀(i:Nat) (row:List V),rows[i]? = some row->row.length=sz)
   (hx:∀(i j:Nat) (row:List V) (u:V),rows[i]? = some row->row[j]? = some u->w.cell? ⟨b,o+i*sz+j,none⟩=some (cv i j))
   (hu:∀(i j:Nat) (row:List V) (u:V),rows[i]? = some row->row[j]? = some u->Is ρ D w u (cv i j)):Is ρ D w (.sl t sz rows) (.slice (some ⟨b,o,none⟩) rows.length c)
 | ys0 {L sz:Nat} {A:Option Addr} {c:Nat} : Is ρ D w (.ys L sz []) (.slice A 0 c)
 | ys {L sz:Nat} {rows:List (List V)} {b o c:Nat} (cv:Nat->Nat->Value) (hc:rows.length<=c) (hL:L<=b) (hD:¬ D b) (hb:b<w.heap.size)
   (hf:∃ cs t fz,w.heap[b]? = some (.cells cs t fz) /\ ∀ p,p<o+rows.length*sz -> ¬(fz.1<=p/\p<fz.2))
   (hr:∀(i:Nat) (row:List V),rows[i]? = some row->row.length=sz)
   (hx:∀(i j:Nat) (row:List V) (u:V),rows[i]? = some row->row[j]? = some u->w.cell? ⟨b,o+i*sz+j,none⟩=some (cv i j))
   (hu:∀(i j:Nat) (row:List V) (u:V),rows[i]? = some row->row[j]? = some u->Is ρ D w u (cv i j)):Is ρ D w (.ys L sz rows) (.slice (some ⟨b,o,none⟩) rows.length c)
 | own0 {nm lo:Nat} {A:Option Addr} : Is ρ D w (.own nm lo 0) (.slice A 0 0)
 | own {nm lo n c:Nat} {l:Loc} (h:ρ nm=some l) (hl:lo+c<=l.tot) (hc:n<=c):Is ρ D w (.own nm lo n) (.slice (some ⟨l.b,l.o+lo*l.sz,none⟩) n c)
 | ownc0 {nm lo:Nat} {A:Option Addr} : Is ρ D w (.ownc nm lo 0 0) (.slice A 0 0)
 | ownc {nm lo n c:Nat} {l:Loc} (h:ρ nm=some l) (hl:lo+c<=l.tot) (hc:n<=c) (hp:0<c):Is ρ D w (.ownc nm lo n c) (.slice (some ⟨l.b,l.o+lo*l.sz,none⟩) n c)
 | chan {nm:Nat} {l:Loc} (h:ρ nm=some l):Is ρ D w (.chan nm) (.chan (some l.b))
 | fn {f:Nat} {caps:List V} {cvs:ZG} (hn:caps.length=cvs.size) (hu:∀(i:Nat) (u:V) (cv:Value),caps[i]? = some u->cvs[i]? = some cv->Is ρ D w u cv):Is ρ D w (.fn f caps) (.func (.func f) #[] cvs)
 | mp {nm:Nat} {l:Loc} (h:ρ nm=some l):Is ρ D w (.mp nm) (.map (some l.b))
 | fnb {f:Nat} {first:List V} {cvs:ZG} (hn:first.length=cvs.size) (hu:∀(i:Nat) (u:V) (cv:Value),first[i]? = some u->cvs[i]? = some cv->Is ρ D w u cv):Is ρ D w (.fnb f first) (.func (.func f) cvs #[])
 | iface {t:TypeId} {v:V} {cv:Value} (h:Is ρ D w v cv):Is ρ D w (.iface t v) (.iface t cv)
 | agg {cells:List V} {cvs:ZG} (hn:cells.length=cvs.size) (hu:∀(i:Nat) (u:V) (cv:Value),cells[i]? = some u->cvs[i]? = some cv->Is ρ D w u cv):Is ρ D w (.agg cells) (.agg cvs)
 | tup {cells:List V} {cvs:ZG} (hn:cells.length=cvs.size) (hu:∀(i:Nat) (u:V) (cv:Value),cells[i]? = some u->cvs[i]? = some cv->Is ρ D w u cv):Is ρ D w (.tup cells) (.tuple cvs)
 | gd {b:Bool} {v:V} {cv:Value} (h:b=true->Is ρ D w v cv) (h0:b=false->cv=undef):Is ρ D w (.gd b v) cv
 | val (v:Value):Is ρ D w (.val v) v
def Is.step {ρ ρ':Nat->Option Loc}{D D':Nat->Prop}{w w':World}(hρ:∀ nm l,ρ nm=some l->ρ' nm=some l)(hs:w.heap.size<=w'.heap.size)
  (hk:∀ b,b<w.heap.size -> ¬ D b->w'.heap[b]? = w.heap[b]?) (hD:∀ b,b<w.heap.size->D' b->D b) {v:V} {cv:Value} (h:Is ρ D w v cv):Is ρ' D' w' v cv:=by
 induction h with
 | any cv=>exact .any _
 | bool b=>exact .bool _
 | bit b ht hf=>exact .bit b ht hf
 | int k n=>exact .int _ _
 | str s=>exact .str _
 | nilp=>exact .nilp
 | upt p=>exact .upt p
 | ys0=>exact .ys0
 | ys cv hc hL hd hb hf hr hx _ ih=>exact .ys cv hc hL (fun h=>hd (hD _ hb h)) (Wi hb hs) (by simp_all) hr (fun i j row u hi hj=>(World.cell?_of_block (w:=w) (hk _ hb hd)).trans (hx i j row u hi hj)) ih
 | ptr h=>exact .ptr (hρ _ _ h)
 | rp cv hd hb hc _ ih=>exact .rp cv (fun h=>hd (hD _ hb h)) (Wi hb hs) (fun j u hj=>(World.cell?_of_block (w:=w) (hk _ hb hd)).trans (hc j u hj)) ih
 | nils=>exact .nils
 | sl0 ht=>exact .sl0 ht
 | sl cv hc ht hd hb hr hx _ ih=>exact .sl cv hc ht (fun h=>hd (hD _ hb h)) (Wi hb hs) hr (fun i j row u hi hj=>(World.cell?_of_block (w:=w) (hk _ hb hd)).trans (hx i j row u hi hj)) ih
 | own0=>exact .own0
 | own h hl hc=>exact .own (hρ _ _ h) hl hc
 | ownc0=>exact .ownc0
 | ownc h hl hc hp=>exact .ownc (hρ _ _ h) hl hc hp
 | chan h=>exact .chan (hρ _ _ h)
 | mp h=>exact .mp (hρ _ _ h)
 | fn hn _ ih=>exact .fn hn ih
 | fnb hn _ ih=>exact .fnb hn ih
 | iface _ ih=>exact .iface ih
 | agg hn _ ih=>exact .agg hn ih
 | tup hn _ ih=>exact .tup hn ih
 | gd _ h0 ih=>exact .gd ih h0
 | val v=>exact .val _
class inductive Ob where
 | cells
 | typed (t:TypeId)
 | chan (cap:Nat) (closed:Bool) (msgs:List V)
 | obj (o:Obj)
instance instCells:Ob:=.cells
def Ob.isCells:Ob->Bool
 | .cells=>true
 | _=>false
def Ob.isCells_eq {o:Ob}(h:o.isCells=true):o = .cells:=by
 grind[Ob.isCells]
def Ob.isRow:Ob->Bool
 | .cells | .typed _=>true
 | _=>false
def Ob.okCells:Ob->TypeId->Loc->Prop
 | .cells,_,_=>True
 | .typed t,e,l=>e=t/\l.o=0
 | _,_,_=>False
def ry:Ob.isCells instCells=true:=rfl
structure Blk where
 sz:Nat
 rows:List (List V)
 [ob:Ob]
abbrev ah:=Nat->Option Blk
abbrev Names:=Nat->Option Loc
def tZ (o:Option TypeId)(s:Nat)(r:List (List V)):Blk:=match o with
 | some e=>@Blk.mk s r (.typed e)
 | none=>⟨s,r⟩
def H9 (s:Nat)(r:List (List V)):tZ none s r=⟨s,r⟩:=rfl
def cJ (e:TypeId)(s:Nat)(r:List (List V)):tZ (some e) s r = @Blk.mk s r (.typed e):=rfl
theorem ll (o:Option TypeId)(s:Nat)(r:List (List V)):(tZ o s r).sz=s:=by cases o<;>rfl
theorem fM (o:Option TypeId)(s:Nat)(r:List (List V)):(tZ o s r).rows=r:=by cases o<;>rfl
def Al {o:Option TypeId}{s:Nat}{r:List (List V)}{e:TypeId}{l:Loc}(h:∀ t,o=some t->e=t/\l.o=0):(tZ o s r).ob.okCells e l:=by
 cases o with
 | none=>trivial
 | some t=>exact h t rfl
def bV (X:Nat->Prop)(ρ:Names)(M:ah)(b:Nat):Prop:=X b \/ ∃ nm l,(M nm).isSome=true/\ρ nm=some l/\l.b=b
def GX (ρ:Names)(D:Nat->Prop)(w:World)(l:Loc)(k:Blk):Prop :=
 ∃ cs e,k.ob.okCells e l/\w.heap[l.b]? = some (.cells cs e l.frz)/\k.sz=l.sz/\k.rows.length<=l.tot/\l.o+l.tot*l.sz<=cs.size/\(∀(i:Nat) (row:List V),k.rows[i]? = some row->row.length=l.sz) /\
  ∀(i j:Nat) (row:List V) (u:V),k.rows[i]? = some row->row[j]? = some u -> ∃ cv,cs[l.o+i*l.sz+j]? = some cv/\Is ρ D w u cv
def Ob.lies (o:Obj)(ms:List V)(buf:ZG)(off:Nat):Ob->Prop
 | .cells | .typed _=>False
 | .chan cap closed msgs=>msgs=ms /\ ∃ s r,o = .chan cap buf closed s r false
 | .obj x=>o=x/\ms=[]/\off=0
def R9 (ρ:Names)(D:Nat->Prop)(w:World)(l:Loc)(k:Blk):Prop :=
 ∃(o:Obj) (_u:Unit) (msgs:List V) (buf:ZG) (_v _w:Unit),k.ob.lies o msgs buf l.o/\w.heap[l.b]? = some o/\k.sz=l.sz/\k.rows=[]/\l.tot=0/\buf.size=msgs.length /\ ∀(i:Nat) (u:V),msgs[i]? = some u -> ∃ cv,buf[i]? = some cv/\Is ρ D w u cv
def lP (ρ:Names)(D:Nat->Prop)(w:World)(l:Loc)(k:Blk):Prop:=GX ρ D w l k\/R9 ρ D w l k
def Blk.has (k:Blk)(u:V):Prop:=(∃(i j:Nat) (row:List V),k.rows[i]? = some row/\row[j]? = some u) \/ ∃ cap closed msgs,k.ob = .chan cap closed msgs/\u∈msgs
def lP.mono {ρ ρ':Nat->Option Loc}{D D':Nat->Prop}{w w':World}{l:Loc}{k:Blk}(h:lP ρ D w l k)(hw:w'.heap[l.b]? = w.heap[l.b]?)(hi:∀(u:V) (cv:Value),k.has u->Is ρ D w u cv->Is ρ' D' w' u cv):lP ρ' D' w' l k:=by
 rcases h with ⟨cs,e,h1,h2,h3,h4,h5,h6,h7⟩|⟨cap,closed,msgs,buf,s,r,h1,h2,h3,h4,h5,h6,h7⟩
 ·refine .inl ⟨cs,e,h1,hw.trans h2,h3,h4,h5,h6,fun i j row u hr hj=>?_⟩
  obtain⟨cv,c1,c2⟩:=h7 i j row u hr hj
  exact⟨cv,c1,hi u cv (.inl ⟨i,j,row,hr,hj⟩) c2⟩
 ·refine .inr ⟨cap,closed,msgs,buf,s,r,h1,hw.trans h2,h3,h4,h5,h6,fun i u hm=>?_⟩
  obtain⟨cv,c1,c2⟩:=h7 i u hm
  refine⟨cv,c1,hi u cv (.inr ?_) c2⟩
  cases hob:k.ob with
  | cells=>rw[hob]at h1;exact h1.elim
  | typed t=>rw[hob]at h1;exact h1.elim
  | chan cap closed ms=>rw[hob]at h1;exact⟨cap,closed,ms,rfl,by rw[h1.1];grind⟩
  | obj x=>rw[hob]at h1;rw[h1.2.1]at hm;simp at hm
structure Rel (G:Nat->V) (X:Nat->Prop) (w0:World) (I:Nat->Prop) (ρ:Names) (M:ah) (w:World):Prop where
 size:w0.heap.size<=w.heap.size
 os:w.os=w0.os
 tape:w.tape=w0.tape
 output:w.output=w0.output
 old:∀ b,b<w0.heap.size -> ¬ I b->w.heap[b]? = w0.heap[b]?
 live:∀ nm k,M nm=some k->(k.rows=[]/\ρ nm=none) \/ ∃ l,ρ nm=some l/\(I l.b\/w0.heap.size<=l.b) /\ ¬ X l.b/\lP ρ (bV X ρ M) w l k
 inj:∀ nm nm' l l',(M nm).isSome=true->(M nm').isSome=true->ρ nm=some l->ρ nm'=some l'->l.b=l'.b->nm=nm'
 hX:∀ b,X b->b<w0.heap.size /\ ¬ I b
 glob:∀ g,Is ρ (bV X ρ M) w (G g) (.pointer (some ⟨g,0,none⟩))
def kQ {w:World}{b:Nat}{o:Obj}(h:w.heap[b]? = some o):b<w.heap.size:=by
 grind
structure Moves (ρ:Names) (M:ah) (w:World) (ρ':Names) (M':ah) (w':World):Prop where
 names:∀ nm l,ρ nm=some l->ρ' nm=some l
 size:w.heap.size<=w'.heap.size
 os:w'.os=w.os
 tape:w'.tape=w.tape
 output:w'.output=w.output
 kept:∀ b,b<w.heap.size->(∀ nm l,(M nm).isSome=true->ρ nm=some l->l.b≠b)->w'.heap[b]? = w.heap[b]?
 dom:∀ nm l,(M' nm).isSome=true->ρ' nm=some l->l.b<w.heap.size -> ∃ nm' l',(M nm').isSome=true/\ρ nm'=some l'/\l'.b=l.b
section
variable {G:Nat->V} {X:Nat->Prop} {w0:World} {I:Nat->Prop} {ρ ρ':Names} {M M':ah} {w w':World}
def Moves.is (m:Moves ρ M w ρ' M' w'){v:V}{cv:Value}(h:Is ρ (bV X ρ M) w v cv):Is ρ' (bV X ρ' M') w' v cv:=by
 refine h.step m.names m.size (fun b hb hd=>m.kept b hb (fun nm l h1 h2 h3=>hd (.inr ⟨nm,l,h1,h2,h3⟩))) ?_
 rintro b hb (hx|⟨nm,l,h1,h2,h3⟩)
 ·exact .inl hx
 ·subst h3
  obtain⟨nm',l',k1,k2,k3⟩:=m.dom nm l h1 h2 hb
  exact .inr ⟨nm',l',k1,k2,k3⟩
def Rel.move (h:Rel G X w0 I ρ M w)(m:Moves ρ M w ρ' M' w')
    (hinj:∀ nm nm' l l',(M' nm).isSome=true->(M' nm').isSome=true->ρ' nm=some l->ρ' nm'=some l'->l.b=l'.b->nm=nm')
    (hl:∀ nm k,M' nm=some k->(M nm=some k/\(ρ nm=none->ρ' nm=none) /\ ∀ l,ρ nm=some l->w'.heap[l.b]? = w.heap[l.b]?)\/(k.rows=[]/\ρ' nm=none) \/
      ∃ l,ρ' nm=some l/\(I l.b\/w0.heap.size<=l.b) /\ ¬ X l.b/\lP ρ' (bV X ρ' M') w' l k):Rel G X w0 I ρ' M' w' where
  size:=W4 h.size m.size
  os:=m.os.trans h.os
  tape:=m.tape.trans h.tape
  output:=m.output.trans h.output
  old:=fun b hb hI=>by
    rw[m.kept b (Wi hb h.size),h.old b hb hI]
    rintro nm l h1 h2 rfl
    obtain⟨k,hk⟩:=OF.1 h1
    rcases h.live nm k hk with ⟨_,h3⟩|⟨l',h3,h4,_⟩
    · rw[h2]at h3;cases h3
    · rw[h2]at h3;cases h3
      rcases h4 with h4|h4
      · exact hI h4
      · omega
  live:=fun nm k hk=>by
    rcases hl nm k hk with ⟨h1,h2,h3⟩|h1|h1
    · rcases h.live nm k h1 with ⟨h4,h5⟩|⟨l,h4,h5,h6,⟨cs,e,hob,h7,h8,h9,h10,h11,h12⟩|⟨cap,closed,msgs,buf,s,r,h7,h8,h9,h10,h10',h11,h12⟩⟩
      · exact .inl ⟨h4,h2 h5⟩
      · refine .inr ⟨l,m.names _ _ h4,h5,h6,.inl ⟨cs,e,hob,(h3 l h4).trans h7,h8,h9,h10,h11,fun i j row u hi hj=>?_⟩⟩
        obtain⟨cv,h13,h14⟩:=h12 i j row u hi hj
        exact⟨cv,h13,m.is h14⟩
      · refine .inr ⟨l,m.names _ _ h4,h5,h6,.inr ⟨cap,closed,msgs,buf,s,r,h7,(h3 l h4).trans h8,h9,h10,h10',h11,fun i u hi=>?_⟩⟩
        obtain⟨cv,h13,h14⟩:=h12 i u hi
        exact⟨cv,h13,m.is h14⟩
    · exact .inl h1
    · exact .inr h1
  inj:=hinj
  hX:=h.hX
  glob:=fun g=>m.is (h.glob g)
def Rel.drop (h:Rel G X w0 I ρ M w)(hM:∀ nm k,M' nm=some k->M nm=some k):Rel G X w0 I ρ M' w/\Moves ρ M w ρ M' w:=by
 have hs:∀ nm,(M' nm).isSome=true->(M nm).isSome=true:=fun nm hn=>by
  obtain⟨k,hk⟩:=OF.1 hn
  simp_all
 have m:Moves ρ M w ρ M' w:=⟨fun _ _ h=>h,IS _,rfl,rfl,rfl,fun _ _ _=>rfl,fun nm l h1 h2 _=>⟨nm,l,hs nm h1,h2,rfl⟩⟩
 exact⟨h.move m (fun nm nm' l l' h1 h2 h3 h4 h5=>h.inj nm nm' l l' (hs _ h1) (hs _ h2) h3 h4 h5) (fun nm k hk=>.inl ⟨hM nm k hk,id,fun _ _=>rfl⟩),m⟩
def Rel.draw (h:Rel G X w0 I ρ M w)(n:Nat):Rel G X w0 I ρ M { w with drawn:=n } /\ Moves ρ M w ρ M { w with drawn:=n }:=by
 have m:Moves ρ M w ρ M { w with drawn:=n }:=⟨fun _ _ h=>h,IS _,rfl,rfl,rfl,fun _ _ _=>rfl,fun nm l h1 h2 _=>⟨nm,l,h1,h2,rfl⟩⟩
 exact⟨h.move m h.inj (fun nm k hk=>.inl ⟨hk,id,fun _ _=>rfl⟩),m⟩
end
def Moves.refl (ρ:Names)(M:ah)(w:World):Moves ρ M w ρ M w:=⟨fun _ _ h=>h,IS _,rfl,rfl,rfl,fun _ _ _=>rfl,fun nm l h1 h2 _=>⟨nm,l,h1,h2,rfl⟩⟩
def Moves.trans {ρ ρ' ρ'':Names}{M M' M'':ah}{w w' w'':World}(a:Moves ρ M w ρ' M' w')(b:Moves ρ' M' w' ρ'' M'' w''):Moves ρ M w ρ'' M'' w'' where
 names:=fun nm l h=>b.names _ _ (a.names _ _ h)
 size:=W4 a.size b.size
 os:=b.os.trans a.os
 tape:=b.tape.trans a.tape
 output:=b.output.trans a.output
 kept:=fun k hk h=>by
  rw[b.kept k (Wi hk a.size),a.kept k hk h]
  rintro nm l h1 h2 rfl
  obtain⟨nm',l',k1,k2,k3⟩:=a.dom nm l h1 h2 hk
  grind
 dom:=fun nm l h1 h2 h3=>by
  obtain⟨nm',l',k1,k2,k3⟩:=b.dom nm l h1 h2 (Wi h3 a.size)
  obtain⟨n2,l2,j1,j2,j3⟩:=a.dom nm' l' k1 k2 Y6
  grind
def ah.put (M:ah)(nm:Nat)(k:Option Blk):ah:=fun x=>if x=nm then k else M x
def ah.put_same (M:ah)(nm:Nat)(k:Option Blk):M.put nm k nm=k:=by simp[ah.put]
def ah.put_ne (M:ah){nm x:Nat}(k:Option Blk)(h:x≠nm):M.put nm k x=M x:=by simp[ah.put,h]
@[reducible] def fzTo (l:Loc) (lo c:Nat):Fz:=⟨if l.fz.n=0 then 0 else l.fz.n+(l.tot*l.sz-(lo*l.sz+c*l.sz))⟩
def Vk (n:Nat):@Fz.n ⟨n⟩=n:=rfl
def S3 {l:Loc}{lo c:Nat}(h:lo+c<=l.tot):(@Loc.mk l.b (l.o+lo*l.sz) l.sz c (fzTo l lo c)).frz=l.frz:=by
 have h2:(lo+c)*l.sz<=l.tot*l.sz:=WX _ h
 rw[Nat.add_mul]at h2
 obtain @⟨b,o,sz,tot,@⟨n⟩⟩:=l
 unfold Loc.frz fzTo
 simp only[Vk]at h h2 ⊢
 generalize tot*sz=T at *
 generalize lo*sz=A at *
 generalize c*sz=B at *
 by_cases h0:n=0
 ·simp only[if_pos h0,WQ]
 ·have h1:¬(n+(T-(A+B))=0):=Y6
  simp only[if_neg h0,if_neg h1,W6]
  omega
def gB (P:Program)(g o:Nat)(t:TypeId)(fz:Nat×Nat):∀(vs:List Value) (i:Nat) (cur:ZG) (w:World),w.heap[g]? = some (.cells cur t fz)->(∀ p,p<o+i+vs.length -> ¬(fz.1<=p/\p<fz.2))->o+i+vs.length<=cur.size->(∀ v∈vs,v.oneCell'=true) ->
  (storeCells ⟨g,o,none⟩ vs i).run P w = .ok () (w.setRow g (cur.toList.take (o+i)++vs++cur.toList.drop (o+i+vs.length)).toArray)
 | [],i,cur,w,hg,_,_,_=>by
  simp only[storeCells,WR,List.length_nil,Nat.add_zero,List.take_append_drop,Array.toArray_toList]
  rw[setRow_self w g cur t fz hg]
  rfl
 | v::rest,i,cur,w,hg,hf,hl,h1=>by
  have hi:o+i<cur.size:=by simp at hl;omega
  have hadd:(⟨g,o,none⟩:Addr).add i=⟨g,o+i,none⟩:=by unfold Addr.add;split<;>simp_all
  have hcell:w.cell? ⟨g,o+i,none⟩=some cur[o+i]:=by simp[World.cell?,hg,hi]
  have hfro:w.frozen? ⟨g,o+i,none⟩=false:=by
   have:=hf (o+i) (by rw[List.length_cons];omega)
   obtain⟨f1,f2⟩:=fz
   simp only[World.frozen?,hg,Wo,XA]
   simp only at this
   omega
  have hst:(store ((⟨g,o,none⟩:Addr).add i) v).run P w = .ok () (w.setRow g (cur.setIfInBounds (o+i) v)):=by
   rw[hadd,run_store P w _ v _ (h1 v ZH),hcell]
   simp[hfro,setCell_eq_setRow w g (o+i) cur t fz v hg]
  have ih:=gB P g o t fz rest (i+1) (cur.setIfInBounds (o+i) v) (w.setRow g (cur.setIfInBounds (o+i) v)) (setRow_heap w g cur _ t _ hg) (fun p hp=>hf p (by simp at hp ⊢;omega)) (by simp at hl ⊢;omega) (fun x hx=>h1 x (by simp[hx]))
  simp only[storeCells,Sem.run_bind,hst,Result.andThen_ok,ih,setRow_setRow]
  congr 3
  have e:=list_seg_step cur.toList (o+i) v rest (by simp at hl ⊢;omega)
  simpa [Array.toList_setIfInBounds,XS] using e
def Names.put (ρ:Names)(nm:Nat)(l:Loc):Names:=fun x=>if x=nm then some l else ρ x
def Names.put_same (ρ:Names)(nm:Nat)(l:Loc):ρ.put nm l nm=some l:=by simp[Names.put]
def Names.put_ne (ρ:Names){nm x:Nat}(l:Loc)(h:x≠nm):ρ.put nm l x=ρ x:=by simp[Names.put,h]
section
variable {G:Nat->V} {X:Nat->Prop} {w0:World} {I:Nat->Prop} {ρ:Names} {M:ah} {w w':World}
def Rel.write (h:Rel G X w0 I ρ M w){nm:Nat}{k k':Blk}{l:Loc}(hM:M nm=some k)(hl:ρ nm=some l)(hsz:w'.heap.size=w.heap.size)(hos:w'.os=w.os)(htp:w'.tape=w.tape)(hout:w'.output=w.output)
  (hk:∀ b,b≠l.b->w'.heap[b]? = w.heap[b]?) {cs':ZG} {e:TypeId} (hb:w'.heap[l.b]? = some (.cells cs' e l.frz)) (h1:k'.sz=l.sz) (h2:k'.rows.length<=l.tot) (h3:l.o+l.tot*l.sz<=cs'.size)
  (h4:∀(i:Nat) (row:List V),k'.rows[i]? = some row->row.length=l.sz)
  (h5:∀(i j:Nat) (row:List V) (u:V),k'.rows[i]? = some row->row[j]? = some u -> ∃ cv,cs'[l.o+i*l.sz+j]? = some cv/\Is ρ (bV X ρ M) w u cv) (h0:k'.ob.okCells e l:=by exact True.intro) :
  Rel G X w0 I ρ (M.put nm (some k')) w'/\Moves ρ M w ρ (M.put nm (some k')) w':=by
 have hs:∀ x,((M.put nm (some k')) x).isSome=true->(M x).isSome=true:=fun x hx=>by
  by_cases e:x=nm
  ·subst e;rw[hM];rfl
  ·rwa[ah.put_ne _ _ e]at hx
 have m:Moves ρ M w ρ (M.put nm (some k')) w' :=
  ⟨fun _ _ h=>h,Nat.le_of_eq hsz.symm,hos,htp,hout,fun b _ hn=>hk b (fun e=>hn nm l (by rw[hM];rfl) hl e.symm),fun n l' a1 a2 _=>⟨n,l',hs n a1,a2,rfl⟩⟩
 refine⟨h.move m (fun a b l1 l2 a1 a2 a3 a4 a5=>h.inj a b l1 l2 (hs a a1) (hs b a2) a3 a4 a5) ?_,m⟩
 intro x kx hx
 by_cases e:x=nm
 ·subst e
  rw[ah.put_same]at hx
  cases hx
  rcases h.live x k hM with ⟨_,a2⟩|⟨l',a1,a2,a3,_⟩
  ·rw[hl]at a2;cases a2
  ·rw[hl]at a1;cases a1
   refine .inr (.inr ⟨l,hl,a2,a3,.inl ⟨cs',_,h0,hb,h1,h2,h3,h4,fun i j row u hi hj=>?_⟩⟩)
   obtain⟨cv,c1,c2⟩:=h5 i j row u hi hj
   exact⟨cv,c1,m.is c2⟩
 ·rw[ah.put_ne _ _ e]at hx
  refine .inl ⟨hx,id,fun lx hlx=>hk _ (fun e2=>e (h.inj x nm lx l (by rw[hx];rfl) (by rw[hM];rfl) hlx hl e2))⟩
def Rel.alloc (h:Rel G X w0 I ρ M w){nm:Nat}(hM:M nm=none)(hρ:ρ nm=none)(cs:ZG)(e:TypeId)(k:Blk)(tot:Nat)(h2:k.rows.length<=tot)(h3:tot*k.sz<=cs.size)
  (h4:∀(i:Nat) (row:List V),k.rows[i]? = some row->row.length=k.sz)
  (h5:∀(i j:Nat) (row:List V) (u:V),k.rows[i]? = some row->row[j]? = some u -> ∃ cv,cs[i*k.sz+j]? = some cv/\Is ρ (bV X ρ M) w u cv) (h0:k.ob.okCells e ⟨w.heap.size,0,k.sz,tot⟩:=by exact True.intro) :
  Rel G X w0 I (ρ.put nm ⟨w.heap.size,0,k.sz,tot⟩) (M.put nm (some k)) (w.alloc (.cells cs e))/\Moves ρ M w (ρ.put nm ⟨w.heap.size,0,k.sz,tot⟩) (M.put nm (some k)) (w.alloc (.cells cs e)):=by
 have hne:∀ x,(M x).isSome=true->x≠nm:=fun x hx e=>by subst e;rw[hM]at hx;cases hx
 have hnr:∀ x l,ρ x=some l->x≠nm:=fun x l hx e=>by subst e;rw[hρ]at hx;cases hx
 have hlt:∀ x l,(M x).isSome=true->ρ x=some l->l.b<w.heap.size:=fun x l hx hl=>by
  obtain⟨kx,hkx⟩:=OF.1 hx
  rcases h.live x kx hkx with ⟨_,a⟩|⟨l',a1,_,_,⟨cs,e,_,a2,_⟩|⟨_,_,_,_,_,_,_,a2,_⟩⟩
  ·rw[hl]at a;cases a
  ·rw[hl]at a1;cases a1;exact kQ a2
  ·rw[hl]at a1;cases a1;exact kQ a2
 have m:Moves ρ M w (ρ.put nm ⟨w.heap.size,0,k.sz,tot⟩) (M.put nm (some k)) (w.alloc (.cells cs e)):=by
  refine⟨fun x l hx=>by rw[Names.put_ne _ _ (hnr x l hx)];exact hx,by simp,rfl,rfl,rfl,fun b hb _=>Below.heap_alloc _ _ _ hb,fun x l a1 a2 a3=>?_⟩
  by_cases e:x=nm
  ·subst e;rw[Names.put_same]at a2;cases a2;simp at a3
  ·rw[Names.put_ne _ _ e]at a2;rw[ah.put_ne _ _ e]at a1
   exact⟨x,l,a1,a2,rfl⟩
 refine⟨h.move m ?_ ?_,m⟩
 ·intro x y l l' a1 a2 a3 a4 a5
  by_cases ex:x=nm
  ·subst ex
   rw[Names.put_same]at a3;cases a3
   by_cases ey:y=x
   ·exact ey.symm
   ·rw[Names.put_ne _ _ ey]at a4;rw[ah.put_ne _ _ ey]at a2
    have:=hlt y l' a2 a4
    simp at a5;omega
  ·rw[Names.put_ne _ _ ex]at a3;rw[ah.put_ne _ _ ex]at a1
   have:=hlt x l a1 a3
   by_cases ey:y=nm
   ·subst ey
    rw[Names.put_same]at a4;cases a4
    simp at a5;omega
   ·rw[Names.put_ne _ _ ey]at a4;rw[ah.put_ne _ _ ey]at a2
    exact h.inj x y l l' a1 a2 a3 a4 a5
 ·intro x kx hx
  by_cases ex:x=nm
  ·subst ex
   rw[ah.put_same]at hx;cases hx
   refine .inr (.inr ⟨_,Names.put_same _ _ _,.inr h.size,fun hX=>?_,.inl ⟨cs,e,h0,heap_alloc_new w _,rfl,h2,by simpa using h3,h4,fun i j row u hi hj=>?_⟩⟩)
   ·have:=(h.hX _ hX).1
    have:=h.size
    simp at *;omega
   ·obtain⟨cv,c1,c2⟩:=h5 i j row u hi hj
    exact⟨cv,by simpa using c1,m.is c2⟩
  ·rw[ah.put_ne _ _ ex]at hx
   refine .inl ⟨hx,fun hn=>by rw[Names.put_ne _ _ ex];exact hn,fun lx hlx=>Below.heap_alloc _ _ _ (hlt x lx (by rw[hx];rfl) hlx)⟩
end
def nI:Value->V
 | .bool b=>.bool b
 | .int k n=>.int k n
 | .string s=>.str s.data.toList
 | .pointer none=>.nilp
 | .slice none 0 0=>.nils
 | v=>.val v
def Q4:Value->V
 | .agg cs=>.agg (cs.toList.map nI)
 | v=>nI v
def uz (ρ:Names)(D:Nat->Prop)(w:World)(v:Value):Is ρ D w (nI v) v:=by
 unfold nI
 split
 ·exact .bool _
 ·exact .int _ _
 ·rename_i s
  have h:(⟨s.data.toList.toArray⟩:ByteArray)=s:=by cases s;rfl
  have:=Is.str (ρ:=ρ) (D:=D) (w:=w) s.data.toList
  rwa[h]at this
 ·exact .nilp
 ·exact .nils
 ·exact .val _
def ML (ρ:Names)(D:Nat->Prop)(w:World)(v:Value):Is ρ D w (Q4 v) v:=by
 unfold Q4
 split
 ·rename_i cs
  refine .agg ZH (fun i u cv h1 h2=>?_)
  rw[WG]at h1
  obtain⟨x,h3,rfl⟩:=BY.1 h1
  rw[XE]at h3
  rw[h3]at h2;cases h2
  exact uz _ _ _ _
 ·exact uz _ _ _ _
def V.strip (c:Bool):V->V
 | .gd b v=>if b || !c then v else .gd b v
 | v=>v
def Is.strip {ρ:Names}{D:Nat->Prop}{w:World}{c:Bool}(hc:c=true){v:V}{cv:Value}(h:Is ρ D w v cv):Is ρ D w (v.strip c) cv:=by
 subst hc
 unfold V.strip
 split
 ·rename_i b v
  split
  ·rename_i hb
   cases h with
   | gd h _=>exact h (by simpa using hb)
  ·exact h
 ·exact h
abbrev Env:=Nat->V
def Env.put (e:Env)(t:Nat)(v:V):Env:=fun x=>if x=t then v else e x
def Env.putD (e:Env)(d:ZC)(v:V):Env:=match d with|some t=>e.put t v|none=>e
def ap (G:Nat->V)(c:Bool)(e:Env):Operand->V
 | .tmp t=>(e t).strip c
 | .const v=>Q4 v
 | .global g=>G g
 | .func f=>.fn f []
structure EnvAt (ds:List Deferred) (ρ:Names) (D:Nat->Prop) (w:World) (N:Nat) (e:Env) (a:Act):Prop where
 size:a.tmps.size=N
 defers:a.defers=ds
 is:∀ t,t<N->Is ρ D w (e t) (a.tmps.getD t undef)
def Hi (N:Nat):Operand->Prop
 | .tmp t=>t<N
 | _=>True
def EnvAt.eval {G:Nat->V}{X:Nat->Prop}{w0:World}{I:Nat->Prop}{ρ:Names}{M:ah}{w:World}(h:Rel G X w0 I ρ M w){N:Nat}{e:Env}{a:Act}{ds:List Deferred}(he:EnvAt ds ρ (bV X ρ M) w N e a)
  {c:Bool} (hc:c=true) {x:Operand} (hx:Hi N x):Is ρ (bV X ρ M) w (ap G c e x) (a.eval x):=by
 cases x with
 | tmp t=>exact(he.is t hx).strip hc
 | const v=>exact ML _ _ _ _
 | global g=>exact h.glob g
 | func f=>exact .fn rfl (fun i u cv h1 _=>by simp at h1)
def ty (P:Program)(t:TypeId):Option (Nat×Bool) :=
 match P.info? t,P.underlying t with
 | some i,some d=>some (i.size,match d with | .struct _ | .array _ _=>true|_=>false)
 | _,_=>none
section
variable {P:Program} {G:Nat->V} {X:Nat->Prop} {w0:World} {I:Nat->Prop} {ρ:Names} {M:ah} {w:World} {D:Nat->Prop}
def gW {t s:Nat}{g:Bool}(h:ty P t=some (s,g))(w:World):(sizeOf t).run P w = .ok s w/\(isAgg t).run P w = .ok g w/\(P.info? t).map (·.size)=some s:=by
 unfold ty at h
 split at h
 ·rename_i i d hi hd
  simp only[WO,W6]at h
  obtain⟨h1,h2⟩:=h
  subst h1
  refine⟨by simp[sizeOf,typeInfo,hi],?_,by simp[hi]⟩
  unfold isAgg
  rw[Sem.run_bind,run_underlying hd w]
  cases d<;>simp_all
 ·cases h
def V.one:V->Bool
 | .any | .agg _ | .tup _ | .gd _ _=>false
 | .val v=>v.oneCell'
 | _=>true
def V.cellsV:V->List V
 | .agg cs=>cs
 | v=>[v]
def Is.one {v:V}{cv:Value}(h:Is ρ D w v cv)(ho:v.one=true):cv.oneCell'=true/\cv.cells = #[cv]:=by
 cases h<;>simp_all [V.one,Value.oneCell',Value.cells]<;>(try (split at ho<;>simp_all))
def Is.cells {v:V}{cv:Value}(h:Is ρ D w v cv)(ho:(v.cellsV.all V.one)=true):cv.cells.size=v.cellsV.length/\(∀ x∈cv.cells.toList,x.oneCell'=true) /\ ∀(j:Nat) (u:V),v.cellsV[j]? = some u -> ∃ c,cv.cells[j]? = some c/\Is ρ D w u c:=by
 by_cases ha:∃ cs,v = .agg cs
 ·obtain⟨cs,rfl⟩:=ha
  cases h with
  | agg hn hu =>
   rename_i cvs
   refine⟨hn.symm,?_,?_⟩
   ·intro x hx
    obtain⟨i,hi,rfl⟩:=Xd hx
    have hi2:i<cs.length:=by simp[Value.cells]at hi;omega
    have h1:=hu i cs[i] _ (AT hi2) (Wg (by simpa [Value.cells] using hi))
    have h2:cs[i].one=true:=by
     simp only[V.cellsV,WI]at ho
     exact ho _ (Xi hi2)
    exact(h1.one h2).1
   ·intro j u hj
    have hj2:j<cvs.size:=by rw[<- hn];exact(AS.1 hj).1
    exact⟨cvs[j],Wg hj2,hu j u _ hj (Wg hj2)⟩
 ·have hv:v.cellsV=[v]:=by
   cases v<;>simp_all [V.cellsV]
  rw[hv]at ho ⊢
  simp only[List.all_cons,List.all_nil,Wz]at ho
  obtain⟨h1,h2⟩:=h.one ho
  rw[h2]
  refine⟨rfl,by simpa using h1,?_⟩
  intro j u hj
  cases j with
  | zero=>simp at hj;subst hj;exact⟨cv,rfl,h⟩
  | succ j=>simp at hj
def V.lose:V->V
 | .ownc nm lo n _=>.own nm lo n
 | v=>v
def Is.lose {v:V}{cv:Value}(h:Is ρ D w v cv):Is ρ D w v.lose cv:=by
 cases h with
 | ownc0=>exact .own0
 | ownc h hl hc _=>exact .own h hl hc
 | any cv=>exact .any _
 | bool b=>exact .bool _
 | bit b ht hf=>exact .bit b ht hf
 | int k n=>exact .int _ _
 | str s=>exact .str _
 | nilp=>exact .nilp
 | upt p=>exact .upt p
 | ys0=>exact .ys0
 | ys cv hc hL hd hb hf hr hx hu=>exact .ys cv hc hL hd hb hf hr hx hu
 | ptr h=>exact .ptr h
 | rp cv hd hb hc hu=>exact .rp cv hd hb hc hu
 | nils=>exact .nils
 | sl0 ht=>exact .sl0 ht
 | sl cv hc ht hd hb hr hx hu=>exact .sl cv hc ht hd hb hr hx hu
 | own0=>exact .own0
 | own h hl hc=>exact .own h hl hc
 | chan h=>exact .chan h
 | mp h=>exact .mp h
 | fn hn hu=>exact .fn hn hu
 | fnb hn hu=>exact .fnb hn hu
 | iface h=>exact .iface h
 | agg hn hu=>exact .agg hn hu
 | tup hn hu=>exact .tup hn hu
 | gd h h0=>exact .gd h h0
 | val v=>exact .val _
def rowOf (M:ah)(nm i:Nat):List V:=match M nm with|some k=>(k.rows[i]?).getD []|none=>[]
def target (M:ah):V->List V
 | .ptr nm i j=>(rowOf M nm i).drop j
 | .rp cells=>cells
 | _=>[]
def V.isPtr:V->Bool
 | .ptr _ _ _ | .rp _=>true
 | _=>false
def Rel.target (h:Rel G X w0 I ρ M w){v:V}{cv:Value}(hv:Is ρ (bV X ρ M) w v cv)(hp:v.isPtr=true):∃ b o,cv = .pointer (some ⟨b,o,none⟩) /\
  ∀(j:Nat) (u:V),(target M v)[j]? = some u -> ∃ c,w.cell? ⟨b,o+j,none⟩=some c/\Is ρ (bV X ρ M) w u c:=by
 cases hv<;>try (simp[V.isPtr]at hp;done)
 case ptr nm i j l hl =>
  refine⟨l.b,l.o+i*l.sz+j,rfl,?_⟩
  intro j' u hu
  simp only[Vm.target,Wr,rowOf]at hu
  cases hM:M nm with
  | none=>simp[hM]at hu
  | some k =>
   simp only[hM]at hu
   cases hr:k.rows[i]? with
   | none=>simp[hr]at hu
   | some row =>
    simp only[hr,Option.getD_some]at hu
    rcases h.live nm k hM with ⟨h1,_⟩|⟨l',h1,_,_,⟨cs,e,_,h2,_,_,_,_,h3⟩|⟨_,_,_,_,_,_,_,_,_,h1,_⟩⟩
    rotate_right
    ·rw[h1]at hr;simp at hr
    ·rw[h1]at hr;simp at hr
    ·rw[hl]at h1;cases h1
     obtain⟨c,h4,h5⟩:=h3 i (j+j') row u hr hu
     refine⟨c,?_,h5⟩
     rw[cell_of_row w l.b _ cs e _ h2,XS];exact h4
 case rp cells b o cvf hD hb hc hu =>
  exact⟨b,o,rfl,fun j u hj=>⟨cvf j,hc j u hj,hu j u hj⟩⟩
def y6 (P:Program)(t:TypeId)(M:ah)(x:V):V :=
 match ty P t with
 | some (s,true)=>.agg ((target M x).take s)
 | _=>((target M x)[0]?).getD .any
def v4 (P:Program)(t:TypeId)(M:ah)(x:V):Prop :=
 x.isPtr=true/\match ty P t with
 | some (s,true)=>s<=(target M x).length
 | some (_,false)=>0<(target M x).length
 | none=>False
def v5 (h:Rel G X w0 I ρ M w){t:TypeId}{x:V}{cv:Value}(hx:Is ρ (bV X ρ M) w x cv)(hok:v4 P t M x) :
  ∃ c,(Instr.loadAt t cv).run P w = .ok c w/\Is ρ (bV X ρ M) w (y6 P t M x) c:=by
 obtain⟨hp,hok⟩:=hok
 obtain⟨b,o,rfl,hc⟩:=h.target hx hp
 unfold y6
 split at hok
 ·rename_i s ht
  obtain⟨h1,h2,_⟩:=gW ht w
  rw[ht]
  have hall:∀ j,j<s -> ∃ c,w.cell? ⟨b,o+j,none⟩=some c:=fun j hj=>by
   obtain⟨c,hc1,_⟩:=hc j _ (AT Y6)
   exact⟨c,hc1⟩
  have hl:=run_loadCells (P:=P) w ⟨b,o,none⟩ s (fun j=>(w.cell? ⟨b,o+j,none⟩).getD undef) (fun j hj=>by
   obtain⟨c,hc1⟩:=hall j hj
   rw[Addr.add_mid,hc1];rfl)
  refine⟨_,by simp only[Instr.loadAt,Instr.sureAddr,Sem.run_bind,Sem.run_pure,Result.andThen_ok,loadVar,h2,WQ,h1,hl];rfl,?_⟩
  refine .agg ZK ?_
  intro i u c hi hc2
  rw[XI]at hi
  split at hi
  ·rename_i his
   obtain⟨c',hc3,hc4⟩:=hc i u hi
   simp[his,hc3]at hc2
   subst hc2
   exact hc4
  ·cases hi
 ·rename_i s ht
  obtain⟨h1,h2,_⟩:=gW ht w
  rw[ht]
  obtain⟨c,hc1,hc2⟩:=hc 0 _ (AT hok)
  simp only[Nat.add_zero]at hc1
  refine⟨c,by simp only[Instr.loadAt,Instr.sureAddr,Sem.run_bind,Sem.run_pure,Result.andThen_ok,loadVar,h2,WH,WS,run_load,hc1],?_⟩
  simpa [AT hok] using hc2
 ·exact hok.elim
end
def bD (M:ah)(nm:Nat):List (List V):=match M nm with|some k=>k.rows|none=>[]
def bw {α:Type}(row:List α)(j:Nat)(cs:List α):List α:=row.take j++cs++row.drop (j+cs.length)
def fh {α:Type}{row:List α}{j:Nat}{cs:List α}(h:j+cs.length<=row.length):(bw row j cs).length=row.length:=by
 grind[bw]
def cV {α:Type}{row:List α}{j:Nat}{cs:List α}(h:j+cs.length<=row.length)(q:Nat) :
  (bw row j cs)[q]? = if q<j then row[q]? else if q<j+cs.length then cs[q-j]? else row[q]?:=by
 unfold bw
 grind
def nt (row:List V)(j:Nat)(v:V):List V:=match v with
 | .agg cs=>bw row j cs
 | v=>row.set j v
def GA {row:List V}{j:Nat}{v:V}(h:j+v.cellsV.length<=row.length):nt row j v=bw row j v.cellsV:=by
 unfold nt
 split
 ·rfl
 ·have hv:v.cellsV=[v]:=by
   simp_all[V.cellsV]
  rw[hv]at h ⊢
  unfold bw
  simp only[List.length_singleton]at h ⊢
  rw[List.set_eq_take_append_cons_drop,if_pos Y6]
  simp
section
variable {P:Program} {G:Nat->V} {X:Nat->Prop} {w0:World} {I:Nat->Prop} {ρ:Names} {M:ah} {w:World} {D:Nat->Prop}
def tf (M:ah)(x v:V):ah:=match x with
 | .ptr nm i j=>M.put nm ((M nm).map fun k=>⟨k.sz,k.rows.set i (nt (rowOf M nm i) j v)⟩)
 | _=>M
def kj (P:Program)(t:TypeId)(M:ah)(x v:V):Prop:=match x with
 | .ptr nm i j=>match ty P t with
  | some (s,_)=>0<s/\v.cellsV.length=s/\v.cellsV.all V.one=true/\j+s<=(rowOf M nm i).length
  | none=>False
 | _=>False
def DW (h:Rel G X w0 I ρ M w){t:TypeId}{x v:V}{cx cv:Value}(hx:Is ρ (bV X ρ M) w x cx)(hv:Is ρ (bV X ρ M) w v cv)(hok:kj P t M x v) :
  ∃ w',(Instr.storeAt t cx cv).run P w = .ok () w'/\Rel G X w0 I ρ (tf M x v) w'/\Moves ρ M w ρ (tf M x v) w':=by
 unfold kj at hok
 split at hok
 ·rename_i nm i j
  split at hok
  ·rename_i s g ht
   obtain⟨hs,hlen,hone,hj⟩:=hok
   obtain⟨hsz,_,_⟩:=gW ht w
   obtain⟨hc1,hc2,hc3⟩:=hv.cells hone
   cases hx with
   | ptr hl =>
   rename_i l
   cases hM:M nm with
   | none=>simp_all[rowOf]
   | some k =>
    have hrow:rowOf M nm i=(k.rows[i]?).getD []:=by rw[rowOf,hM]
    cases hr:k.rows[i]? with
    | none=>simp_all
    | some row =>
     rw[hr]at hrow
     simp only[Option.getD_some]at hrow
     rw[hrow]at hj
     have hi:i<k.rows.length:=(AS.1 hr).1
     rcases h.live nm k hM with ⟨h1,_⟩|⟨l',h1,_,_,⟨cs,e,_,h2,h3,h4,h5,h6,h7⟩|⟨_,_,_,_,_,_,_,_,_,h1,_⟩⟩
     rotate_right
     ·simp_all
     ·simp_all
     rw[hl]at h1;cases h1
     have hrl:=h6 i row hr
     have hend:l.o+i*l.sz+j+cv.cells.size<=cs.size:=by
      have:(i+1)*l.sz<=l.tot*l.sz:=WX _ Y6
      grind
     have hrun:=gB P l.b (l.o+i*l.sz+j) e _ cv.cells.toList 0 cs w h2 (fun p hp=>l.free (by
      have:(i+1)*l.sz<=l.tot*l.sz:=WX _ Y6
      grind)) Y6 hc2
     have hst:tf M (.ptr nm i j) v=M.put nm (some ⟨k.sz,k.rows.set i (nt row j v)⟩):=by
      simp_all[tf]
     rw[hst]
     refine⟨w.setRow l.b (cs.toList.take (l.o+i*l.sz+j+0)++cv.cells.toList++cs.toList.drop (l.o+i*l.sz+j+0+cv.cells.toList.length)).toArray,?_,?_⟩
     ·simp only[Instr.storeAt,Instr.sureAddr,Sem.run_bind,Sem.run_pure,Result.andThen_ok,storeVar,hsz]
      simp_all
     ·have hsp:=GA (row:=row) (j:=j) (v:=v) Y6
      refine Rel.write h hM hl ZH rfl rfl rfl (fun b hb=>setRow_other _ _ _ _ hb) (setRow_heap w l.b cs _ e _ h2) h3 (by simp;exact h4) ?_ ?_ ?_
      ·grind
      ·intro i' row' hi'
       rw[Xb]at hi'
       by_cases he:i=i'
       ·subst he
        rw[if_pos rfl,if_pos hi]at hi'
        cases hi'
        simp_all[fh]
       grind
      ·intro i' j' row' u hi' hj'
       have hget:∀ q,(cs.toList.take (l.o+i*l.sz+j+0)++cv.cells.toList++cs.toList.drop (l.o+i*l.sz+j+0+cv.cells.toList.length)).toArray[q]? = if q<l.o+i*l.sz+j then cs[q]? else if q<l.o+i*l.sz+j+cv.cells.size then cv.cells[q-(l.o+i*l.sz+j)]? else cs[q]?:=by
        intro q
        have:=cV (row:=cs.toList) (j:=l.o+i*l.sz+j) (cs:=cv.cells.toList) Y6 q
        simp_all[bw]
       rw[hget]
       rw[Xb]at hi'
       by_cases he:i=i'
       ·subst he
        rw[if_pos rfl,if_pos hi]at hi'
        cases hi'
        rw[hsp,cV Y6]at hj'
        by_cases q1:j'<j
        ·simp_all
        ·rw[if_neg q1]at hj'
         rw[if_neg Y6]
         by_cases q2:j'<j+v.cellsV.length
         ·rw[if_pos q2]at hj'
          rw[if_pos Y6]
          obtain⟨c,c1,c2⟩:=hc3 _ u hj'
          refine⟨c,?_,c2⟩
          rw[<- c1];congr 1;omega
         grind
       ·rw[if_neg he]at hi'
        have hj'':j'<l.sz:=by
         grind
        have hold:=h7 i' j' row' u hi' hj'
        rcases YN he with hlt|hgt
        ·have:(i+1)*l.sz<=i'*l.sz:=WX _ hlt
         grind
        ·have:(i'+1)*l.sz<=i*l.sz:=WX _ hgt
         grind
  simp_all
 simp_all
def ez (P:Program)(t:TypeId):Option (List V):=match P.info? t with
 | some i=>i.zero.map fun z=>z.cells.toList.map nI
 | none=>none
def Sz (cells:List V):Blk:=⟨cells.length,[cells]⟩
def iI (P:Program)(t:TypeId):Option TypeId:=match P.underlying t with
 | some (.struct fs) => if fs.size = 2 /\ (fs[0]?).map (·.name) = some "addr" then some t else none
 | _=>none
def PB {P:Program}{t t':TypeId}(h:iI P t=some t'):t=t':=by
 unfold iI at h
 grind
def EA (P:Program)(t:TypeId)(cells:List V):Blk:=tZ (iI P t) cells.length [cells]
def db (G:Nat->V)(X:Nat->Prop)(w0:World)(I:Nat->Prop)(ρ:Names)(M:ah)(w:World)(nm:Nat)(v:V)(M':ah)(cv:Value)(w':World):Prop :=
 ∃ ρ',Rel G X w0 I ρ' M' w'/\Moves ρ M w ρ' M' w'/\Is ρ' (bV X ρ' M') w' v cv /\ ∀ x,x≠nm->ρ' x=ρ x
def db.still {nm:Nat}{v:V}{cv:Value}(h:Rel G X w0 I ρ M w)(hv:Is ρ (bV X ρ M) w v cv):db G X w0 I ρ M w nm v M cv w :=
 ⟨ρ,h,.refl _ _ _,hv,fun _ _=>rfl⟩
def rJ (h:Rel G X w0 I ρ M w){nm:Nat}(hM:M nm=none)(hρ:ρ nm=none)(t:TypeId){o:Option TypeId}(ho:∀ t',o=some t'->t=t'){cells:List V}{cv:Value}(hn:cv.cells.size=cells.length)
  (hu:∀(j:Nat) (u:V),cells[j]? = some u -> ∃ c,cv.cells[j]? = some c/\Is ρ (bV X ρ M) w u c) :
  ∃ c w',(newVar t cv).run P w = .ok c w'/\db G X w0 I ρ M w nm (.ptr nm 0 0) (M.put nm (some (tZ o cells.length [cells]))) (.pointer (some c)) w':=by
 obtain⟨h1,h2⟩:=h.alloc hM hρ cv.cells t (tZ o cells.length [cells]) 1 (by rw[fM];simp) (by simp_all[ll]) (fun i row hi=>by
  grind[fM,ll]) (fun i j row u hi hj=>by
  grind[fM]) (Al (fun t' ht'=>⟨ho t' ht',rfl⟩))
 rw[ll]at h1 h2
 refine⟨⟨w.heap.size,0,none⟩,w.alloc (.cells cv.cells t),rfl,ρ.put nm ⟨w.heap.size,0,cells.length,1⟩,h1,h2,?_,fun x hx=>Names.put_ne _ _ hx⟩
 have:=Is.ptr (ρ:=ρ.put nm ⟨w.heap.size,0,cells.length,1⟩) (D:=bV X (ρ.put nm ⟨w.heap.size,0,cells.length,1⟩) (M.put nm (some (tZ o cells.length [cells])))) (w:=w.alloc (.cells cv.cells t)) (nm:=nm) (i:=0) (j:=0) (l:=⟨w.heap.size,0,cells.length,1⟩) (Names.put_same _ _ _)
 simp_all
def Ib (h:Rel G X w0 I ρ M w){nm:Nat}(hM:M nm=none)(hρ:ρ nm=none)(t:TypeId){v:V}{cv:Value}(hv:Is ρ (bV X ρ M) w v cv)(hone:v.cellsV.all V.one=true) :
  ∃ c w',(Instr.box t cv).run P w = .ok c w'/\db G X w0 I ρ M w nm (.ptr nm 0 0) (M.put nm (some (Sz v.cellsV))) c w':=by
 obtain⟨h1,_,h3⟩:=hv.cells hone
 obtain⟨c,w',hr,hs⟩:=rJ (P:=P) h hM hρ t (o:=none) (fun _ h=>by cases h) h1 h3
 exact⟨.pointer (some c),w',by simp[Instr.box,hr],hs⟩
def GW {t:TypeId}{cells:List V}(hz:ez P t=some cells)(w:World):∃ z,(zeroValue t).run P w = .ok z w/\z.cells.size=cells.length /\
  ∀(ρ:Names) (D:Nat->Prop) (w:World) (j:Nat) (u:V),cells[j]? = some u -> ∃ c,z.cells[j]? = some c/\Is ρ D w u c:=by
 unfold ez at hz
 split at hz
 ·rename_i i hi
  obtain⟨z,h1,rfl⟩:=BY.1 hz
  refine⟨z,by simp_all[zeroValue,typeInfo],by simp,?_⟩
  intro ρ D w j u hj
  rw[WG]at hj
  obtain⟨c,h2,rfl⟩:=BY.1 hj
  exact⟨c,by simpa using h2,uz _ _ _ _⟩
 ·cases hz
def BR (h:Rel G X w0 I ρ M w){nm:Nat}(hM:M nm=none)(hρ:ρ nm=none)(t:TypeId){cells:List V}(hz:ez P t=some cells) :
  ∃ c w',(Instr.alloc t true (.tuple #[])).run P w = .ok c w'/\db G X w0 I ρ M w nm (.ptr nm 0 0) (M.put nm (some (EA P t cells))) c w':=by
 obtain⟨z,h1,h2,h3⟩:=GW hz w
 obtain⟨c,w',hr,hs⟩:=rJ (P:=P) h hM hρ t (o:=iI P t) (fun _ h=>PB h) h2 (h3 _ _ _)
 exact⟨.pointer (some c),w',by simp_all[Instr.alloc],hs⟩
end
def li (P:Program)(t:TypeId)(f:Nat):Option (Nat×Nat×Bool) :=
 match P.underlying t with
 | some (.struct fs)=>match fs[f]? with
  | some x=>match ty P x.type with
   | some (0,_)=>none
   | some (s,g)=>some (x.offset,s,g)
   | none=>none
  | none=>none
 | _=>none
def oZ (P:Program)(t:TypeId):Option (ZC×Nat×Bool) :=
 match P.underlying t with
 | some (.array n e)=>(ty P e).map fun x=>(some n,x)
 | some (.slice e)=>(ty P e).map fun x=>(none,x)
 | _=>none
section
variable {P:Program} {G:Nat->V} {X:Nat->Prop} {w0:World} {I:Nat->Prop} {ρ:Names} {M:ah} {w:World} {D:Nat->Prop}
def Is.rp_drop {cells:List V}{b o:Nat}(h:Is ρ D w (.rp cells) (.pointer (some ⟨b,o,none⟩)))(k:Nat):Is ρ D w (.rp (cells.drop k)) (.pointer (some ⟨b,o+k,none⟩)):=by
 cases h with
 | rp cv hD hb hc hu =>
  refine .rp (fun j=>cv (k+j)) hD hb (fun j u hj=>?_) (fun j u hj=>?_)
  ·rw[Wr]at hj
   rw[XS];exact hc _ u hj
  ·rw[Wr]at hj
   exact hu _ u hj
def gZ (P:Program)(t f:Nat):V->V
 | .ptr nm i j=>.ptr nm i (j+(match li P t f with|some (o,_)=>o|none=>0))
 | .rp cells=>.rp (cells.drop (match li P t f with|some (o,_)=>o|none=>0))
 | _=>.any
def og (P:Program)(t f:Nat)(x:V):Prop:=x.isPtr=true/\(li P t f).isSome=true
def ua {t f:Nat}{x:V}{cx:Value}(hx:Is ρ D w x cx)(hok:og P t f x):∃ c,(Instr.fieldAt t cx f).run P w = .ok c w/\Is ρ D w (gZ P t f x) c:=by
 obtain⟨hp,hf⟩:=hok
 obtain⟨⟨o,s,g⟩,hfl⟩:=OF.1 hf
 have hfl':=hfl
 unfold li at hfl
 split at hfl<;>try (cases hfl;done)
 rename_i fs hu
 split at hfl<;>try (cases hfl;done)
 rename_i fd hfd
 split at hfl<;>try (cases hfl;done)
 rename_i s' g' hn hty
 simp only[WO,W6]at hfl
 obtain⟨rfl,rfl,rfl⟩:=hfl
 obtain⟨h1,_,_⟩:=gW hty w
 have hs0:¬ s'=0:=hn
 have run:∀ b o,(Instr.fieldAt t (.pointer (some ⟨b,o,none⟩)) f).run P w = .ok (.pointer (some ⟨b,o+fd.offset,none⟩)) w:=fun b o=>by
  simp only[Instr.fieldAt,Sem.run_bind,run_underlying hu w,Result.andThen_ok,hfd,Instr.sureAddr,Sem.run_pure,fieldPlace,h1,if_neg hs0,Addr.add_mid]
 cases hx<;>try (simp[V.isPtr]at hp;done)
 case ptr nm i j l hl =>
  refine⟨_,run _ _,?_⟩
  simp only[gZ,hfl',XS]
  have:=Is.ptr (D:=D) (w:=w) (i:=i) (j:=j+fd.offset) hl
  grind
 case rp cells b o cv hD hb hc hu =>
  refine⟨_,run _ _,?_⟩
  simp only[gZ,hfl']
  exact Is.rp_drop (.rp cv hD hb hc hu) _
def tR (o s:Nat)(g:Bool)(cells:List V):V:=if g then .agg ((cells.drop o).take s) else (cells[o]?).getD .any
def qA {t s:Nat}{g:Bool}(ht:ty P t=some (s,g)){cells:List V}{cvs:ZG}(hn:cells.length=cvs.size)(hu:∀(i:Nat) (u:V) (cv:Value),cells[i]? = some u->cvs[i]? = some cv->Is ρ D w u cv){o:Nat}(hs:0<s)(ho:o+s<=cells.length) :
  ∃ c,(part t cvs o).run P w = .ok c w/\Is ρ D w (tR o s g cells) c:=by
 obtain⟨h1,h2,_⟩:=gW ht w
 cases g with
 | true =>
  refine⟨.agg (cvs.extract o (o+s)),by simp_all[part],?_⟩
  simp only[tR,WQ]
  refine .agg ZK (fun i u cv hi hc=>?_)
  grind
 | false =>
  have hlt:o<cvs.size:=Y6
  refine⟨cvs[o],by simp_all[part],?_⟩
  simp only[tR,WH,WS,AT (show o<cells.length by omega),Option.getD_some]
  exact hu o _ _ (AT Y6) (Wg hlt)
def vz (P:Program)(t f:Nat):V->V
 | .agg cells=>match li P t f with|some (o,s,g)=>tR o s g cells|none=>.any
 | _=>.any
def ri (P:Program)(t f:Nat):V->Prop
 | .agg cells=>match li P t f with|some (o,s,_)=>o+s<=cells.length|none=>False
 | _=>False
def CC {t f:Nat}{x:V}{cx:Value}(hx:Is ρ D w x cx)(hok:ri P t f x):∃ c,(Instr.field t cx f).run P w = .ok c w/\Is ρ D w (vz P t f x) c:=by
 cases x<;>try (exact hok.elim)
 rename_i cells
 simp only[ri]at hok
 simp only[vz]
 cases hfl:li P t f with
 | some y =>
  obtain⟨o,s,g⟩:=y
  rw[hfl]at hok
  have hfl':=hfl
  unfold li at hfl
  split at hfl<;>try (cases hfl;done)
  rename_i fs hu
  split at hfl<;>try (cases hfl;done)
  rename_i fd hfd
  split at hfl<;>try (cases hfl;done)
  rename_i s' g' hnz hty
  simp only[WO,W6]at hfl
  obtain⟨rfl,rfl,rfl⟩:=hfl
  have hs0:0<s':=Nat.pos_of_ne_zero hnz
  cases hx with
  | agg hn hc =>
   obtain⟨c,h1,h2⟩:=qA (P:=P) (w:=w) hty hn hc hs0 hok
   exact⟨c,by simp only[Instr.field,Sem.run_bind,run_underlying hu w,Result.andThen_ok,hfd,asAgg,Sem.run_pure,h1],h2⟩
 | none=>simp_all
def A1 (M:ah):V->Nat
 | .str s=>s.length
 | .sl _ _ rows=>rows.length
 | .own _ _ n=>n
 | .ownc _ _ n _=>n
 | _=>0
def cD (P:Program)(t:TypeId):Bool:=match P.underlying t with|some .string|some (.slice _)=>true|_=>false
def Je {t:TypeId}{x:V}{cx:Value}(ht:cD P t=true)(hfit:(match P.underlying t,x with|some .string,.str _=>true|some (.slice _),.sl _ _ _|some (.slice _),.own _ _ _|some (.slice _),.ownc _ _ _ _|some (.slice _),.nils=>true|_,_=>false)=true)(ty:TypeId)(hx:Is ρ D w x cx) :
  (Builtin.len_ #[t] ty #[cx]).run P w = .ok (.int .i64 (A1 M x)) w:=by
 unfold cD at ht
 cases hu:P.underlying t with
 | none=>simp_all
 | some d =>
  rw[hu]at hfit
  cases hx<;>cases d<;>first|(simp at hfit;done)|(simp[Builtin.len_,run_underlying hu w,goInt,A1];done)|(simp[Builtin.len_,run_underlying hu w,goInt,A1];rfl)
def rv:V->Option Int
 | .int _ n=>some n
 | _=>none
def Is.int_inv {v:V}{n:Int}{cv:Value}(h:Is ρ D w v cv)(hv:rv v=some n):∃ k,v = .int k n/\cv = .int k n:=by
 cases v<;>simp[rv]at hv
 subst hv
 cases h
 simp_all
def ce (P:Program)(t:TypeId)(M:ah)(x:V)(n:Int):V:=match x with
 | .sl _ _ rows=>.rp ((rows[n.toNat]?).getD [])
 | .own nm lo _=>.ptr nm (lo+n.toNat) 0
 | .ownc nm lo _ _=>.ptr nm (lo+n.toNat) 0
 | .ptr nm i j=>.ptr nm i (j+n.toNat*(match oZ P t with|some (_,s,_)=>s|none=>0))
 | .rp cells=>.rp (cells.drop (n.toNat*(match oZ P t with|some (_,s,_)=>s|none=>0)))
 | _=>.any
def eT (M:ah)(nm:Nat):Nat:=match M nm with|some k=>k.sz|none=>0
def dU (P:Program)(t:TypeId)(M:ah)(x:V)(n:Int):Prop:=0<=n/\match oZ P t,x with
 | some (none,s,_),.sl _ sz rows=>sz=s/\n.toNat<rows.length
 | some (none,s,_),.own nm _ l=>(M nm).isSome=true/\eT M nm=s/\n.toNat<l
 | some (none,s,_),.ownc nm _ l _=>(M nm).isSome=true/\eT M nm=s/\n.toNat<l
 | some (some l,_,_),.ptr _ _ _=>n.toNat<l
 | some (some l,_,_),.rp _=>n.toNat<l
 | _,_=>False
def sJ (h:Rel G X w0 I ρ M w){t:TypeId}{x i:V}{n:Int}{cx ci:Value}(hx:Is ρ (bV X ρ M) w x cx)(hi:Is ρ (bV X ρ M) w i ci)(hn:rv i=some n)(hok:dU P t M x n)(hno:x.lose=x) :
  ∃ c,(Instr.indexAt t cx ci).run P w = .ok c w/\Is ρ (bV X ρ M) w (ce P t M x n) c:=by
 obtain⟨k,rfl,rfl⟩:=hi.int_inv hn
 obtain⟨h0,hok⟩:=hok
 cases hel:oZ P t with
 | none=>rw[hel]at hok;exact hok.elim
 | some y =>
  obtain⟨q,s,g⟩:=y
  have hel':=hel
  rw[hel]at hok
  unfold oZ at hel
  split at hel<;>try (cases hel;done)
  ·rename_i len e hu
   obtain⟨⟨s',g'⟩,hty,he⟩:=BY.1 hel
   simp only[W6]at he
   obtain⟨rfl,rfl,rfl⟩:=he
   obtain⟨h1,_,_⟩:=gW hty w
   have run:∀ b o,n.toNat<len->(Instr.indexAt t (.pointer (some ⟨b,o,none⟩)) (.int k n)).run P w = .ok (.pointer (some ⟨b,o+n.toNat*s',none⟩)) w:=fun b o hl=>by
    have hlt:0<=n/\n<(len:Int):=⟨h0,by omega⟩
    simp only[Instr.indexAt,asIntOf,Sem.run_bind,Sem.run_pure,Result.andThen_ok,run_underlying hu w,Instr.sureAddr,if_pos hlt,h1,Addr.add_mid]
   cases hx<;>try (exact hok.elim)
   case ptr nm i j l hl =>
    refine⟨_,run _ _ hok,?_⟩
    simp only[ce,hel']
    have:=Is.ptr (D:=bV X ρ M) (w:=w) (i:=i) (j:=j+n.toNat*s') hl
    simpa [XS] using this
   case rp cells b o cv hD hb hc hu =>
    refine⟨_,run _ _ hok,?_⟩
    simp only[ce,hel']
    exact Is.rp_drop (.rp cv hD hb hc hu) _
  ·rename_i e hu
   obtain⟨⟨s',g'⟩,hty,he⟩:=BY.1 hel
   simp only[W6]at he
   obtain⟨rfl,rfl,rfl⟩:=he
   obtain⟨h1,_,_⟩:=gW hty w
   have run:∀ b o len cap,n.toNat<len->(Instr.indexAt t (.slice (some ⟨b,o,none⟩) len cap) (.int k n)).run P w = .ok (.pointer (some ⟨b,o+n.toNat*s',none⟩)) w:=fun b o len cap hl=>by
    have hlt:0<=n/\n<(len:Int):=⟨h0,by omega⟩
    simp only[Instr.indexAt,asIntOf,Sem.run_bind,Sem.run_pure,Result.andThen_ok,run_underlying hu w,if_pos hlt,h1,Addr.add_mid]
   cases hx<;>try (first|exact hok.elim|(cases hno;done))
   case sl0=>obtain⟨_,h⟩:=hok;simp at h
   case sl t' sz rows b o c cv hc ht hD hb hr hxx huu =>
    obtain⟨rfl,hlt⟩:=hok
    refine⟨_,run _ _ _ _ hlt,?_⟩
    simp only[ce,AT hlt,Option.getD_some]
    exact .rp (fun j=>cv n.toNat j) hD hb (fun j u hj=>hxx _ j _ u (AT hlt) hj) (fun j u hj=>huu _ j _ u (AT hlt) hj)
   case own0=>obtain⟨_,_,h⟩:=hok;omega
   case own nm lo l' c l hl hlc hc =>
    obtain⟨hM,hsz,hlt⟩:=hok
    obtain⟨kb,hkb⟩:=OF.1 hM
    have hls:l.sz=s':=by
     rcases h.live nm kb hkb with ⟨_,h2⟩|⟨l2,h2,_,_,⟨cs,e2,_,h3,h4,_⟩|⟨_,_,_,_,_,_,_,_,h4,_⟩⟩
     ·rw[hl]at h2;cases h2
     ·rw[hl]at h2;cases h2
      rw[<- h4,<- hsz,eT,hkb]
     ·rw[hl]at h2;cases h2
      rw[<- h4,<- hsz,eT,hkb]
    refine⟨_,run _ _ _ _ hlt,?_⟩
    simp only[ce]
    have:=Is.ptr (D:=bV X ρ M) (w:=w) (i:=lo+n.toNat) (j:=0) hl
    simpa [Nat.add_mul,XS,hls] using this
def ui (h:Rel G X w0 I ρ M w){t:TypeId}{x i:V}{n:Int}{cx ci:Value}(hx:Is ρ (bV X ρ M) w x cx)(hi:Is ρ (bV X ρ M) w i ci)(hn:rv i=some n)(hok:dU P t M x n) :
  ∃ c,(Instr.indexAt t cx ci).run P w = .ok c w/\Is ρ (bV X ρ M) w (ce P t M x n) c:=by
 have e1:dU P t M x.lose n=dU P t M x n:=by
  cases x<;>try rfl
  simp only[V.lose,dU]
  grind
 have e2:ce P t M x.lose n=ce P t M x n:=by cases x<;>rfl
 obtain⟨c,h1,h2⟩:=sJ (P:=P) h hx.lose hi hn (by rw[e1];exact hok) (by cases x<;>rfl)
 simp_all
def qr (P:Program)(t:TypeId)(x:V)(n:Int):V:=match x with
 | .str s=>.int .u8 ((s[n.toNat]?).getD 0).toNat
 | .agg cells=>match oZ P t with|some (_,s,g)=>tR (n.toNat*s) s g cells|none=>.any
 | _=>.any
def ru (P:Program)(t:TypeId)(x:V)(n:Int):Prop:=0<=n/\match x with
 | .str s=>P.underlying t=some .string/\n.toNat<s.length
 | .agg cells=>match oZ P t with|some (some l,s,_)=>0<s/\n.toNat<l/\n.toNat*s+s<=cells.length|_=>False
 | _=>False
def C4 {t:TypeId}{x i:V}{n:Int}{cx ci:Value}(hx:Is ρ D w x cx)(hi:Is ρ D w i ci)(hn:rv i=some n)(hok:ru P t x n) :
  ∃ c,(Instr.index t cx ci).run P w = .ok c w/\Is ρ D w (qr P t x n) c:=by
 obtain⟨k,rfl,rfl⟩:=hi.int_inv hn
 obtain⟨h0,hok⟩:=hok
 cases hx<;>try (exact hok.elim)
 case str s =>
  obtain⟨hu,hlt⟩:=hok
  have hg:(⟨s.toArray⟩:ByteArray)[n.toNat]? = some s[n.toNat]:=by
   rw[getElem?_pos (⟨s.toArray⟩:ByteArray) n.toNat (by simp_all[ByteArray.size])];rfl
  refine⟨.int .u8 s[n.toNat].toNat,?_,?_⟩
  ·simp only[Instr.index,asIntOf,Sem.run_bind,Sem.run_pure,Result.andThen_ok,run_underlying hu w,if_pos h0,hg]
  ·simp only[qr,AT hlt,Option.getD_some]
   exact .int _ _
 case agg cells cvs hnn hu' =>
  cases hel:oZ P t with
  | none=>simp_all
  | some y =>
  obtain⟨q,s,g⟩:=y
  rw[hel]at hok
  cases q with
  | none=>exact hok.elim
  | some l =>
  obtain⟨hs,hlt,hle⟩:=hok
  have hel':=hel
  unfold oZ at hel
  split at hel<;>try (cases hel;done)
  ·rename_i len e hu
   obtain⟨⟨s',g'⟩,hty,he⟩:=BY.1 hel
   simp only[W6,WO]at he
   obtain⟨rfl,rfl,rfl⟩:=he
   obtain⟨h1,_,_⟩:=gW hty w
   obtain⟨c,c1,c2⟩:=qA (P:=P) (w:=w) hty hnn hu' hs hle
   have hlt':0<=n/\n<(len:Int):=⟨h0,by omega⟩
   refine⟨c,?_,?_⟩
   ·simp only[Instr.index,asIntOf,Sem.run_bind,Sem.run_pure,Result.andThen_ok,run_underlying hu w,if_pos hlt',h1,c1]
   simp_all[qr]
  simp_all
end
section
variable {P:Program} {G:Nat->V} {X:Nat->Prop} {w0:World} {I:Nat->Prop} {ρ:Names} {M:ah} {w:World} {D:Nat->Prop}
def kN (hi:Option Int)(n:Nat):Nat:=match hi with|some h=>h.toNat|none=>n
def jJ (h:Int)(n:Nat):kN (some h) n=h.toNat:=rfl
def l9 (n:Nat):kN none n=n:=rfl
def jl (x:V)(lo hi mx:Option Int):V :=
 let l:=(lo.getD 0).toNat
 match x with
 | .str s=>.str (match hi with|some h=>(s.drop l).take (h.toNat-l)|none=>s.drop l)
 | .sl t sz rows=>match hi with
  | some h=>.sl (match mx with|some m=>decide (m=h)|none=>t&&decide (h.toNat=rows.length)) sz ((rows.drop l).take (h.toNat-l))
  | none=>.sl t sz (rows.drop l)
 | .own nm b n=>.own nm (b+l) ((kN hi (n))-l)
 | .ownc nm b n c=>.ownc nm (b+l) ((kN hi (n))-l) ((kN mx c)-l)
 | _=>.nils
def uH (P:Program)(t:TypeId)(M:ah)(x:V)(lo hi mx:Option Int):Prop :=
 (∀ l,lo=some l->0<=l)/\(∀ h,hi=some h->0<=h)/\(∀ m,mx=some m->0<=m/\hi.isSome=true) /\
 let l:=(lo.getD 0).toNat
 match x with
 | .str s=>P.underlying t=some .string/\mx=none/\(match hi with|some h=>l<=h.toNat/\h.toNat<=s.length|none=>l<=s.length)
 | .sl _ sz rows=>(∃ g,oZ P t=some (none,sz,g))/\(match hi with|some h=>l<=h.toNat/\h.toNat<=rows.length/\(∀ m,mx=some m->h<=m/\m.toNat<=rows.length)|none=>l<=rows.length)
 | .own nm _ n=>(∃ g,oZ P t=some (none,eT M nm,g))/\(M nm).isSome=true/\(match hi with|some h=>l<=h.toNat/\h.toNat<=n/\(∀ m,mx=some m->h<=m/\m.toNat<=n)|none=>l<=n)
 | .ownc nm _ n c=>(∃ g,oZ P t=some (none,eT M nm,g))/\(M nm).isSome=true/\l<=kN hi n/\kN hi n<=kN mx c/\kN mx c<=c/\(hi=none->n<=c)
 | .nils=>(∃ sz g,oZ P t=some (none,sz,g))/\l=0/\(∀ h,hi=some h->h=0)/\(∀ m,mx=some m->m=0)
 | _=>False
def xH (v:Option Value)(n:Option Int):Prop:=(v=none/\n=none) \/ ∃ k i,v=some (.int k i)/\n=some i
def run_sliceBound (k:IntKind)(i:Int)(y:Nat)(c:BoundsCode)(h0:0<=i)(h:i.toNat<=y):(Instr.sliceBound (.int k i) y c).run P w = .ok i.toNat w:=by
 have:0<=i/\i<=(y:Int):=⟨h0,by omega⟩
 simp_all[Instr.sliceBound,asIntOf]
def mF (isS:Bool)(len cap:Nat)(hlc:len<=cap){vl vh vm:Option Value}{lo hi mx:Option Int}(hl:xH vl lo)(hh:xH vh hi)(hm:xH vm mx)
  (h1:∀ l,lo=some l->0<=l) (h2:∀ h,hi=some h->0<=h/\h.toNat<=cap) (h3:∀ m,mx=some m->0<=m/\hi.isSome=true/\m.toNat<=cap) (h4:∀ m h,mx=some m->hi=some h->h<=m)
  (h5:(lo.getD 0).toNat<=(kN hi (len))) :
  (Instr.sliceBounds isS len cap vl vh vm).run P w = .ok ((lo.getD 0).toNat,(kN hi (len)),(kN mx (cap))) w:=by
 rcases hm with ⟨rfl,rfl⟩|⟨km,m,rfl,rfl⟩<;>rcases hh with ⟨rfl,rfl⟩|⟨kh,hv,rfl,rfl⟩<;>rcases hl with ⟨rfl,rfl⟩|⟨kl,l,rfl,rfl⟩
 ·rfl
 ·have:=run_sliceBound (P:=P) (w:=w) kl l len .sliceB (h1 l rfl) (by simp_all[kN])
  simp[kN,Instr.sliceBounds,this]
 ·have:=run_sliceBound (P:=P) (w:=w) kh hv cap (if isS then .sliceAcap else .sliceAlen) (h2 hv rfl).1 (h2 hv rfl).2
  simp[kN,Instr.sliceBounds,this]
 ·have a:=run_sliceBound (P:=P) (w:=w) kh hv cap (if isS then .sliceAcap else .sliceAlen) (h2 hv rfl).1 (h2 hv rfl).2
  have b:=run_sliceBound (P:=P) (w:=w) kl l hv.toNat .sliceB (h1 l rfl) (by simp_all[kN])
  simp[kN,Instr.sliceBounds,a,b]
 ·simp_all
 ·simp_all
 ·have a:=run_sliceBound (P:=P) (w:=w) km m cap (if isS then .slice3Acap else .slice3Alen) (h3 m rfl).1 (h3 m rfl).2.2
  have b:=run_sliceBound (P:=P) (w:=w) kh hv m.toNat .slice3B (h2 hv rfl).1 (by grind)
  simp[kN,Instr.sliceBounds,a,b]
 ·have a:=run_sliceBound (P:=P) (w:=w) km m cap (if isS then .slice3Acap else .slice3Alen) (h3 m rfl).1 (h3 m rfl).2.2
  have b:=run_sliceBound (P:=P) (w:=w) kh hv m.toNat .slice3B (h2 hv rfl).1 (by grind)
  have c:=run_sliceBound (P:=P) (w:=w) kl l hv.toNat .slice3C (h1 l rfl) (by simp_all[kN])
  simp_all[kN,Instr.sliceBounds]
def gV (isS:Bool)(len cap:Nat)(hlc:len<=cap){vl vh vm:Option Value}{lo hi mx:Option Int}(hl:xH vl lo)(hh:xH vh hi)(hm:xH vm mx)
  (h1:∀ l,lo=some l->0<=l) (h2:∀ h,hi=some h->0<=h/\h.toNat<=len) (h3:∀ m,mx=some m->0<=m/\hi.isSome=true/\m.toNat<=cap) (h4:∀ m h,mx=some m->hi=some h->h<=m)
  (h5:(lo.getD 0).toNat<=(kN hi (len))) :
  (Instr.sliceBounds isS len cap vl vh vm).run P w = .ok ((lo.getD 0).toNat,(kN hi (len)),(kN mx (cap))) w :=
 mF isS len cap hlc hl hh hm h1 (fun h e=>⟨(h2 h e).1,by grind⟩) h3 h4 h5
def o0 {t s:Nat}{g:Bool}(h:oZ P t=some (none,s,g)):∃ e,P.underlying t=some (.slice e)/\ty P e=some (s,g):=by
 unfold oZ at h
 split at h<;>try (cases h;done)
 ·obtain⟨x,_,hx⟩:=BY.1 h;simp at hx
 ·rename_i e hu
  obtain⟨x,h1,hx⟩:=BY.1 h
  simp at hx;subst hx
  exact⟨e,hu,h1⟩
def Is.sl_part {t t':Bool}{sz:Nat}{rows:List (List V)}{A:Option Addr}{c l h m:Nat}(hi:Is ρ D w (.sl t sz rows) (.slice A rows.length c))(h1:l<=h)(h2:h<=rows.length)(h3:h<=m)(ht:t'=true->m=h) :
  Is ρ D w (.sl t' sz ((rows.drop l).take (h-l))) (.slice (if m=l then A else A.map (·.add (l*sz))) (h-l) (m-l)):=by
 by_cases he:h=l
 ·subst he
  rw[YZ,List.take_zero]
  exact .sl0 (fun e=>by simp_all)
 ·have hm:m≠l:=Y6
  rw[if_neg hm]
  have hlen:((rows.drop l).take (h-l)).length=h-l:=by simp;omega
  generalize hq:rows.length=q at hi
  cases hi with
  | sl0=>omega
  | sl cv hc htt hD hb hr hx hu =>
   rename_i b o
   have hget:∀(i:Nat) (row:List V),((rows.drop l).take (h-l))[i]? = some row->rows[l+i]? = some row:=fun i row hi=>by
    grind
   simp only[Option.map_some,Addr.add_mid]
   have hh:=Is.sl (ρ:=ρ) (D:=D) (w:=w) (t:=t') (sz:=sz) (rows:=(rows.drop l).take (h-l)) (b:=b) (o:=o+l*sz) (c:=m-l) (fun i j=>cv (l+i) j) Y6 (fun e=>by simp_all) hD hb
    (fun i row hi=>hr _ row (hget i row hi)) (fun i j row u hi hj=>by grind) (fun i j row u hi hj=>hu _ j row u (hget i row hi) hj)
   simp_all
def DU (h:Rel G X w0 I ρ M w){t:TypeId}{x:V}{cx:Value}{vl vh vm:Option Value}{lo hi mx:Option Int}(hl:xH vl lo)(hh:xH vh hi)(hm:xH vm mx)(hx:Is ρ (bV X ρ M) w x cx)(hok:uH P t M x lo hi mx) :
    ∃ c,(Instr.sliceAt t cx vl vh vm).run P w = .ok c w/\Is ρ (bV X ρ M) w (jl x lo hi mx) c:=by
  obtain⟨k1,k2,k3,hok⟩:=hok
  cases x<;>simp only at hok
  case str s =>
    obtain⟨hu,rfl,hb⟩:=hok
    cases hx
    have hvm:vm=none:=hm.elim (fun h=>h.1) (fun ⟨_,_,_,h⟩=>by cases h)
    subst hvm
    have hbd:(lo.getD 0).toNat<=(kN hi (s.length))/\(kN hi (s.length))<=s.length:=by cases hi<;>simp only[jJ,l9]at hb ⊢<;>omega
    have hr:=gV (P:=P) (w:=w) false s.length s.length (IS _) hl hh (.inl ⟨rfl,rfl⟩) k1 (fun h e=>⟨k2 h e,by subst e;exact hbd.2⟩) (fun m e=>by cases e) (fun m _ e _=>by cases e) hbd.1
    refine⟨.string ((⟨s.toArray⟩:ByteArray).extract (lo.getD 0).toNat (kN hi (s.length))),?_,?_⟩
    · simp only[Instr.sliceAt,Sem.run_bind,run_underlying hu w,Result.andThen_ok,Instr.slice,Option.isSome_none,WH,WS,show(⟨s.toArray⟩:ByteArray).size=s.length by simp[ByteArray.size],hr,Sem.run_pure]
    · have e:(⟨s.toArray⟩:ByteArray).extract (lo.getD 0).toNat (kN hi (s.length))=⟨(match hi with|some h=>(s.drop (lo.getD 0).toNat).take (h.toNat-(lo.getD 0).toNat)|none=>s.drop (lo.getD 0).toNat).toArray⟩:=by
        cases hi with
        | some h =>
          simp only
          apply ByteArray.ext
          apply Array.ext'
          simp[kN,ByteArray.extract,ByteArray.copySlice,List.extract_eq_take_drop]
        | none =>
          simp only
          apply ByteArray.ext
          apply Array.ext'
          simp[kN,ByteArray.extract,ByteArray.copySlice,List.extract_eq_take_drop]
          exact IN ZH
      rw[e]
      exact .str _
  case sl tt sz rows =>
    obtain⟨⟨g,hel⟩,hb⟩:=hok
    obtain⟨e,hu,hty⟩:=o0 hel
    obtain⟨h1,_,_⟩:=gW hty w
    have hcx:∃ A c,cx = .slice A rows.length c/\rows.length<=c/\(tt=true->c=rows.length):=by
      cases hx with
      | sl0 ht=>exact⟨_,_,rfl,WB _,fun e=>by simpa using ht e⟩
      | sl cv hc ht=>exact⟨_,_,rfl,hc,ht⟩
    obtain⟨A,c,rfl,hc,htt⟩:=hcx
    have hbd:(lo.getD 0).toNat<=(kN hi (rows.length))/\(kN hi (rows.length))<=rows.length:=by cases hi<;>simp only[jJ,l9]at hb ⊢<;>omega
    have hmx:∀ m,mx=some m -> ∃ h,hi=some h/\h<=m/\m.toNat<=rows.length:=fun m e=>by
      cases hi with
      | none=>have:=(k3 m e).2;cases this
      | some h=>exact⟨h,rfl,hb.2.2 m e⟩
    have hr:=gV (P:=P) (w:=w) true rows.length c hc hl hh hm k1 (fun h e=>⟨k2 h e,by subst e;exact hbd.2⟩) (fun m e=>⟨(k3 m e).1,(k3 m e).2,by obtain⟨_,_,_,h⟩:=hmx m e;omega⟩)
      (fun m h e e'=>by obtain⟨h',q1,q2,_⟩:=hmx m e;rw[e']at q1;cases q1;exact q2) hbd.1
    refine⟨_,by simp only[Instr.sliceAt,Sem.run_bind,run_underlying hu w,Result.andThen_ok,Instr.slice,hr,h1,Sem.run_pure];rfl,?_⟩
    simp only[jl]
    cases hi with
    | none =>
      have hmn:mx=none:=by cases mx with|none=>rfl|some m=>obtain⟨_,q,_⟩:=hmx m rfl;cases q
      subst hmn
      have hp:=Is.sl_part (t':=tt) (l:=(lo.getD 0).toNat) (h:=rows.length) (m:=c) hx hbd.1 (IS _) hc htt
      rwa[IN ZH]at hp
    | some h =>
      simp only at hb ⊢
      refine Is.sl_part (l:=(lo.getD 0).toNat) (h:=h.toNat) hx hb.1 hb.2.1 ?_ ?_
      · cases mx with
        | none=>simp only[l9];omega
        | some m=>obtain⟨_,q1,q2,_⟩:=hmx m rfl;cases q1;simp only[jJ];omega
      · cases mx with
        | none=>simp only[In,WD];rintro ⟨a,b⟩;rw[l9,htt a,b]
        | some m=>simp only[WD];rintro rfl;rfl
  case own nm b n =>
    obtain⟨⟨g,hel⟩,hM,hb⟩:=hok
    obtain⟨e,hu,hty⟩:=o0 hel
    obtain⟨h1,_,_⟩:=gW hty w
    have hcx:∃ A c,cx = .slice A n c/\n<=c:=by
      cases hx with
      | own0=>exact⟨_,_,rfl,IS _⟩
      | own _ _ hc=>exact⟨_,_,rfl,hc⟩
    obtain⟨A,c,rfl,hc⟩:=hcx
    have hbd:(lo.getD 0).toNat<=(kN hi (n))/\(kN hi (n))<=n:=by cases hi<;>simp only[jJ,l9]at hb ⊢<;>omega
    have hmx:∀ m,mx=some m -> ∃ h,hi=some h/\h<=m/\m.toNat<=n:=fun m e=>by
      cases hi with
      | none=>have:=(k3 m e).2;cases this
      | some h=>exact⟨h,rfl,hb.2.2 m e⟩
    have hr:=gV (P:=P) (w:=w) true n c hc hl hh hm k1 (fun h e=>⟨k2 h e,by subst e;exact hbd.2⟩) (fun m e=>⟨(k3 m e).1,(k3 m e).2,by obtain⟨_,_,_,h⟩:=hmx m e;omega⟩)
      (fun m h e e'=>by obtain⟨h',q1,q2,_⟩:=hmx m e;rw[e']at q1;cases q1;exact q2) hbd.1
    have hmc:(kN hi (n))<=(kN mx (c))/\(kN mx (c))<=c:=by
      cases mx with
      | none=>simp only[l9];omega
      | some m=>obtain⟨_,q1,q2,q3⟩:=hmx m rfl;subst q1;simp only[jJ];have:=(k3 m rfl).1;omega
    refine⟨_,by simp only[Instr.sliceAt,Sem.run_bind,run_underlying hu w,Result.andThen_ok,Instr.slice,hr,h1,Sem.run_pure];rfl,?_⟩
    have hsv:jl (.own nm b n) lo hi mx = .own nm (b+(lo.getD 0).toNat) ((kN hi (n))-(lo.getD 0).toNat):=rfl
    rw[hsv]
    generalize (kN hi (n))=hh' at *
    generalize (kN mx (c))=mm' at *
    generalize (lo.getD 0).toNat=ll' at *
    by_cases hml:mm'=ll'
    · have h0:hh'-ll'=0:=Y6
      rw[h0,show mm'-ll'=0 by omega]
      exact .own0
    · rw [if_neg hml]
      cases hx with
      | own0=>omega
      | own hρ hlc hnc =>
        rename_i l
        have hls:l.sz=eT M nm:=by
          obtain⟨kb,hkb⟩:=OF.1 hM
          rcases h.live nm kb hkb with ⟨_,h2⟩|⟨l2,h2,_,_,⟨cs,e2,_,h3,h4,_⟩|⟨_,_,_,_,_,_,_,_,h4,_⟩⟩
          · rw[hρ]at h2;cases h2
          · rw[hρ]at h2;cases h2
            rw[<- h4,eT,hkb]
          · rw[hρ]at h2;cases h2
            rw[<- h4,eT,hkb]
        have:=Is.own (D:=bV X ρ M) (w:=w) (lo:=b+ll') (n:=hh'-ll') (c:=mm'-ll') hρ Y6 Y6
        simp only[Option.map_some,Addr.add_mid]
        rw[<- hls]
        rwa[Nat.add_mul,<- XS]at this
  case ownc nm b n c =>
    obtain⟨⟨g,hel⟩,hM,hb1,hb2,hb3,hb4⟩:=hok
    obtain⟨e,hu,hty⟩:=o0 hel
    obtain⟨h1,_,_⟩:=gW hty w
    have hcx:∃ A,cx = .slice A n c/\n<=c:=by
      cases hx with
      | ownc0=>exact⟨_,rfl,IS _⟩
      | ownc _ _ hc _=>exact⟨_,rfl,hc⟩
    obtain⟨A,rfl,hc⟩:=hcx
    have hr:=mF (P:=P) (w:=w) true n c hc hl hh hm k1 (fun h e=>⟨k2 h e,by subst e;simp only[jJ]at hb2;omega⟩) (fun m e=>⟨(k3 m e).1,(k3 m e).2,by subst e;simp only[jJ]at hb3;omega⟩)
      (fun m h e e'=>by subst e;subst e';simp only[jJ]at hb2;have:=(k3 m rfl).1;have:=k2 h rfl;omega) hb1
    refine⟨_,by simp only[Instr.sliceAt,Sem.run_bind,run_underlying hu w,Result.andThen_ok,Instr.slice,hr,h1,Sem.run_pure];rfl,?_⟩
    have hsv:jl (.ownc nm b n c) lo hi mx = .ownc nm (b+(lo.getD 0).toNat) ((kN hi (n))-(lo.getD 0).toNat) ((kN mx c)-(lo.getD 0).toNat):=rfl
    rw[hsv]
    clear hr hsv hb4
    generalize (kN hi (n))=hh' at *
    generalize (kN mx (c))=mm' at *
    generalize (lo.getD 0).toNat=ll' at *
    by_cases hml:mm'=ll'
    · have h0:hh'-ll'=0:=Y6
      rw[h0,show mm'-ll'=0 by omega]
      exact .ownc0
    · rw [if_neg hml]
      cases hx with
      | ownc0=>omega
      | ownc hρ hlc hnc hcp =>
        rename_i l
        have hls:l.sz=eT M nm:=by
          obtain⟨kb,hkb⟩:=OF.1 hM
          rcases h.live nm kb hkb with ⟨_,h2⟩|⟨l2,h2,_,_,⟨cs,e2,_,h3,h4,_⟩|⟨_,_,_,_,_,_,_,_,h4,_⟩⟩
          · rw[hρ]at h2;cases h2
          · rw[hρ]at h2;cases h2
            rw[<- h4,eT,hkb]
          · rw[hρ]at h2;cases h2
            rw[<- h4,eT,hkb]
        have:=Is.ownc (D:=bV X ρ M) (w:=w) (lo:=b+ll') (n:=hh'-ll') (c:=mm'-ll') hρ Y6 Y6 Y6
        simp only[Option.map_some,Addr.add_mid]
        rw[<- hls]
        rwa[Nat.add_mul,<- XS]at this
  case nils =>
    obtain⟨⟨sz,g,hel⟩,hl0,hh0,hm0⟩:=hok
    obtain⟨e,hu,hty⟩:=o0 hel
    obtain⟨h1,_,_⟩:=gW hty w
    cases hx
    have hr:=gV (P:=P) (w:=w) true 0 0 (IS _) hl hh hm k1 (fun h e=>by rw[hh0 h e];simp) (fun m e=>by rw[hm0 m e];exact⟨by simp,(k3 m e).2,by simp⟩) (fun m h e e'=>by rw[hm0 m e,hh0 h e'];simp) (by rw[hl0];exact WB _)
    have e1:kN hi 0=0:=by cases hi with|none=>rfl|some h=>rw[hh0 h rfl];rfl
    have e2:kN mx 0=0:=by cases mx with|none=>rfl|some h=>rw[hm0 h rfl];rfl
    rw[e1,e2,hl0]at hr
    refine⟨_,by simp only[Instr.sliceAt,Sem.run_bind,run_underlying hu w,Result.andThen_ok,Instr.slice,hr,h1,Sem.run_pure];rfl,?_⟩
    exact .nils
end
section
variable {P:Program} {G:Nat->V} {X:Nat->Prop} {w0:World} {I:Nat->Prop} {ρ:Names} {M:ah} {w:World} {D:Nat->Prop}
def dZ (op:BinOp)(k:IntKind)(a b:Int):V:=match op with
 | .add=>.int k (k.wrap (a+b))
 | .sub=>.int k (k.wrap (a-b))
 | .mul=>.int k (k.wrap (a*b))
 | .quo=>.int k (k.wrap (a.tdiv b))
 | .rem=>.int k (a.tmod b)
 | .and=>.int k (k.wrap (BitVec.ofInt k.bits a &&& BitVec.ofInt k.bits b).toNat)
 | .or=>.int k (k.wrap (BitVec.ofInt k.bits a ||| BitVec.ofInt k.bits b).toNat)
 | .xor=>.int k (k.wrap (BitVec.ofInt k.bits a ^^^ BitVec.ofInt k.bits b).toNat)
 | .andNot=>.int k (k.wrap (BitVec.ofInt k.bits a &&& ~~~ BitVec.ofInt k.bits b).toNat)
 | .shl=>.int k (k.wrap (a*2 ^ (min b.toNat k.bits)))
 | .shr=>.int k (a.fdiv (2 ^ (min b.toNat k.bits)))
 | .eql=>.bool (a==b)
 | .neq=>.bool (a != b)
 | .lss=>.bool (decide (a<b))
 | .leq=>.bool (decide (a<=b))
 | .gtr=>.bool (decide (a>b))
 | .geq=>.bool (decide (a ≥ b))
def jM (op:BinOp)(k k':IntKind)(b:Int):Prop:=match op with
 | .shl | .shr=>0<=b
 | .quo | .rem=>k=k'/\b≠0
 | _=>k=k'
def AY (op:BinOp)(t:TypeId)(k k':IntKind)(a b:Int)(hok:jM op k k' b):∃ c,(binOp op t (.int k a) (.int k' b)).run P w = .ok c w/\Is ρ D w (dZ op k a b) c:=by
  cases op<;>simp only[jM]at hok<;>first
    |(obtain⟨rfl,hb⟩:=hok;simp[binOp,Op.intDiv,hb,dZ];exact .int _ _)
    |(subst hok;simp[binOp,Op.intArith,Op.intBits,Op.intCmp,dZ];first|exact .int _ _|exact .bool _)
    | (have:¬ b<0:=Y6
       simp[binOp,Op.shift,this,dZ];exact .int _ _)
def lM (op:BinOp)(a b:ZA):V:=match op with
 | .add=>.str (a++b)
 | .eql=>.bool (a==b)
 | .neq=>.bool (!(a==b))
 | .lss=>.bool (Op.bytesLess a b)
 | .leq=>.bool (Op.bytesLess a b||a==b)
 | .gtr=>.bool (!(Op.bytesLess a b||a==b))
 | .geq=>.bool (!(Op.bytesLess a b))
 | _=>.any
def gk (op:BinOp)(a b:ZA):Prop:=match op with
 | .add=>a.length+b.length<=9223372036854775807
 | .eql | .neq | .lss | .leq | .gtr | .geq=>True
 | _=>False
def Jq (a b:ZA):((⟨a.toArray⟩:ByteArray)++⟨b.toArray⟩)=⟨(a++b).toArray⟩:=by
 rfl
def Bu (op:BinOp)(t:TypeId)(a b:ZA)(hok:gk op a b):∃ c,(binOp op t (.string ⟨a.toArray⟩) (.string ⟨b.toArray⟩)).run P w = .ok c w/\Is ρ D w (lM op a b) c:=by
 cases op<;>simp only[gk]at hok<;>try (exact hok.elim)
 case add =>
  have h:(⟨a.toArray⟩:ByteArray).size+(⟨b.toArray⟩:ByteArray).size<=9223372036854775807:=by simpa [ByteArray.size] using hok
  refine⟨.string ⟨(a++b).toArray⟩,?_,.str _⟩
  simp only[binOp,run_string_add_sum w _ _ h,Jq]
 all_goals
  refine⟨_,(by simp only[binOp,Op.stringOp,ByteArray.toList_mk,Sem.run_pure];rfl),?_⟩
  exact .bool _
def vD (P:Program)(t:TypeId):Option Y8 :=
 match P.stoodInHeld t,P.eqGuardType P.depth t,P.underlying t with
 | false, false, some (.struct fs) => fs.toList.mapM fun f => if f.name = "_" then none else match P.underlying f.type, ty P f.type with
   | some (.int _),some (1,false)=>some (f.offset,0)
   | some .string,some (1,false)=>some (f.offset,1)
   | some .bool,some (1,false)=>some (f.offset,2)
   | _,_=>none
 | _,_,_=>none
def E5 (kd:Nat)(x y:Option V):Option Bool:=match kd,x,y with
 | 0,some (.int k a),some (.int k' b)=>if k=k' then some (a==b) else none
 | 1,some (.str a),some (.str b)=>some (a==b)
 | 2,some (.bool a),some (.bool b)=>some (a==b)
 | _,_,_=>none
def Qh (xs ys:List V):Y8->Bool
 | []=>true
 |(o,kd)::r=>(E5 kd xs[o]? ys[o]?).getD false&&Qh xs ys r
def Cr (xs ys:List V):Y8->Prop
 | []=>True
 |(o,kd)::r=>(E5 kd xs[o]? ys[o]?).isSome=true/\Cr xs ys r
def Qi {x y:Option V}(h:(E5 0 x y).isSome=true):∃ k a b,x=some (.int k a)/\y=some (.int k b):=by
 unfold E5 at h
 grind
def Qj {x y:Option V}(h:(E5 1 x y).isSome=true):∃ a b,x=some (.str a)/\y=some (.str b):=by
 unfold E5 at h
 grind
def L5 {x y:Option V}(h:(E5 2 x y).isSome=true):∃ a b,x=some (.bool a)/\y=some (.bool b):=by
 unfold E5 at h
 grind
def nV {xs ys:List V}{cx cy:ZG}(d:Nat)(hx:Is ρ D w (.agg xs) (.agg cx))(hy:Is ρ D w (.agg ys) (.agg cy)):∀(fs:List Field) (l:Y8),
  fs.mapM (fun f => if f.name = "_" then none else match P.underlying f.type, ty P f.type with
   | some (.int _),some (1,false)=>some (f.offset,0)
   | some .string,some (1,false)=>some (f.offset,1)
   | some .bool,some (1,false)=>some (f.offset,2)
   | _,_=>none)=some l->Cr xs ys l->(Op.eqFields (d+1) cx cy fs).run P w = .ok (Qh xs ys l) w
 | [],l,h,_=>by simp at h;subst h;simp[Op.eqFields,Qh]
 | f::fs,l,h,hok=>by
  simp only[Ya,Option.bind_eq_bind,Option.pure_def]at h
  obtain⟨y,hy1,h⟩:=WC.1 h
  obtain⟨l',hl',h⟩:=WC.1 h
  cases h
  obtain⟨o,kd⟩:=y
  obtain⟨hs,hr⟩:=hok
  have ih:=nV d hx hy fs l' hl' hr
  split at hy1
  ·cases hy1
  rename_i hname
  have part1:∀ {zs:List V} {cz:ZG},Is ρ D w (.agg zs) (.agg cz) -> ∀(g:Nat×Bool),ty P f.type=some (1,false) -> ∀ u,zs[f.offset]? = some u -> ∃ c,(part f.type cz f.offset).run P w = .ok c w/\Is ρ D w u c:=by
   intro zs cz hz _ hty u hu
   cases hz with
   | agg hn hc =>
    have hlt:=(AS.1 hu).1
    obtain⟨c,c1,c2⟩:=qA (P:=P) (w:=w) hty hn hc (o:=f.offset) Y6 Y6
    refine⟨c,c1,?_⟩
    simpa [tR,hu] using c2
  have fin:∀(b:Bool),(∃ a1 a2,(part f.type cx f.offset).run P w = .ok a1 w/\(part f.type cy f.offset).run P w = .ok a2 w/\(Op.equalIn (d+1) f.type a1 a2).run P w = .ok b w) ->
    (Op.eqFields (d+1) cx cy (f::fs)).run P w = .ok (b&&Qh xs ys l') w:=by
   rintro b ⟨a1,a2,h1,h2,h3⟩
   simp only[Op.eqFields,hname,ne_eq,Xw,WQ,Sem.run_bind,h1,h2,h3,Result.andThen_ok]
   cases b
   ·simp
   ·simpa using ih
  simp only[Qh]
  split at hy1
  ·rename_i k0 hu hty
   cases hy1
   obtain⟨ka,a,b,e1,e2⟩:=Qi hs
   simp only[e1,e2,E5,WQ]
   obtain⟨c1,h1,h2⟩:=part1 hx (0,true) hty _ e1
   obtain⟨c2,h3,h4⟩:=part1 hy (0,true) hty _ e2
   cases h2;cases h4
   exact fin _ ⟨_,_,h1,h3,run_equalIn_int w d f.type ka k0 a b hu⟩
  ·rename_i hu hty
   cases hy1
   obtain⟨a,b,e1,e2⟩:=Qj hs
   simp only[e1,e2,E5]
   obtain⟨c1,h1,h2⟩:=part1 hx (0,true) hty _ e1
   obtain⟨c2,h3,h4⟩:=part1 hy (0,true) hty _ e2
   cases h2;cases h4
   refine fin _ ⟨_,_,h1,h3,?_⟩
   rw[run_equalIn_string w d f.type _ _ hu]
   simp
  ·rename_i hu hty
   cases hy1
   obtain⟨a,b,e1,e2⟩:=L5 hs
   simp only[e1,e2,E5]
   obtain⟨c1,h1,h2⟩:=part1 hx (0,true) hty _ e1
   obtain⟨c2,h3,h4⟩:=part1 hy (0,true) hty _ e2
   cases h2;cases h4
   exact fin _ ⟨_,_,h1,h3,run_equalIn_bool' w d f.type a b hu⟩
  ·cases hy1
def Tn (P:Program)(t:TypeId):Bool:=match P.underlying t with|some (.map _ _)=>true|_=>false
def sG (P:Program)(t:TypeId):Bool:=match P.underlying t with|some (.interface _)=>true|_=>false
def lg (P:Program)(op:BinOp)(t:TypeId)(x y:V):V:=match x,y with
 | .int k a,.int _ b=>dZ op k a b
 | .str a,.str b=>lM op a b
 | .bool a,.bool b=>.bool (if op = .eql then a==b else a != b)
 | .agg xs,.agg ys=>match vD P t with
  | some l=>.bool (if op = .eql then Qh xs ys l else !(Qh xs ys l))
  | none=>.any
 | .nils,.nils=>.bool (decide (op = .eql))
 | .sl _ _ rows,.nils=>if op = .eql then .bit rows.isEmpty true else .bit true rows.isEmpty
 | .own _ _ n,.nils=>if op = .eql then .bit (decide (n=0)) true else .bit true (decide (n=0))
 | _,.nils=>.bool (decide (op = .neq))
 | .nilp,.nilp=>.bool (decide (op = .eql))
 | _,.nilp=>.bool (decide (op = .neq))
 | .ptr a i j,.ptr a' i' j'=>if a=a'/\i=i'/\j=j' then .bool (decide (op = .eql)) else .any
 | .val .nilIface,.val .nilIface=>.bool (decide (op = .eql))
 | .iface _ _,.val .nilIface=>.bool (decide (op = .neq))
 | .mp _,.val (.map none)=>.bool (decide (op = .neq))
 | _,_=>.any
def iH (P:Program)(op:BinOp)(t:TypeId)(x y:V):Prop:=match x,y with
 | .int k _,.int k' b=>jM op k k' b
 | .str a,.str b=>gk op a b
 | .bool _,.bool _=>(op = .eql\/op = .neq)/\P.underlying t=some .bool
 | .agg xs,.agg ys=>(op = .eql\/op = .neq)/\match vD P t with
  | some l=>Cr xs ys l
  | none=>False
 | .nils,.nils=>(op = .eql\/op = .neq)/\cD P t=true/\P.underlying t≠some .string
 | .sl _ _ _,.nils=>(op = .eql\/op = .neq)/\cD P t=true/\P.underlying t≠some .string
 | .own _ _ _,.nils=>(op = .eql\/op = .neq)/\cD P t=true/\P.underlying t≠some .string
 | .nilp,.nilp=>(op = .eql\/op = .neq) /\ ∃ e,P.underlying t=some (.pointer e)
 | .ptr _ _ _,.nilp=>(op = .eql\/op = .neq) /\ ∃ e,P.underlying t=some (.pointer e)
 | .rp _,.nilp=>(op = .eql\/op = .neq) /\ ∃ e,P.underlying t=some (.pointer e)
 | .ptr a i j,.ptr a' i' j'=>(a=a'/\i=i'/\j=j')/\(op = .eql\/op = .neq) /\ ∃ e,P.underlying t=some (.pointer e)/\(P.info? e).isSome=true
 | .val .nilIface,.val .nilIface=>(op = .eql\/op = .neq)/\sG P t=true
 | .iface _ _,.val .nilIface=>(op = .eql\/op = .neq)/\sG P t=true
 | .mp _,.val (.map none)=>(op = .eql\/op = .neq)/\Tn P t=true
 | _,_=>False
def un (op:BinOp)(t:TypeId)(ox oy:Operand)(a b:Value)(h1:a ≠ .nilIface)(h2:∀ c,a ≠ .agg c):(eqGuard op t ox oy a b).run P w = .ok () w:=by
 simp_all[eqGuard]
def gj (d:Nat)(t e:TypeId)(a b:Option Addr)(hu:P.underlying t=some (.pointer e))(h:a=none\/b=none):(Op.equalIn (d+1) t (.pointer a) (.pointer b)).run P w = .ok (a.isNone&&b.isNone) w:=by
 rcases h with rfl|rfl
 ·simp[Op.equalIn,run_underlying hu]
 ·cases a<;>simp[Op.equalIn,run_underlying hu]
def ef (d:Nat)(t e:TypeId)(a:Option Addr)(n c:Nat)(hu:P.underlying t=some (.slice e)):(Op.equalIn (d+1) t (.slice a n c) (.slice none 0 0)).run P w = .ok a.isNone w:=by
 cases a<;>simp[Op.equalIn,run_underlying hu]
def k8 {t:TypeId}(h1:cD P t=true)(h2:P.underlying t≠some .string):∃ e,P.underlying t=some (.slice e):=by
 unfold cD at h1
 grind
def cT {op:BinOp}(ho:op = .eql\/op = .neq)(t:TypeId)(a b:Value)(hb:binOp .eql t a b=(do pure (.bool (<- Op.equal t a b))))(hb':binOp .neq t a b=(do pure (.bool (!(<- Op.equal t a b)))))(r:Bool)
  (h:(Op.equalIn 10000 t a b).run P w = .ok r w):(binOp op t a b).run P w = .ok (.bool (if op = .eql then r else !r)) w:=by
 rcases ho with rfl|rfl
 ·rw[hb];simp[Op.equal,Op.maxDepth,h]
 ·rw[hb'];simp[Op.equal,Op.maxDepth,h]
def s7 (d:Nat)(t:TypeId){e:TypeId}{i:TypeInfo}(a:Addr)(hu:P.underlying t=some (.pointer e))(hi:P.info? e=some i):(Op.equalIn (d+1) t (.pointer (some a)) (.pointer (some a))).run P w = .ok true w:=by
 simp_all[Op.equalIn,run_underlying,sizeOf,typeInfo,run_sameAddr_same]
def s5 (d:Nat)(t:TypeId){ms:Array (String×TypeId)}(hu:P.underlying t=some (.interface ms)):(Op.equalIn (d+1) t .nilIface .nilIface).run P w = .ok true w:=by
 simp[Op.equalIn,run_underlying hu]
def s4 (d:Nat)(t u:TypeId)(v:Value){ms:Array (String×TypeId)}(hu:P.underlying t=some (.interface ms)):(Op.equalIn (d+1) t (.iface u v) .nilIface).run P w = .ok false w:=by
 simp[Op.equalIn,run_underlying hu]
def um (d:Nat)(t:TypeId){k e:TypeId}(p:Nat)(hu:P.underlying t=some (.map k e)):(Op.equalIn (d+1) t (.map (some p)) (.map none)).run P w = .ok false w:=by
 simp[Op.equalIn,run_underlying hu]
def V.isNilI:V->Bool
 | .val .nilIface=>true
 | _=>false
def isConst:Operand->Bool
 | .const _=>true
 | _=>false
def H6 (op:BinOp)(t:TypeId)(ox oy:Operand){x y:V}{cx cy:Value}(hx:Is ρ D w x cx)(hy:Is ρ D w y cy)(hok:iH P op t x y)(hnil:x.isNilI=true->(isConst ox||isConst oy)=true) :
  ∃ c,(do eqGuard op t ox oy cx cy;binOp op t cx cy:Sem Value).run P w = .ok c w/\Is ρ D w (lg P op t x y) c:=by
 have start:∀ c,cx ≠ .nilIface->(∀ c,cx ≠ .agg c)->(binOp op t cx cy).run P w = .ok c w->(do eqGuard op t ox oy cx cy;binOp op t cx cy:Sem Value).run P w = .ok c w:=fun c h1 h2 h3=>by
  rw[Sem.run_bind,un op t ox oy cx cy h1 h2,Result.andThen_ok,h3]
 have nilNil:x.isNilI=true->y.isNilI=true -> ∃ c,(do eqGuard op t ox oy cx cy;binOp op t cx cy:Sem Value).run P w = .ok c w/\Is ρ D w (lg P op t x y) c:=by
  intro h1 h2
  have e:∀ z:V,z.isNilI=true->z = .val .nilIface:=fun z hz=>by
   grind[V.isNilI]
  have hc:=hnil h1
  have ex:=e x h1;have ey:=e y h2
  subst ex;subst ey
  cases hx;cases hy
  simp only[iH]at hok
  obtain⟨ho,hi⟩:=hok
  unfold sG at hi
  split at hi
  ·rename_i ms hu
   have hg:(eqGuard op t ox oy .nilIface .nilIface).run P w = .ok () w:=by
    unfold eqGuard
    rw[Xf]at hc
    rcases hc with hc|hc
    ·cases ox<;>first|(cases hc;done)|simp_all
    ·cases oy<;>first|(cases hc;done)|simp_all
   refine⟨.bool (decide (op = .eql)),?_,by simp only[lg];exact .bool _⟩
   rw[Sem.run_bind,hg,Result.andThen_ok,cT ho t _ _ (by simp[binOp]) (by simp[binOp]) true (s5 9999 t hu)]
   rfl
  ·cases hi
 by_cases hnn:x.isNilI=true/\y.isNilI=true
 ·simp_all
 cases hx<;>cases hy<;>(try simp only[iH]at hok)<;>try (exact hok.elim)
 case bool.bool a b =>
  obtain⟨ho,hu⟩:=hok
  refine⟨_,start _ ZH ZH (cT ho t _ _ (by simp[binOp]) (by simp[binOp]) _ (run_equalIn_bool' w 9999 t a b hu)),?_⟩
  simp only[lg]
  rcases ho with rfl|rfl
  ·exact .bool _
  ·simp only[reduceCtorEq,WS]
   exact .bool _
 case int.int k a k' b =>
  obtain⟨c,h1,h2⟩:=AY (P:=P) (w:=w) (ρ:=ρ) (D:=D) op t k k' a b hok
  exact⟨c,start _ ZH ZH h1,h2⟩
 case str.str a b =>
  obtain⟨c,h1,h2⟩:=Bu (P:=P) (w:=w) (ρ:=ρ) (D:=D) op t a b hok
  exact⟨c,start _ ZH ZH h1,h2⟩
 case agg.agg xs cvx hn1 hu1 ys cvy hn2 hu2 =>
  obtain⟨ho,hok⟩:=hok
  cases hfl:vD P t with
  | none=>simp_all
  | some l =>
   rw[hfl]at hok
   have hfl':=hfl
   unfold vD at hfl
   split at hfl
   ·rename_i fs c1 c2 c3'
    have c3:P.underlying t=some (.struct (P.fieldsOf t)):=by simp[Program.fieldsOf,c3']
    have cf:P.fieldsOf t=fs:=by simp_all
    rw[<- cf]at hfl
    have he:=nV (P:=P) (w:=w) (ρ:=ρ) (D:=D) 9998 (.agg hn1 hu1) (.agg hn2 hu2) _ l hfl hok
    have hq:=run_equalIn_agg (P:=P) w 9999 t cvx cvy c3 c1
    rw[he]at hq
    refine⟨_,by rw[Sem.run_bind,run_eqGuard_agg (P:=P) w op t ox oy cvx cvy c2,Result.andThen_ok];exact cT ho t _ _ (by simp[binOp]) (by simp[binOp]) _ hq,?_⟩
    simp only[lg,hfl']
    exact .bool _
   ·cases hfl
 case nilp.nilp =>
  obtain⟨ho,e,hu⟩:=hok
  refine⟨_,start _ ZH ZH (cT ho t _ _ (by simp[binOp]) (by simp[binOp]) true (gj 9999 t e _ _ hu (.inr rfl))),?_⟩
  rcases ho with rfl|rfl<;>exact .bool _
 case ptr.nilp =>
  obtain⟨ho,e,hu⟩:=hok
  refine⟨_,start _ ZH ZH (cT ho t _ _ (by simp[binOp]) (by simp[binOp]) false (gj 9999 t e _ _ hu (.inr rfl))),?_⟩
  rcases ho with rfl|rfl<;>exact .bool _
 case ptr.ptr a i j l hl a' i' j' l' hl' =>
  obtain⟨⟨rfl,rfl,rfl⟩,ho,e,hu,hi⟩:=hok
  rw[hl]at hl';cases hl'
  obtain⟨inf,hinf⟩:=OF.1 hi
  refine⟨_,start _ ZH ZH (cT ho t _ _ (by simp[binOp]) (by simp[binOp]) true (s7 9999 t _ hu hinf)),?_⟩
  simp only[lg,XJ,WQ]
  rcases ho with rfl|rfl<;>exact .bool _
 case val.val =>
  grind[V.isNilI]
 case iface.val tt v cv hv =>
  split at hok<;>first|(exfalso;simp_all;done)|skip
  rename_i _ _ q1 q2
  cases q2
  obtain⟨ho,hi⟩:=hok
  unfold sG at hi
  split at hi
  ·rename_i ms hu
   refine⟨_,start _ ZH ZH (cT ho t _ _ (by simp[binOp]) (by simp[binOp]) false (s4 9999 t _ _ hu)),?_⟩
   rcases ho with rfl|rfl<;>exact .bool _
  ·cases hi
 case mp.val y l hl =>
  split at hok<;>first|(exfalso;simp_all;done)|skip
  rename_i _ _ q1 q2
  cases q2
  obtain⟨ho,hi⟩:=hok
  unfold Tn at hi
  split at hi
  ·rename_i k e hu
   have h0:=um (P:=P) (w:=w) 9999 t l.b hu
   refine⟨_,start _ ZH ZH (cT ho t _ _ (by simp[binOp]) (by simp[binOp]) false h0),?_⟩
   rcases ho with rfl|rfl<;>exact .bool _
  ·cases hi
 case rp.nilp =>
  obtain⟨ho,e,hu⟩:=hok
  refine⟨_,start _ ZH ZH (cT ho t _ _ (by simp[binOp]) (by simp[binOp]) false (gj 9999 t e _ _ hu (.inr rfl))),?_⟩
  rcases ho with rfl|rfl<;>exact .bool _
 case nils.nils =>
  obtain⟨ho,h1,h2⟩:=hok
  obtain⟨e,hu⟩:=k8 h1 h2
  refine⟨_,start _ ZH ZH (cT ho t _ _ (by simp[binOp]) (by simp[binOp]) true (ef 9999 t e _ _ _ hu)),?_⟩
  rcases ho with rfl|rfl<;>exact .bool _
 case sl0.nils A _ _ =>
  obtain⟨ho,h1,h2⟩:=hok
  obtain⟨e,hu⟩:=k8 h1 h2
  refine⟨_,start _ ZH ZH (cT ho t _ _ (by simp[binOp]) (by simp[binOp]) A.isNone (ef 9999 t e _ _ _ hu)),?_⟩
  rcases ho with rfl|rfl<;>exact .bit _ (fun _=>rfl) (fun _=>rfl)
 case sl.nils =>
  obtain⟨ho,h1,h2⟩:=hok
  obtain⟨e,hu⟩:=k8 h1 h2
  refine⟨_,start _ ZH ZH (cT ho t _ _ (by simp[binOp]) (by simp[binOp]) false (ef 9999 t e _ _ _ hu)),?_⟩
  rcases ho with rfl|rfl
  ·exact .bit _ (fun h=>by cases h) (fun _=>rfl)
  ·exact .bit _ (fun _=>rfl) (fun h=>by cases h)
 case own0.nils A =>
  obtain⟨ho,h1,h2⟩:=hok
  obtain⟨e,hu⟩:=k8 h1 h2
  refine⟨_,start _ ZH ZH (cT ho t _ _ (by simp[binOp]) (by simp[binOp]) A.isNone (ef 9999 t e _ _ _ hu)),?_⟩
  rcases ho with rfl|rfl<;>exact .bit _ (fun _=>rfl) (fun _=>rfl)
 case own.nils =>
  obtain⟨ho,h1,h2⟩:=hok
  obtain⟨e,hu⟩:=k8 h1 h2
  refine⟨_,start _ ZH ZH (cT ho t _ _ (by simp[binOp]) (by simp[binOp]) false (ef 9999 t e _ _ _ hu)),?_⟩
  rcases ho with rfl|rfl
  ·exact .bit _ (fun h=>by cases h) (fun _=>rfl)
  ·exact .bit _ (fun _=>rfl) (fun h=>by cases h)
end
section
variable {P:Program} {G:Nat->V} {X:Nat->Prop} {w0:World} {I:Nat->Prop} {ρ:Names} {M:ah} {w:World} {D:Nat->Prop}
def TY (op:UnOp)(x:V):V:=match op,x with
 | .not,.bool b=>.bool (!b)
 | .not,.bit t f=>.bit f t
 | .neg,.int k n=>.int k (k.wrap (0-n))
 | .xor,.int k n=>dZ .xor k (if k.signed then -1 else k.max) n
 | _,_=>.any
def D8 (op:UnOp)(x:V):Prop:=match op,x with
 | .not,.bool _=>True
 | .not,.bit _ _=>True
 | .neg,.int _ _=>True
 | .xor,.int _ _=>True
 | _,_=>False
def OV (op:UnOp){x:V}{cx:Value}(hx:Is ρ D w x cx)(hok:D8 op x):∃ c,(Op.unary op cx).run P w = .ok c w/\Is ρ D w (TY op x) c:=by
 cases op<;>cases hx<;>simp only[D8]at hok<;>try (exact hok.elim)
 ·exact⟨_,by rfl,.int _ _⟩
 ·exact⟨_,by rfl,.int _ _⟩
 ·exact⟨_,by rfl,.bool _⟩
 ·rename_i b ht hf
  exact⟨.bool (!b),by rfl,.bit (!b) (fun h=>hf (by simpa using h)) (fun h=>ht (by simpa using h))⟩
def j7 (c:Bool)(a b:V):V:=match a.strip c,b.strip (!c) with
 | .bool x,.bool y=>.bool (if c then x else y)
 | a,b=>if c then a else b
def F9 {c:Bool}{a b:V}{ca cb:Value}(ha:Is ρ D w a ca)(hb:Is ρ D w b cb):Is ρ D w (j7 c a b) (if c then ca else cb):=by
 have h1:c=true->Is ρ D w (a.strip c) ca:=fun h=>ha.strip h
 have h2:c=false->Is ρ D w (b.strip (!c)) cb:=fun h=>hb.strip (by simp[h])
 unfold j7
 grind
def lW (P:Program)(dst:TypeId)(x:V):V:=match P.underlying dst,x with
 | some (.int k),.int _ n=>.int k (k.wrap n)
 | some .string,.int _ n=>.str (Utf8.encode n).data.toList
 | _,x=>x
def oV (P:Program)(src dst:TypeId)(x:V):Prop:=match P.underlying src,P.underlying dst,x with
 | some (.int _),some (.int _),.int _ _=>True
 | some .string,some .string,.str _=>True
 | some (.int _),some .string,.int _ _=>True
 | _,_,_=>False
def ET {src dst:TypeId}{x:V}{cx:Value}(hx:Is ρ D w x cx)(hok:oV P src dst x):∃ c,(convert src dst cx).run P w = .ok c w/\Is ρ D w (lW P dst x) c:=by
 unfold oV at hok
 split at hok
 ·rename_i k1 k2 k n h1 h2
  cases hx
  refine⟨.int k2 (k2.wrap n),by simp_all[convert,run_underlying,Conv.intToInt],?_⟩
  simp only[lW,h2]
  exact .int _ _
 ·rename_i s h1 h2
  cases hx
  refine⟨.string ⟨s.toArray⟩,by simp_all[convert,run_underlying],?_⟩
  simp only[lW,h2]
  exact .str _
 ·rename_i k1 k n h1 h2
  cases hx
  refine⟨.string (Utf8.encode n),by simp_all[convert,run_underlying,Conv.intToString],?_⟩
  simp only[lW,h2]
  exact .str _
 simp_all
def lA (mx:Bool):V->V->V
 | .int k a,.int _ b=>.int k (if mx then max a b else min a b)
 | _,_=>.any
def jP:V->V->Prop
 | .int _ _,.int _ _=>True
 | _,_=>False
def Jh {ts:ZF}{t:TypeId}{a b:V}{ca cb:Value}(ha:Is ρ D w a ca)(hb:Is ρ D w b cb)(hok:jP a b):∃ c,(Builtin.max_ ts t #[ca,cb]).run P w = .ok c w/\Is ρ D w (lA true a b) c:=by
 cases ha<;>cases hb<;>simp only[jP]at hok
 rename_i k a k' b
 have e:(if b>a then b else a)=max a b:=Y6
 refine⟨.int k (max a b),by simp[Builtin.max_,Builtin.max2,e],?_⟩
 simp only[lA,WQ]
 exact .int _ _
def Jp {ts:ZF}{t:TypeId}{a b:V}{ca cb:Value}(ha:Is ρ D w a ca)(hb:Is ρ D w b cb)(hok:jP a b):∃ c,(Builtin.min_ ts t #[ca,cb]).run P w = .ok c w/\Is ρ D w (lA false a b) c:=by
 cases ha<;>cases hb<;>simp only[jP]at hok
 rename_i k a k' b
 have e:(if b<a then b else a)=min a b:=Y6
 refine⟨.int k (min a b),by simp[Builtin.min_,Builtin.min2,e],?_⟩
 simp only[lA,WH,WS]
 exact .int _ _
def od (i:Nat):V->V
 | .tup vs=>(vs[i]?).getD .any
 | _=>.any
def lZ (i:Nat):V->Prop
 | .tup vs=>i<vs.length
 | _=>False
def xW {i:Nat}{x:V}{cx:Value}(hx:Is ρ D w x cx)(hok:lZ i x):∃ c,(Instr.extract cx i).run P w = .ok c w/\Is ρ D w (od i x) c:=by
 cases hx<;>simp only[lZ]at hok
 rename_i vs cvs hn hu
 have h:i<cvs.size:=Y6
 refine⟨cvs[i],by simp_all[Instr.extract],?_⟩
 simp only[od,AT hok,Option.getD_some]
 exact hu i _ _ (AT hok) (Wg h)
def fQ (P:Program)(t:TypeId):Option (List V×Y8) :=
 match P.info? t,P.underlying t with
 | some it,some (.struct fs)=>match it.zero,fs.toList.mapM (fun f=>(P.info? f.type).map fun i=>(f.offset,i.size)) with
  | some z,some pl=>some (z.cells.toList.map nI,pl)
  | _,_=>none
 | some it,some (.array n e)=>match it.zero,P.info? e with
  | some z,some ie=>some (z.cells.toList.map nI,(List.range n).map fun i=>(i*ie.size,ie.size))
  | _,_=>none
 | _,_=>none
def mS (pl:Y8)(cells:List V):List (Nat×V)->List V
 | []=>cells
 |(i,v)::r=>mS pl (bw cells ((pl[i]?).getD (0,0)).1 v.cellsV) r
def lU (pl:Y8)(n:Nat):List (Nat×V)->Prop
 | []=>True
 |(i,v)::r=>(match pl[i]? with|some (o,s)=>v.cellsV.length=s/\o+s<=n|none=>False)/\v.cellsV.all V.one=true/\lU pl n r
def ku (ρ:Names)(D:Nat->Prop)(w:World)(cells:List V)(cs:ZG):Prop:=cells.length=cs.size /\ ∀(i:Nat) (u:V),cells[i]? = some u -> ∃ c,cs[i]? = some c/\Is ρ D w u c
def ku.splice {cells:List V}{cs:ZG}(h:ku ρ D w cells cs){v:V}{cv:Value}(hv:Is ρ D w v cv)(hone:v.cellsV.all V.one=true){o:Nat}(ho:o+v.cellsV.length<=cells.length) :
  ku ρ D w (bw cells o v.cellsV) (cv.cells.zipIdx.foldl (fun cs (x:Value×Nat)=>cs.setIfInBounds (o+x.2) x.1) cs):=by
 obtain⟨h1,_,h3⟩:=hv.cells hone
 obtain⟨g1,g2⟩:=Great.foldl_set o cv.cells.toList 0 cs
 have e:cv.cells.zipIdx.foldl (fun cs (x:Value×Nat)=>cs.setIfInBounds (o+x.2) x.1) cs=(cv.cells.toList.zipIdx 0).foldl (fun cs (x:Value×Nat)=>cs.setIfInBounds (o+x.2) x.1) cs:=by
  rw[<- Array.foldl_toList];simp
 rw[e]
 refine⟨by rw[fh ho,g1];exact h.1,fun i u hi=>?_⟩
 rw[cV ho]at hi
 rw[g2]
 by_cases q1:i<o
 ·rw[if_pos q1]at hi
  rw[if_neg Y6]
  exact h.2 i u hi
 ·rw[if_neg q1]at hi
  by_cases q2:i<o+v.cellsV.length
  ·rw[if_pos q2]at hi
   rw[if_pos ⟨by omega,by simp;omega,by have:=h.1;omega⟩]
   simp_all
  ·rw[if_neg q2]at hi
   rw[if_neg ZK]
   exact h.2 i u hi
def qg (pl:Y8)(place:Nat->Option (Nat×Nat))(hpl:∀ i x,pl[i]? = some x->place i=some x):∀(parts:List (Nat×V)) (cparts:List (Nat×Value)) (cells:List V) (cs:ZG),
    ku ρ D w cells cs->parts.length=cparts.length->(∀(j:Nat) (a:Nat×V) (b:Nat×Value),parts[j]? = some a->cparts[j]? = some b->a.1=b.1/\Is ρ D w a.2 b.2)->lU pl cells.length parts ->
    ∃ cs',Instr.fill place cs cparts=some cs'/\ku ρ D w (mS pl cells parts) cs'
  | [],[],cells,cs,h,_,_,_=>⟨cs,rfl,h⟩
  | [],_::_,_,_,_,hl,_,_=>by simp at hl
  | _::_,[],_,_,_,hl,_,_=>by simp at hl
  |(i,v)::r,(i',cv)::cr,cells,cs,h,hl,hp,hok=>by
    obtain⟨e1,hv⟩:=hp 0 (i,v) (i',cv) rfl rfl
    simp only at e1 hv;subst e1
    simp only[lU]at hok
    obtain⟨hok1,hone,hok2⟩:=hok
    cases hq:pl[i]? with
    | none=>simp_all
    | some y =>
      obtain⟨o,s⟩:=y
      rw[hq]at hok1
      obtain⟨hs,ho⟩:=hok1
      have hv1:=(hv.cells hone).1
      have hlen:o+v.cellsV.length<=cells.length:=Y6
      have hsp:=h.splice hv hone hlen
      obtain⟨cs',f1,f2⟩:=qg pl place hpl r cr _ _ hsp (by simpa using hl) (fun j a b ha hb=>hp (j+1) a b (by simpa using ha) (by simpa using hb)) (by simp_all[fh])
      refine⟨cs',?_,by simp_all[mS]⟩
      simp only[Instr.fill,hpl i _ hq]
      rw[if_neg (by have:=h.1;simp;omega)]
      exact f1
def xD (z:Value):ku ρ D w (z.cells.toList.map nI) z.cells:=by
 refine⟨by simp,fun i u hi=>?_⟩
 rw[WG]at hi
 obtain⟨c,h2,rfl⟩:=BY.1 hi
 exact⟨c,by simpa using h2,uz _ _ _ _⟩
def vb (P:Program)(t:TypeId)(parts:List (Nat×V)):V:=match fQ P t with
 | some (z,pl)=>.agg (mS pl z parts)
 | none=>.any
def uq (P:Program)(t:TypeId)(parts:List (Nat×V)):Prop:=match fQ P t with
 | some (z,pl)=>lU pl z.length parts
 | none=>False
def B7 {t:TypeId}{parts:List (Nat×V)}{cparts:Array (Nat×Value)}(hl:parts.length=cparts.size)(hp:∀(j:Nat) (a:Nat×V) (b:Nat×Value),parts[j]? = some a->cparts[j]? = some b->a.1=b.1/\Is ρ D w a.2 b.2)
  (hok:uq P t parts):∃ c,(Instr.build t cparts).run P w = .ok c w/\Is ρ D w (vb P t parts) c:=by
 unfold uq at hok
 cases hsh:fQ P t with
 | none=>simp_all
 | some y =>
  obtain⟨z,pl⟩:=y
  rw[hsh]at hok
  have hb:vb P t parts = .agg (mS pl z parts):=by simp_all[vb]
  rw[hb]
  have done:∀ cells,P.built t cparts.toList=some cells->ku ρ D w (mS pl z parts) cells -> ∃ c,(Instr.build t cparts).run P w = .ok c w/\Is ρ D w (.agg (mS pl z parts)) c:=fun cells h1 h2 =>
   ⟨.agg cells,run_build w t cparts cells h1,.agg h2.1 (fun i u cv hi hc=>by obtain⟨c,c1,c2⟩:=h2.2 i u hi;simp_all)⟩
  unfold fQ at hsh
  split at hsh
  ·rename_i it fs hi hu
   split at hsh
   ·rename_i zv pl' hz hpl
    simp only[WO,W6]at hsh
    obtain⟨rfl,rfl⟩:=hsh
    obtain⟨cs',f1,f2⟩:=qg (ρ:=ρ) (D:=D) (w:=w) pl' (fun x=>pl'.toArray[x]?) (fun i x h=>by simpa using h) parts cparts.toList _ _ (xD zv) (by simpa using hl) (fun j a b ha hb=>hp j a b ha (by simpa using hb)) hok
    simp_all[Program.built]
   ·cases hsh
  ·rename_i it n e hi hu
   split at hsh
   ·rename_i zv ie hz hie
    simp only[WO,W6]at hsh
    obtain⟨rfl,rfl⟩:=hsh
    obtain⟨cs',f1,f2⟩:=qg (ρ:=ρ) (D:=D) (w:=w) ((List.range n).map fun i=>(i*ie.size,ie.size)) (fun i=>some (i*ie.size,ie.size)) (fun i x h=>by
     grind) parts cparts.toList _ _ (xD zv) (by simpa using hl) (fun j a b ha hb=>hp j a b ha (by simpa using hb)) hok
    simp_all[Program.built]
   ·cases hsh
  ·cases hsh
end
def cR (P:Program)(t:TypeId):Option (List V×Nat):=match P.underlying t with
 | some (.slice e)=>match P.info? e with
  | some i=>match i.zero with
   | some z=>if z.cells.size=i.size/\0<i.size then some (z.cells.toList.map nI,i.bytes) else none
   | none=>none
  | none=>none
 | _=>none
section
variable {P:Program} {G:Nat->V} {X:Nat->Prop} {w0:World} {I:Nat->Prop} {ρ:Names} {M:ah} {w:World} {D:Nat->Prop}
def gc {t:TypeId}{zc:List V}{bytes:Nat}(h:cR P t=some (zc,bytes)):∃ e i z,P.underlying t=some (.slice e)/\P.info? e=some i/\i.zero=some z/\z.cells.size=i.size/\0<i.size/\zc=z.cells.toList.map nI/\zc.length=i.size/\i.bytes=bytes:=by
 unfold cR at h
 grind
def cY (ρ:Names)(D:Nat->Prop)(w:World)(s:Nat)(rows:List (List V))(cs:ZG):Prop :=
 rows.length*s<=cs.size/\(∀(i:Nat) (row:List V),rows[i]? = some row->row.length=s) /\ ∀(i j:Nat) (row:List V) (u:V),rows[i]? = some row->row[j]? = some u -> ∃ c,cs[i*s+j]? = some c/\Is ρ D w u c
def sZ {s i j n:Nat}(hi:i<n)(hj:j<s):i*s+j<n*s:=by
 have:(i+1)*s<=n*s:=WX _ hi
 grind
def nB (rows:List (List V)):List (Nat×V)->List (List V)
 | []=>rows
 |(i,v)::r=>nB (rows.set i v.cellsV) r
def o9 (s len:Nat):List (Nat×V)->Prop
 | []=>True
 |(i,v)::r=>i<len/\v.cellsV.length=s/\v.cellsV.all V.one=true/\o9 s len r
def Ax (rows:List (List V))(parts:List (Nat×V)):(nB rows parts).length=rows.length:=by
 induction parts generalizing rows with
 | nil=>rfl
 | cons p r ih=>simp_all[nB]
def tG (s:Nat):∀(parts:List (Nat×V)) (cparts:List (Nat×Value)) (rows:List (List V)) (cs:ZG),
    cY ρ D w s rows cs->parts.length=cparts.length->(∀(j:Nat) (a:Nat×V) (b:Nat×Value),parts[j]? = some a->cparts[j]? = some b->a.1=b.1/\Is ρ D w a.2 b.2)->o9 s rows.length parts ->
    ∃ cs',Instr.fill (fun i=>some (i*s,s)) cs cparts=some cs'/\cs'.size=cs.size/\cY ρ D w s (nB rows parts) cs'
  | [],[],rows,cs,h,_,_,_=>⟨cs,rfl,rfl,h⟩
  | [],_::_,_,_,_,hl,_,_=>by simp at hl
  | _::_,[],_,_,_,hl,_,_=>by simp at hl
  |(i,v)::r,(i',cv)::cr,rows,cs,h,hl,hp,hok=>by
    obtain⟨e1,hv⟩:=hp 0 (i,v) (i',cv) rfl rfl
    simp only at e1 hv;subst e1
    simp only[o9]at hok
    obtain⟨hi,hs,hone,hok2⟩:=hok
    obtain⟨h1,_,h3⟩:=hv.cells hone
    obtain⟨g1,g2⟩:=Great.foldl_set (i*s) cv.cells.toList 0 cs
    have e:cv.cells.zipIdx.foldl (fun cs (x:Value×Nat)=>cs.setIfInBounds (i*s+x.2) x.1) cs=(cv.cells.toList.zipIdx 0).foldl (fun cs (x:Value×Nat)=>cs.setIfInBounds (i*s+x.2) x.1) cs:=by
      rw[<- Array.foldl_toList];simp
    rw[<- e]at g1 g2
    have hend:i*s+s<=cs.size:=by
      have:(i+1)*s<=rows.length*s:=WX _ hi
      rw[Nat.succ_mul]at this
      have:=h.1;omega
    have hstep:cY ρ D w s (rows.set i v.cellsV) (cv.cells.zipIdx.foldl (fun cs (x:Value×Nat)=>cs.setIfInBounds (i*s+x.2) x.1) cs):=by
      refine⟨by rw[YL,g1];exact h.1,?_,?_⟩
      · intro k row hk
        rw[Xb]at hk
        by_cases q:i=k
        · subst q;rw[if_pos rfl,if_pos hi]at hk;cases hk;exact hs
        · rw[if_neg q]at hk;exact h.2.1 k row hk
      · intro k j row u hk hj
        rw[Xb]at hk
        rw[g2]
        by_cases q:i=k
        · subst q
          rw[if_pos rfl,if_pos hi]at hk;cases hk
          have hj':=(AS.1 hj).1
          rw[if_pos ⟨by omega,by simp;omega,by omega⟩]
          obtain⟨c,c1,c2⟩:=h3 j u hj
          refine⟨c,?_,c2⟩
          rw[show i*s+j-(i*s+0)=j by omega]
          simpa using c1
        · rw [if_neg q]at hk
          have hj':j<s:=by
            have:=(AS.1 hj).1
            rwa[h.2.1 k row hk]at this
          have hold:=h.2.2 k j row u hk hj
          have hlen:cv.cells.toList.length=s:=by simp;omega
          rw[if_neg ?_]
          · exact hold
          · rintro ⟨a1,a2,_⟩
            rcases YN q with hlt|hgt
            · have:(i+1)*s<=k*s:=WX _ hlt
              rw[Nat.succ_mul]at this;omega
            · have:(k+1)*s<=i*s:=WX _ hgt
              rw[Nat.succ_mul]at this;omega
    obtain⟨cs',f1,f2,f3⟩:=tG s r cr _ _ hstep (by simpa using hl) (fun j a b ha hb=>hp (j+1) a b (by simpa using ha) (by simpa using hb)) (by rw[YL];exact hok2)
    refine⟨cs',?_,by rw[f2,g1],f3⟩
    simp only[Instr.fill]
    rw[if_neg ZK]
    exact f1
def xC {zc:List V}{z:Value}{s:Nat}(hz:z.cells.size=s)(hs:0<s)(hzc:zc=z.cells.toList.map nI)(n:Nat)(cs:ZG)(hcs:cs.size=n*s)(hg:∀ k,k<n*s->cs[k]? = some (z.cells[k % s]!)) :
  cY ρ D w s (List.replicate n zc) cs:=by
 have hl:zc.length=s:=by rw[hzc];simp[hz]
 refine⟨by simp[hcs],?_,?_⟩
 ·intro i row hi
  rw[List.getElem?_replicate]at hi
  split at hi
  ·cases hi;exact hl
  ·cases hi
 ·intro i j row u hi hj
  rw[List.getElem?_replicate]at hi
  split at hi
  ·rename_i hin
   cases hi
   have hj':j<s:=by rw[<- hl];exact(AS.1 hj).1
   have hlt:=sZ hin hj'
   rw[hg _ hlt]
   refine⟨_,rfl,?_⟩
   have hm:(i*s+j) % s=j:=by rw[YC,Nat.mul_add_mod];exact Nat.mod_eq_of_lt hj'
   rw[hm]
   obtain⟨c,c1,c2⟩:=(xD (ρ:=ρ) (D:=D) (w:=w) z).2 j u (by rw[<- hzc];exact hj)
   have:z.cells[j]! = c:=by
    rw[getElem!_def,c1]
   rw[this];exact c2
  ·cases hi
def jy (P:Program)(t:TypeId)(len:Nat)(parts:List (Nat×V)):Blk:=match cR P t with
 | some (zc,_)=>⟨zc.length,nB (List.replicate len zc) parts⟩
 | none=>⟨0,[]⟩
def j9 (P:Program)(t:TypeId)(len:Nat)(parts:List (Nat×V)):Prop:=match cR P t with
 | some (zc,_)=>len*zc.length<=2 ^ 24/\len<=maxLen/\o9 zc.length len parts
 | none=>False
def si (h:Rel G X w0 I ρ M w){nm:Nat}(hM:M nm=none)(hρ:ρ nm=none){t:TypeId}{len:Nat}{parts:List (Nat×V)}{cparts:Array (Nat×Value)}(hl:parts.length=cparts.size)
  (hp:∀(j:Nat) (a:Nat×V) (b:Nat×Value),parts[j]? = some a->cparts[j]? = some b->a.1=b.1/\Is ρ (bV X ρ M) w a.2 b.2) (hok:j9 P t len parts) :
  ∃ c w',(Instr.buildSlice t len cparts).run P w = .ok c w'/\db G X w0 I ρ M w nm (.own nm 0 len) (M.put nm (some (jy P t len parts))) c w':=by
 unfold j9 at hok
 cases hel:cR P t with
 | none=>rw[hel]at hok;exact hok.elim
 | some y =>
  obtain⟨zc,bytes⟩:=y
  rw[hel]at hok
  obtain⟨hsmall,hmax,hfill⟩:=hok
  obtain⟨e,i,z,hu,hi,hz,hzs,hpos,hzc,hzl,hb⟩:=gc hel
  rw[hzl]at hsmall hfill
  have hK:jy P t len parts=⟨i.size,nB (List.replicate len zc) parts⟩:=by simp only[jy,hel,hzl]
  rw[hK]
  have main:∀(zero:ZG),(len*i.size≠0->zero=z.cells) -> ∃ cells,Instr.fill (fun k=>some (k*i.size,i.size)) ((Array.range (len*i.size)).map (zero[· % zero.size]!)) cparts.toList=some cells /\
    cY ρ (bV X ρ M) w i.size (nB (List.replicate len zc) parts) cells/\cells.size=len*i.size:=fun zero hzero=>by
   have hrows:cY ρ (bV X ρ M) w i.size (List.replicate len zc) ((Array.range (len*i.size)).map (zero[· % zero.size]!)):=by
    by_cases h0:len*i.size=0
    ·have:len=0:=by
      rcases Nat.mul_eq_zero.1 h0 with h|h
      ·exact h
      ·omega
     subst this
     exact⟨by simp,fun i row h=>by simp at h,fun i j row u h=>by simp at h⟩
    ·rw[hzero h0]
     refine xC hzs hpos hzc len _ ZH (fun k hk=>?_)
     simp[hk,hzs]
   obtain⟨cs',f1,f2,f3⟩:=tG i.size parts cparts.toList _ _ hrows (by simpa using hl) (fun j a b ha hb=>hp j a b ha (by simpa using hb)) (by simpa using hfill)
   exact⟨cs',f1,f3,by rw[f2];simp⟩
  obtain⟨cells,m1,m2,m3⟩:=main (if len*i.size=0 then #[] else z.cells) (fun h=>by rw[if_neg h])
  have hlen:(nB (List.replicate len zc) parts).length=len:=by rw[Ax];simp
  obtain⟨r1,r2⟩:=h.alloc hM hρ cells e ⟨i.size,nB (List.replicate len zc) parts⟩ len (by rw[hlen];exact IS _) (by rw[m3];exact IS _) m2.2.1 m2.2.2
  refine⟨.slice (some ⟨w.heap.size,0,none⟩) len len,w.alloc (.cells cells e),?_,ρ.put nm ⟨w.heap.size,0,i.size,len⟩,r1,r2,?_,fun x hx=>Names.put_ne _ _ hx⟩
  ·by_cases h0:len*i.size=0
   ·rw[if_pos h0]at m1
    rw[h0]at m1
    have h01:¬ 0>2 ^ 24:=Y6
    simp at m1
    simp[Instr.buildSlice,run_underlying hu,sizeOf,typeInfo,hi,h0,newRow,m1]
   ·rw[if_neg h0]at m1
    exact run_buildSlice w t e len cparts cells i z hu hi hz Y6 h0 m1
  ·have:=Is.own (ρ:=ρ.put nm ⟨w.heap.size,0,i.size,len⟩) (D:=bV X (ρ.put nm ⟨w.heap.size,0,i.size,len⟩) (M.put nm (some ⟨i.size,nB (List.replicate len zc) parts⟩))) (w:=w.alloc (.cells cells e)) (nm:=nm) (lo:=0) (n:=len) (c:=len) (l:=⟨w.heap.size,0,i.size,len⟩) (Names.put_same _ _ _) ZH (IS _)
   simpa using this
end
section
variable {P:Program} {G:Nat->V} {X:Nat->Prop} {w0:World} {I:Nat->Prop} {ρ:Names} {M:ah} {w:World} {D:Nat->Prop}
def av (b:UInt8):List V:=[.int .u8 b.toNat]
def aJ (M:ah):V->List (List V)
 | .sl _ _ rows=>rows
 | .own nm lo n=>((bD M nm).drop lo).take n
 | .ownc nm lo n _=>((bD M nm).drop lo).take n
 | .str s=>s.map av
 | _=>[]
def fx (M:ah)(s:Nat):V->Prop
 | .nils=>True
 | .sl _ sz _=>sz=s
 | .own nm lo n=>(M nm).isSome=true/\eT M nm=s/\lo+n<=(bD M nm).length
 | .ownc nm lo n _=>(M nm).isSome=true/\eT M nm=s/\lo+n<=(bD M nm).length
 | .str _=>s=1
 | _=>False
def MW (h:Rel G X w0 I ρ M w){nm:Nat}{l:Loc}(hM:(M nm).isSome=true)(hl:ρ nm=some l):l.sz=eT M nm:=by
 obtain⟨kb,hkb⟩:=OF.1 hM
 rcases h.live nm kb hkb with ⟨_,h2⟩|⟨l2,h2,_,_,⟨cs,e2,_,h3,h4,_⟩|⟨_,_,_,_,_,_,_,_,h4,_⟩⟩
 ·rw[hl]at h2;cases h2
 ·rw[hl]at h2;cases h2
  rw[<- h4,eT,hkb]
 ·rw[hl]at h2;cases h2
  rw[<- h4,eT,hkb]
def Bs (h:Rel G X w0 I ρ M w){s:Nat}(hs:0<s){x:V}{cx:Value}(hx:Is ρ (bV X ρ M) w x cx)(hok:fx M s x)(hno:x.lose=x) :
  (Builtin.lenOf cx).run P w = .ok (aJ M x).length w /\ ∀ k,k<=(aJ M x).length -> ∃ arr,(Builtin.firstCells s k cx).run P w = .ok arr w/\arr.size=k*s/\cY ρ (bV X ρ M) w s ((aJ M x).take k) arr:=by
 -- cells that lie there are loaded
 have cellsOf:∀(b o n c:Nat) (rows:List (List V)),rows.length=n->(∀(i:Nat) (row:List V),rows[i]? = some row->row.length=s) ->
   (∀(i j:Nat) (row:List V) (u:V),rows[i]? = some row->row[j]? = some u -> ∃ c,w.cell? ⟨b,o+i*s+j,none⟩=some c/\Is ρ (bV X ρ M) w u c) ->
   ∀ k,k<=n -> ∃ arr,(Builtin.firstCells s k (.slice (some ⟨b,o,none⟩) n c)).run P w = .ok arr w/\arr.size=k*s/\cY ρ (bV X ρ M) w s (rows.take k) arr:=by
  intro b o n c rows hn hr hc k hkn
  have hget:∀ q,q<k*s -> ∃ row u,rows[q / s]? = some row/\row[q % s]? = some u:=fun q hq=>by
   have h0:q / s<k:=YW (by grind)
   have h1:q / s<rows.length:=Y6
   have h2:=hr _ _ (AT h1)
   have h3:q % s<(rows[q / s]).length:=by rw[h2];exact Nat.mod_lt _ hs
   exact⟨_,_,AT h1,AT h3⟩
  have hl:=run_loadCells (P:=P) w ⟨b,o,none⟩ (k*s) (fun q=>(w.cell? ⟨b,o+q,none⟩).getD undef) (fun q hq=>by
   obtain⟨row,u,a1,a2⟩:=hget q hq
   obtain⟨c,a3,_⟩:=hc _ _ row u a1 a2
   have e:o+q / s*s+q % s=o+q:=by rw[XS];congr 1;rw[YC];exact Yt q s
   simp_all[Addr.add_mid])
  have hlen:(rows.take k).length=k:=by simp;omega
  have htk:∀(i:Nat) (row:List V),(rows.take k)[i]? = some row->i<k/\rows[i]? = some row:=fun i row hi=>by
   grind
  refine⟨_,hl,by simp,by simp[hlen],fun i row hi=>hr i row (htk i row hi).2,?_⟩
  intro i j row u hi hj
  obtain⟨hi',hi2⟩:=htk i row hi
  obtain⟨c,a1,a2⟩:=hc i j row u hi2 hj
  have hj':j<s:=by grind
  simp_all[XS,sZ]
 have none0:∀(A:Option Addr) (c k:Nat),k<=0 -> ∃ arr,(Builtin.firstCells s k (.slice A 0 c)).run P w = .ok arr w/\arr.size=k*s/\cY ρ (bV X ρ M) w s (([]:List (List V)).take k) arr:=fun A c k hk=>by
  have:k=0:=Y6
  subst this
  refine⟨#[],?_,by simp,by simp[cY]⟩
  cases A<;>simp[Builtin.firstCells,loadCells,loadCellsFrom]
 cases x<;>simp only[fx]at hok<;>try (first|exact hok.elim|(cases hno;done))
 case nils =>
  cases hx
  simp_all[Builtin.lenOf,aJ]
 case str l =>
  subst hok
  cases hx
  refine⟨by simp[Builtin.lenOf,aJ,ByteArray.size],fun k hk=>⟨_,by rfl,?_,?_,?_,?_⟩⟩
  ·simp_all[aJ]
  ·simp_all[aJ]
  ·intro i row hi
   have hik:=By hi
   have:=X7 hik
   simp only[aJ,Wn]at this
   obtain⟨b,_,rfl⟩:=this
   rfl
  ·intro i j row u hi hj
   have hik:i<k:=by grind
   rw[XI,if_pos hik]at hi
   simp only[aJ,WG]at hi
   obtain⟨b,hb,rfl⟩:=BY.1 hi
   cases j with
   | succ j=>grind[av]
   | zero =>
    simp only[av,List.getElem?_cons_zero,WO]at hj
    subst hj
    refine⟨.int .u8 b.toNat,?_,.int _ _⟩
    simp_all
 case sl t sz rows =>
  subst hok
  cases hx with
  | sl0 ht=>simp_all[Builtin.lenOf,aJ]
  | sl cv hc ht hD hb hr hxx hu =>
   rename_i b o c
   refine⟨by rfl,?_⟩
   exact cellsOf b o rows.length c rows rfl hr (fun i j row u hi hj=>⟨_,hxx i j row u hi hj,hu i j row u hi hj⟩)
 case own nm lo n =>
  obtain⟨hM,hsz,hle⟩:=hok
  obtain⟨kb,hkb⟩:=OF.1 hM
  have hro:bD M nm=kb.rows:=by rw[bD,hkb]
  rw[hro]at hle
  have hlen:(aJ M (.own nm lo n)).length=n:=by simp only[aJ,hro];simp;omega
  rw[hlen]
  cases hx with
  | own0 =>
   have hnil:aJ M (.own nm lo 0)=[]:=Wp hlen
   simp_all[Builtin.lenOf]
  | own hl hlc hnc =>
   rename_i c l
   refine⟨by rfl,?_⟩
   have hls:=MW h hM hl
   rw[hsz]at hls
   rcases h.live nm kb hkb with ⟨h1,h2⟩|⟨l2,h2,_,_,⟨cs,e2,_,h3,h4,h5,h6,h7,h8⟩|⟨_,_,_,_,_,_,_,_,_,h4,_⟩⟩
   rotate_right
   ·simp_all
   ·simp_all
   ·rw[hl]at h2;cases h2
    have hg:∀(i:Nat) (row:List V),(aJ M (.own nm lo n))[i]? = some row->kb.rows[lo+i]? = some row:=fun i row hi=>by
     simp_all[aJ,XI]
    refine cellsOf l.b (l.o+lo*l.sz) n c _ hlen (fun i row hi=>by grind) (fun i j row u hi hj=>?_)
    obtain⟨cv,c1,c2⟩:=h8 _ j row u (hg i row hi) hj
    refine⟨cv,?_,c2⟩
    rw[cell_of_row w l.b _ cs e2 _ h3,<- c1]
    grind
theorem nn (M:ah)(x:V):aJ M x.lose=aJ M x:=by cases x<;>rfl
def wZ (M:ah)(s:Nat)(x:V):fx M s x.lose=fx M s x:=by cases x<;>rfl
def za (x:V):x.lose.lose=x.lose:=by cases x<;>rfl
def oL (h:Rel G X w0 I ρ M w){s:Nat}(hs:0<s){x:V}{cx:Value}(hx:Is ρ (bV X ρ M) w x cx)(hok:fx M s x) :
  (Builtin.lenOf cx).run P w = .ok (aJ M x).length w /\ ∀ k,k<=(aJ M x).length -> ∃ arr,(Builtin.firstCells s k cx).run P w = .ok arr w/\arr.size=k*s/\cY ρ (bV X ρ M) w s ((aJ M x).take k) arr:=by
 have:=Bs (P:=P) h hs hx.lose (by simp_all[wZ]) (za x)
 grind[nn]
def mL (h:Rel G X w0 I ρ M w){s:Nat}(hs:0<s){x:V}{cx:Value}(hx:Is ρ (bV X ρ M) w x cx)(hok:fx M s x) :
  (Builtin.lenOf cx).run P w = .ok (aJ M x).length w /\ ∃ arr,(Builtin.firstCells s (aJ M x).length cx).run P w = .ok arr w/\arr.size=(aJ M x).length*s/\cY ρ (bV X ρ M) w s (aJ M x) arr:=by
 obtain⟨h1,h2⟩:=oL (P:=P) h hs hx hok
 obtain⟨arr,h3,h4,h5⟩:=h2 _ (IS _)
 simp_all
def run_append_room {t t2 ty e:TypeId}{i:TypeInfo}(hu:P.underlying t=some (.slice e))(hi:P.info? e=some i)(h2:cD P t2=true){A:Option Addr}{n c m:Nat}{cx:Value}(hlen:(Builtin.lenOf cx).run P w = .ok m w){new:ZG}
  (hf:(Builtin.firstCells i.size m cx).run P w = .ok new w) (hroom:n+m<=c) {w':World} (hst:∀ a,A=some a->(storeCells (a.add (n*i.size)) new.toList).run P w = .ok () w') (hno:A=none->w'=w) :
  (Builtin.append_ #[t,t2] ty #[.slice A n c,cx]).run P w = .ok (.slice A (n+m) c) w':=by
 have hz:∃ d,P.underlying t2=some d /\ ∀ k,d ≠ .int k:=by
  unfold cD at h2
  grind
 obtain⟨d,hd,hni⟩:=hz
 have hzeros:(match d with | .int _=>true|_=>false)=false:=by simp_all
 cases A with
 | none =>
  have:=hno rfl;subst this
  simp[Builtin.append_,run_underlying hu,run_underlying hd,sizeOf,typeInfo,hi,hzeros,hlen,hroom,hf]
 | some a =>
  have hs:=hst a rfl
  simp[Builtin.append_,run_underlying hu,run_underlying hd,sizeOf,typeInfo,hi,hzeros,hlen,hroom,hf,hs]
def ul {t t2 ty e:TypeId}{i:TypeInfo}{z:Value}(hu:P.underlying t=some (.slice e))(hi:P.info? e=some i)(hz:i.zero=some z)(h2:cD P t2=true){A:Option Addr}{n c m:Nat}{cx:Value}(hlen:(Builtin.lenOf cx).run P w = .ok m w){old new:ZG}
  (ho:(Builtin.firstCells i.size n (.slice A n c)).run P w.drew = .ok old w.drew) (hf:(Builtin.firstCells i.size m cx).run P w.drew = .ok new w.drew) (hg:c<n+m) (h63:n+m<=maxLen) (hb:(n+m)*i.bytes<=140737488355328) :
  (Builtin.append_ #[t,t2] ty #[.slice A n c,cx]).run P w = .ok (.slice (some ⟨w.heap.size,0,none⟩) (n+m) (grownCap w (n+m) c e)) (w.drew.alloc (.cells (old++new++Builtin.zeroCells z.cells (grownCap w (n+m) c e-(n+m))) e)):=by
 have hzz:∃ d,P.underlying t2=some d /\ ∀ k,d ≠ .int k:=by
  unfold cD at h2
  grind
 obtain⟨d,hd,hni⟩:=hzz
 have hzeros:(match d with | .int _=>true|_=>false)=false:=by simp_all
 have hn:¬(n+m<=c):=Y6
 have h63':¬(9223372036854775807<((n:Int)+(m:Int))):=by grind[maxLen]
 have hfit:=growslice_fits hg hb
 have h48':¬(281474976710656<Builtin.nextslicecap (n+m) c*i.bytes):=Y6
 simp[Builtin.append_,run_underlying hu,run_underlying hd,sizeOf,typeInfo,zeroValue,hi,hz,hzeros,hlen,hn,h63',h48',Question.forced,hf,ho,newRow,grownCap]
def j5 (P:Program)(t:TypeId):Option TypeId:=match P.underlying t with
 | some (.slice e)=>some e
 | _=>none
def sg (P:Program)(t:TypeId):Option TypeId:=match P.underlying t with
 | some (.slice e)=>(match P.underlying e with|some (.int .u8)=>some e|_=>none)
 | _=>none
def Pw {P:Program}{t e:TypeId}(h:sg P t=some e):j5 P t=some e:=by
 unfold sg at h
 split at h
 ·rename_i e' hu
  split at h
  ·cases h;simp only[j5,hu]
  ·cases h
 ·cases h
def Blk.ty (k:Blk):Option TypeId:=match k.ob with
 | .typed t=>some t
 | _=>none
def Blk.ty_plain (s:Nat)(r:List (List V)):(Blk.mk s r).ty=none:=rfl
def Blk.ty_typed (s:Nat)(r:List (List V))(t:TypeId):(@Blk.mk s r (.typed t)).ty=some t:=rfl
def ld (P:Program)(t:TypeId)(M:ah):V->Option TypeId
 | .own ns lo _=>(M ns).bind fun k=>k.ty.bind fun e=>if lo=0/\j5 P t=some e then some e else none
 | .ownc ns lo _ _=>(M ns).bind fun k=>k.ty.bind fun e=>if lo=0/\j5 P t=some e then some e else none
 | .nils=>sg P t
 | _=>none
theorem xj (P:Program)(t:TypeId)(M:ah)(s:V):ld P t M s.lose=ld P t M s:=by cases s<;>rfl
def xm {P:Program}{t:TypeId}{M:ah}{s:V}{e:TypeId}(h:ld P t M s=some e):j5 P t=some e/\(s = .nils \/ ∃ ns n k,s.lose = .own ns 0 n/\M ns=some k/\k.ob = .typed e):=by
 rw[<- xj]at h
 generalize hs:s.lose=s' at h
 cases s'<;>try (cases h;done)
 case ownc=>cases s<;>cases hs
 case nils=>exact⟨Pw h,.inl (by cases s<;>first|rfl|cases hs)⟩
 rename_i ns lo n
 simp only[ld]at h
 obtain⟨k,hk,h⟩:=WC.1 h
 obtain⟨e',he,h⟩:=WC.1 h
 split at h
 ·rename_i hc
  cases h
  refine⟨hc.2,.inr ⟨ns,n,k,by rw[<- hc.1],hk,?_⟩⟩
  unfold Blk.ty at he
  split at he
  ·rename_i ho;cases he;exact ho
  ·cases he
 ·cases h
def eY (P:Program)(t:TypeId)(M:ah)(s x:V):Blk:=match cR P t with
 | some (zc,_)=>tZ (ld P t M s) zc.length (aJ M s++aJ M x)
 | none=>⟨0,[]⟩
def fA (P:Program)(t:TypeId)(M:ah)(nm:Nat)(s x:V):ah:=(match s with | .own ns _ _=>M.put ns none | .ownc ns _ _ _=>M.put ns none|_=>M).put nm (some (eY P t M s x))
def fS (M:ah)(nm:Nat)(s x:V):V:=.own nm 0 ((aJ M s).length+(aJ M x).length)
def pJ (M:ah)(x:V):V->Prop
 | .sl tt _ rows=>tt=true/\(rows=[]\/aJ M x≠[])
 | .str _=>False
 | _=>True
def fX (P:Program)(t t2:TypeId)(M:ah)(s x:V):Prop:=cD P t2=true/\match cR P t with
 | some (zc,bytes)=>fx M zc.length s/\fx M zc.length x/\pJ M x s /\
   ((aJ M x).all fun r=>r.all V.one)=true/\(aJ M s).length+(aJ M x).length<=maxLen/\((aJ M s).length+(aJ M x).length)*bytes<=140737488355328
 | none=>False
def Rel.ghostK (h:Rel G X w0 I ρ M w){nm:Nat}(hM:M nm=none)(hρ:ρ nm=none)(k0:Blk)(h0:k0.rows=[]):Rel G X w0 I ρ (M.put nm (some k0)) w/\Moves ρ M w ρ (M.put nm (some k0)) w:=by
 have key:∀ x l,((M.put nm (some k0)) x).isSome=true->ρ x=some l->(M x).isSome=true:=fun x l hx hl=>by
  by_cases e:x=nm
  ·subst e;rw[hρ]at hl;cases hl
  ·rwa[ah.put_ne _ _ e]at hx
 have m:Moves ρ M w ρ (M.put nm (some k0)) w:=⟨fun _ _ h=>h,IS _,rfl,rfl,rfl,fun _ _ _=>rfl,fun x l h1 h2 _=>⟨x,l,key x l h1 h2,h2,rfl⟩⟩
 refine⟨h.move m (fun a b l l' a1 a2 a3 a4 a5=>h.inj a b l l' (key a l a1 a3) (key b l' a2 a4) a3 a4 a5) ?_,m⟩
 intro x k hx
 by_cases e:x=nm
 ·subst e;rw[ah.put_same]at hx;cases hx
  exact .inr (.inl ⟨h0,hρ⟩)
 ·rw[ah.put_ne _ _ e]at hx
  exact .inl ⟨hx,id,fun _ _=>rfl⟩
def Rel.ghost (h:Rel G X w0 I ρ M w){nm:Nat}(hM:M nm=none)(hρ:ρ nm=none)(s:Nat):Rel G X w0 I ρ (M.put nm (some ⟨s,[]⟩)) w/\Moves ρ M w ρ (M.put nm (some ⟨s,[]⟩)) w:=h.ghostK hM hρ ⟨s,[]⟩ rfl
end
section
variable {P:Program} {G:Nat->V} {X:Nat->Prop} {w0:World} {I:Nat->Prop} {ρ:Names} {M:ah} {w:World} {D:Nat->Prop}
def cY.append {s:Nat}{r1 r2:List (List V)}{c1 c2:ZG}(h1:cY ρ D w s r1 c1)(h2:cY ρ D w s r2 c2)(hn:c1.size=r1.length*s):cY ρ D w s (r1++r2) (c1++c2):=by
 refine⟨by have:=h2.1;grind[Nat.add_mul],?_,?_⟩
 ·intro i row hi
  rw[Ws]at hi
  split at hi
  ·exact h1.2.1 _ _ hi
  ·exact h2.2.1 _ _ hi
 ·intro i j row u hi hj
  rw[Ws]at hi
  split at hi
  ·rename_i hlt
   obtain⟨c,a1,a2⟩:=h1.2.2 i j row u hi hj
   grind
  ·rename_i hge
   obtain⟨c,a1,a2⟩:=h2.2.2 _ j row u hi hj
   refine⟨c,?_,a2⟩
   have e:i*s=r1.length*s+(i-r1.length)*s:=by rw[<- Nat.add_mul];congr 1;omega
   grind
def cY.more {s:Nat}{r:List (List V)}{c1 c2:ZG}(h:cY ρ D w s r c1):cY ρ D w s r (c1++c2):=by
 refine⟨by have:=h.1;simp;omega,h.2.1,fun i j row u hi hj=>?_⟩
 obtain⟨c,a1,a2⟩:=h.2.2 i j row u hi hj
 grind
def LY {s:V}{cs:Value}(hs:Is ρ D w s cs){sz:Nat}{x:V}(hsrc:fx M sz s)(hd:pJ M x s)(hno:s.lose=s) :
  ∃ A c,cs = .slice A (aJ M s).length c/\(aJ M s).length<=c/\(((aJ M s).length+(aJ M x).length<=c)->(c=0/\(∀ nm lo n,s = .own nm lo n->n=0)) \/ ∃ nm lo n l,s = .own nm lo n/\ρ nm=some l/\lo+c<=l.tot/\A=some ⟨l.b,l.o+lo*l.sz,none⟩):=by
 cases s<;>simp only[fx]at hsrc<;>try (first|exact hsrc.elim|(cases hno;done))
 case str=>exact hd.elim
 case nils =>
  cases hs
  exact⟨none,0,rfl,IS _,fun _=>.inl ⟨rfl,fun _ _ _ e=>by cases e⟩⟩
 case sl t sz' rows =>
  obtain⟨rfl,h2⟩:=hd
  cases hs with
  | sl0 ht=>exact⟨_,_,rfl,WB _,fun _=>.inl ⟨ht rfl,fun _ _ _ e=>by cases e⟩⟩
  | sl cv hc ht hD hb hr hxx hu =>
   refine⟨_,_,rfl,hc,fun hroom=>?_⟩
   have hc':=ht rfl
   have e:aJ M (.sl true sz' rows)=rows:=rfl
   rcases h2 with rfl|h2
   ·simp_all
   ·exfalso
    have:0<(aJ M x).length:=Wl.2 h2
    grind
 case own nm lo n =>
  obtain⟨hM,hsz,hle⟩:=hsrc
  have hlen:(aJ M (.own nm lo n)).length=n:=by grind[aJ]
  rw[hlen]
  cases hs with
  | own0=>grind
  | own hl hlc hnc=>grind
def xJ (h:Rel G X w0 I ρ M w){nm:Nat}(hM:M nm=none)(hρ:ρ nm=none){t t2 ty:TypeId}{s x:V}{cs cx:Value}(hs:Is ρ (bV X ρ M) w s cs)(hx:Is ρ (bV X ρ M) w x cx)(hok:fX P t t2 M s x)(hno:s.lose=s) :
  ∃ c w',(Builtin.append_ #[t,t2] ty #[cs,cx]).run P w = .ok c w'/\db G X w0 I ρ M w nm (fS M nm s x) (fA P t M nm s x) c w':=by
 obtain⟨hk,hok⟩:=hok
 cases hel:cR P t with
 | none=>rw[hel]at hok;exact hok.elim
 | some y =>
  obtain⟨zc,bytes⟩:=y
  rw[hel]at hok
  obtain⟨hs1,hx1,hd,hone,h63,hbytes⟩:=hok
  obtain⟨e,i,z,hu,hi,hz,hzs,hpos,hzc,hzl,hbi⟩:=gc hel
  subst hbi
  rw[hzl]at hs1 hx1
  have hK:eY P t M s x=tZ (ld P t M s) i.size (aJ M s++aJ M x):=by simp only[eY,hel,hzl]
  have hTe:∀ e',ld P t M s=some e'->e=e':=fun e' he=>by
   have:=(xm he).1
   simp only[j5,hu,WO]at this
   exact this
  obtain⟨A,c,rfl,hnc,hform⟩:=LY hs hs1 hd hno
  obtain⟨xl,xarr,xf,xs,xr⟩:=mL (P:=P) h hpos hx hx1
  have hM2:∀ y k,fA P t M nm s x y=some k->(M.put nm (some (eY P t M s x))) y=some k:=fun y k hy=>by
   unfold fA at hy
   by_cases e:y=nm
   ·subst e;rw[ah.put_same]at hy ⊢;exact hy
   ·rw[ah.put_ne _ _ e]at hy ⊢
    split at hy
    ·rename_i ns _ _
     by_cases e2:y=ns
     ·subst e2;rw[ah.put_same]at hy;cases hy
     ·rwa[ah.put_ne _ _ e2]at hy
    ·rename_i ns _ _ _
     by_cases e2:y=ns
     ·subst e2;rw[ah.put_same]at hy;cases hy
     ·rwa[ah.put_ne _ _ e2]at hy
    ·exact hy
  have hMnm:fA P t M nm s x nm=some (eY P t M s x):=by unfold fA;rw[ah.put_same]
  by_cases hroom:(aJ M s).length+(aJ M x).length<=c
  ·by_cases hc0:c=0
   ·-- nothing,onto nothing
    subst hc0
    have hm:aJ M x=[]:=Wp Y6
    have hn:aJ M s=[]:=Wp Y6
    have hxa:xarr = #[]:=by
     rw[hm]at xs;simp at xs;exact xs
    subst hxa
    have hrun:=run_append_room (P:=P) (t2:=t2) (ty:=ty) hu hi hk (A:=A) (n:=(aJ M s).length) (c:=0) xl xf hroom (w':=w) (fun a _=>by simp[storeCells]) (fun _=>rfl)
    refine⟨_,w,hrun,ρ,?_⟩
    rw[hm,hn]at hK
    obtain⟨r1,r2⟩:=h.ghostK hM hρ (eY P t M s x) (by rw[hK,fM];rfl)
    obtain⟨r3,r4⟩:=r1.drop hM2
    refine⟨r3,r2.trans r4,?_,fun _ _=>rfl⟩
    simp only[fS,hm,hn,List.length_nil,Nat.add_zero]
    exact .own0
   ·-- there is room
    rcases hform hroom with ⟨h0,_⟩|⟨ns,lo,n,l,rfl,hl,hlc,rfl⟩
    ·exact absurd h0 hc0
    obtain⟨hMn,hsz,hle⟩:=hs1
    obtain⟨kb,hkb⟩:=OF.1 hMn
    have hro:bD M ns=kb.rows:=by rw[bD,hkb]
    have hrs:aJ M (.own ns lo n)=(kb.rows.drop lo).take n:=by simp only[aJ,hro]
    have hlen:(aJ M (.own ns lo n)).length=n:=by simp only[aJ];simp;omega
    have hls:=MW h hMn hl
    rw[hsz]at hls
    have hne:ns≠nm:=fun e=>by rw[e,hM]at hMn;cases hMn
    rcases h.live ns kb hkb with ⟨_,a2⟩|⟨l2,a1,a2,a3,⟨cs,e2,aok,a4,a5,a6,a7,a8,a9⟩|⟨_,_,_,_,_,_,_,_,_,_,a4,_⟩⟩
    ·rw[hl]at a2;cases a2
    rotate_right
    ·rw[hl]at a1;cases a1;rw[a4]at hlc;exact absurd (YQ.1 (W4 (Nat.le_add_left c lo) hlc)) hc0
    rw[hl]at a1;cases a1
    rw[hlen]at hroom hnc
    generalize hmm:(aJ M x).length=m at *
    have hfit:l.o+lo*l.sz+n*i.size+xarr.size<=cs.size:=by
     have q1:(lo+(n+m))*l.sz<=l.tot*l.sz:=WX _ Y6
     rw[Nat.add_mul,Nat.add_mul]at q1
     rw[xs,<- hls];omega
    have hcell1:∀ u∈xarr.toList,u.oneCell'=true:=fun u hu=>by
     obtain⟨k,hk,rfl⟩:=Xd hu
     have hk':k<m*i.size:=by simpa [xs] using hk
     have q1:k / i.size<(aJ M x).length:=by rw[hmm];exact YW (by rwa[YC])
     have q2:=xr.2.1 _ _ (AT q1)
     have q3:k % i.size<((aJ M x)[k / i.size]).length:=by rw[q2];exact Nat.mod_lt _ hpos
     obtain⟨c',q4,q5⟩:=xr.2.2 _ _ _ _ (AT q1) (AT q3)
     have q6:k / i.size*i.size+k % i.size=k:=by rw[YC];exact Yt _ _
     rw[q6]at q4
     have q7:((aJ M x)[k / i.size])[k % i.size].one=true:=by
      rw[WI]at hone
      have:=hone _ (Xi q1)
      rw[WI]at this
      exact this _ (Xi q3)
     have q8:=(q5.one q7).1
     have q9:xarr.toList[k]=c':=by
      have:=Wg (xs:=xarr) (i:=k) (by rw[xs];exact hk')
      rw[q4]at this
      simpa using this.symm
     rw[q9];exact q8
    have hst:=gB P l.b (l.o+lo*l.sz+n*i.size) e2 _ xarr.toList 0 cs w a4 (fun p hp=>l.free (by
     have q1:(lo+(n+m))*l.sz<=l.tot*l.sz:=WX _ Y6
     rw[Nat.add_mul,Nat.add_mul]at q1
     simp[xs,<- hls]at hp
     omega)) (by simpa using hfit) hcell1
    have hrun:=run_append_room (P:=P) (t2:=t2) (ty:=ty) hu hi hk (A:=some ⟨l.b,l.o+lo*l.sz,none⟩) (n:=n) (c:=c) xl xf hroom (fun a ha=>by cases ha;rw[Addr.add_mid];exact hst) (fun ha=>by cases ha)
    rw[hlen]
    refine⟨_,_,hrun,ρ.put nm (@Loc.mk l.b (l.o+lo*l.sz) l.sz c (fzTo l lo c)),?_⟩
    have hnr:∀ y q,ρ y=some q->y≠nm:=fun y q hy e=>by subst e;rw[hρ]at hy;cases hy
    have hMs:∀ y,y≠nm->(fA P t M nm (.own ns lo n) x y).isSome=true->(M y).isSome=true/\y≠ns:=fun y hy hs=>by
     simp only[fA,ah.put_ne _ _ hy]at hs
     by_cases e:y=ns
     ·subst e;rw[ah.put_same]at hs;cases hs
     ·rw[ah.put_ne _ _ e]at hs;exact⟨hs,e⟩
    have hm:Moves ρ M w (ρ.put nm (@Loc.mk l.b (l.o+lo*l.sz) l.sz c (fzTo l lo c))) (fA P t M nm (.own ns lo n) x) (w.setRow l.b (cs.toList.take (l.o+lo*l.sz+n*i.size+0)++xarr.toList++cs.toList.drop (l.o+lo*l.sz+n*i.size+0+xarr.toList.length)).toArray):=by
     refine⟨fun y q hy=>by rw[Names.put_ne _ _ (hnr y q hy)];exact hy,by simp,rfl,rfl,rfl,fun b _ hb=>setRow_other _ _ _ _ (fun e=>hb ns l hMn hl e.symm),fun y q b1 b2 _=>?_⟩
     by_cases e:y=nm
     ·subst e;rw[Names.put_same]at b2;cases b2
      exact⟨ns,l,hMn,hl,rfl⟩
     ·rw[Names.put_ne _ _ e]at b2
      exact⟨y,q,(hMs y e b1).1,b2,rfl⟩
    refine⟨h.move hm ?_ ?_,hm,?_,fun y hy=>Names.put_ne _ _ hy⟩
    ·intro y y' q q' b1 b2 b3 b4 b5
     by_cases ey:y=nm
     ·subst ey
      by_cases ey':y'=y
      ·exact ey'.symm
      ·rw[Names.put_same]at b3;cases b3
       rw[Names.put_ne _ _ ey']at b4
       exact absurd (h.inj ns y' l q' hMn (hMs y' ey' b2).1 hl b4 b5) (hMs y' ey' b2).2.symm
     ·rw[Names.put_ne _ _ ey]at b3
      by_cases ey':y'=nm
      ·subst ey'
       rw[Names.put_same]at b4;cases b4
       exact absurd (h.inj y ns q l (hMs y ey b1).1 hMn b3 hl b5) (hMs y ey b1).2
      ·rw[Names.put_ne _ _ ey']at b4
       exact h.inj y y' q q' (hMs y ey b1).1 (hMs y' ey' b2).1 b3 b4 b5
    ·intro y k hy
     by_cases ey:y=nm
     ·subst ey
      rw[hMnm,hK]at hy;cases hy
      refine .inr (.inr ⟨_,Names.put_same _ _ _,a2,a3,.inl ⟨_,e2,Al (fun e' he=>?_),(by rw[S3 Y6];exact setRow_heap w l.b cs _ e2 _ a4),by rw[ll];exact hls.symm,?_,?_,?_,?_⟩⟩)
      ·obtain⟨_,q0|⟨ns',n',k',q1,q2,q3⟩⟩:=xm he
       ·cases q0
       cases q1
       rw[hkb]at q2;cases q2
       rw[q3]at aok
       refine⟨aok.1,?_⟩
       show l.o+0*l.sz=0
       rw[aok.2,YR]
      ·rw[fM,List.length_append,hlen,hmm];exact hroom
      ·have q1:(lo+c)*l.sz<=l.tot*l.sz:=WX _ hlc
       rw[Nat.add_mul]at q1
       simp only[List.size_toArray,Nat.add_zero,List.length_append,WK,Wd,Array.length_toList];omega
      ·intro i' row hi'
       rw[fM,Ws]at hi'
       split at hi'
       ·rw[hrs,XI]at hi'
        split at hi'
        ·rw[Wr]at hi';exact a8 _ row hi'
        ·cases hi'
       ·rw[hls];exact xr.2.1 _ row hi'
      ·intro i' j' row u hi' hj'
       have hget:=cV (row:=cs.toList) (j:=l.o+lo*l.sz+n*i.size) (cs:=xarr.toList) (by simpa using hfit)
       have hget':∀ q,(cs.toList.take (l.o+lo*l.sz+n*i.size+0)++xarr.toList++cs.toList.drop (l.o+lo*l.sz+n*i.size+0+xarr.toList.length)).toArray[q]? = if q<l.o+lo*l.sz+n*i.size then cs[q]? else if q<l.o+lo*l.sz+n*i.size+xarr.size then xarr[q-(l.o+lo*l.sz+n*i.size)]? else cs[q]?:=fun q=>by
        simpa [bw] using hget q
       rw[hget']
       rw[fM,Ws]at hi'
       rw[hlen]at hi'
       split at hi'
       ·rename_i hin
        rw[hrs,XI,if_pos hin,Wr]at hi'
        have hj2:j'<l.sz:=by rw[<- a8 _ row hi'];exact(AS.1 hj').1
        obtain⟨cv,c1,c2⟩:=a9 _ j' row u hi' hj'
        refine⟨cv,?_,hm.is c2⟩
        have q1:=sZ hin hj2
        have q2:(lo+i')*l.sz=lo*l.sz+i'*l.sz:=Nat.add_mul _ _ _
        show(if l.o+lo*l.sz+i'*l.sz+j'<_ then _ else _)=_
        rw[if_pos (show l.o+lo*l.sz+i'*l.sz+j'<l.o+lo*l.sz+n*i.size by rw[<- hls];omega),<- c1,q2]
        congr 1
        show l.o+lo*l.sz+i'*l.sz+j'=_
        omega
       ·rename_i hin
        have hj2:j'<i.size:=by rw[<- xr.2.1 _ row hi'];exact(AS.1 hj').1
        obtain⟨cv,c1,c2⟩:=xr.2.2 _ j' row u hi' hj'
        refine⟨cv,?_,hm.is c2⟩
        have hi2:i'-n<m:=by rw[<- hmm];exact(AS.1 hi').1
        have q1:=sZ hi2 hj2
        have q2:i'*i.size=n*i.size+(i'-n)*i.size:=by rw[<- Nat.add_mul];congr 1;omega
        show(if l.o+lo*l.sz+i'*l.sz+j'<_ then _ else _)=_
        rw[if_neg (show ¬(l.o+lo*l.sz+i'*l.sz+j'<l.o+lo*l.sz+n*i.size) by rw[hls];omega),if_pos (show l.o+lo*l.sz+i'*l.sz+j'<l.o+lo*l.sz+n*i.size+xarr.size by rw[hls,xs];omega),<- c1]
        congr 1
        show l.o+lo*l.sz+i'*l.sz+j'-(l.o+lo*l.sz+n*i.size)=_
        rw[hls];omega
     ·have hy':=hM2 y k hy
      rw[ah.put_ne _ _ ey]at hy'
      have hns:=(hMs y ey (by rw[hy];rfl)).2
      refine .inl ⟨hy',fun hn=>by rw[Names.put_ne _ _ ey];exact hn,fun q hq=>setRow_other _ _ _ _ (fun e=>hns (h.inj y ns q l (by rw[hy'];rfl) hMn hq hl e))⟩
    ·simp only[fS,hlen,hmm]
     have:=Is.own (ρ:=ρ.put nm (@Loc.mk l.b (l.o+lo*l.sz) l.sz c (fzTo l lo c))) (D:=bV X (ρ.put nm (@Loc.mk l.b (l.o+lo*l.sz) l.sz c (fzTo l lo c))) (fA P t M nm (.own ns lo n) x)) (w:=w.setRow l.b (cs.toList.take (l.o+lo*l.sz+n*i.size+0)++xarr.toList++cs.toList.drop (l.o+lo*l.sz+n*i.size+0+xarr.toList.length)).toArray) (nm:=nm) (lo:=0) (n:=n+m) (c:=c) (Names.put_same _ _ _) ZH hroom
     simpa using this
  ·-- a new block
   obtain⟨d1,d2⟩:=h.draw (w.drawn+1)
   have hs':=d2.is hs
   have hx':=d2.is hx
   obtain⟨ol,oarr,of',os,or'⟩:=mL (P:=P) d1 hpos hs' hs1
   obtain⟨nl,narr,nf,nss,nr⟩:=mL (P:=P) d1 hpos hx' hx1
   have hrun:=ul (P:=P) (t2:=t2) (ty:=ty) hu hi hz hk (A:=A) (n:=(aJ M s).length) (c:=c) xl of' nf Y6 h63 hbytes
   have hge:=grownCap_ge w ((aJ M s).length+(aJ M x).length) c e
   have hrows:=((or'.append nr os).more (c2:=Builtin.zeroCells z.cells (grownCap w ((aJ M s).length+(aJ M x).length) c e-((aJ M s).length+(aJ M x).length))))
   obtain⟨r1,r2⟩:=d1.alloc hM hρ (oarr++narr++Builtin.zeroCells z.cells (grownCap w ((aJ M s).length+(aJ M x).length) c e-((aJ M s).length+(aJ M x).length))) e (tZ (ld P t M s) i.size (aJ M s++aJ M x)) (grownCap w ((aJ M s).length+(aJ M x).length) c e)
    (by rw[fM];simpa using hge) (by
     rw[ll]
     simp only[Array.size_append,size_zeroCells,os,nss,hzs,<- Nat.add_mul]
     exact WX _ Y6) (by rw[fM,ll];exact hrows.2.1) (by rw[fM,ll];exact hrows.2.2) (Al (fun e' he=>⟨hTe e' he,rfl⟩))
   rw[ll]at r1 r2
   rw[hK]at hM2
   obtain⟨r3,r4⟩:=r1.drop hM2
   refine⟨_,_,hrun,_,r3,(d2.trans r2).trans r4,?_,fun y hy=>Names.put_ne _ _ hy⟩
   simp only[fS]
   have:=Is.own (ρ:=ρ.put nm ⟨w.heap.size,0,i.size,grownCap w ((aJ M s).length+(aJ M x).length) c e⟩) (D:=bV X (ρ.put nm ⟨w.heap.size,0,i.size,grownCap w ((aJ M s).length+(aJ M x).length) c e⟩) (fA P t M nm s x))
    (w:=w.drew.alloc (.cells (oarr++narr++Builtin.zeroCells z.cells (grownCap w ((aJ M s).length+(aJ M x).length) c e-((aJ M s).length+(aJ M x).length))) e)) (nm:=nm) (lo:=0) (n:=(aJ M s).length+(aJ M x).length) (c:=grownCap w ((aJ M s).length+(aJ M x).length) c e) (Names.put_same _ _ _) ZH hge
   simpa using this
def Ab (h:Rel G X w0 I ρ M w){nm:Nat}(hM:M nm=none)(hρ:ρ nm=none){t t2 ty:TypeId}{s x:V}{cs cx:Value}(hs:Is ρ (bV X ρ M) w s cs)(hx:Is ρ (bV X ρ M) w x cx)(hok:fX P t t2 M s x) :
  ∃ c w',(Builtin.append_ #[t,t2] ty #[cs,cx]).run P w = .ok c w'/\db G X w0 I ρ M w nm (fS M nm s x) (fA P t M nm s x) c w':=by
 have e0:pJ M x s.lose=pJ M x s:=by cases s<;>rfl
 have e1:fX P t t2 M s.lose x=fX P t t2 M s x:=by simp_all[fX,wZ,nn]
 have e2:fS M nm s.lose x=fS M nm s x:=by grind[fS,nn]
 have e3:fA P t M nm s.lose x=fA P t M nm s x:=by
  have:eY P t M s.lose x=eY P t M s x:=by grind[eY,nn,xj]
  simp only[fA,this]
  cases s<;>rfl
 have:=xJ (P:=P) (ty:=ty) h hM hρ hs.lose hx (by rw[e1];exact hok) (za s)
 simp_all
end
section
variable {P:Program} {G:Nat->V} {X:Nat->Prop} {w0:World} {I:Nat->Prop} {ρ:Names} {M:ah} {w:World} {D:Nat->Prop}
def ah.app (M:ah):List (Nat×Option Blk)->ah
 | []=>M
 |(x,k)::r=>(M.put x k).app r
def QJ:V->Nat
 | .own _ _ n=>n
 | .ownc _ _ n _=>n
 | _=>0
def jz (M:ah)(d x:V):Nat:=min (aJ M x).length (QJ d)
def iM (M:ah)(nm:Nat):Bool:=match M nm with|some k=>k.ob.isRow|none=>false
def qV (M:ah)(nm lo:Nat)(d x:V):Blk:=match M nm with
 | some k=>@Blk.mk k.sz (bw k.rows lo ((aJ M x).take (jz M d x))) k.ob
 | none=>⟨0,[]⟩
def nz (M:ah)(d x:V):List (Nat×Option Blk):=match d with
 | .own nm lo _=>[(nm,some (qV M nm lo d x))]
 | .ownc nm lo _ _=>[(nm,some (qV M nm lo d x))]
 | _=>[]
def jr (M:ah)(s:Nat)(d x:V):Prop:=match d with
 | .own nm lo n=>iM M nm=true/\eT M nm=s/\lo+n<=(bD M nm).length/\(((aJ M x).take (jz M d x)).all fun r=>r.all V.one)=true
 | .ownc nm lo n _=>iM M nm=true/\eT M nm=s/\lo+n<=(bD M nm).length/\(((aJ M x).take (jz M d x)).all fun r=>r.all V.one)=true
 | .nils=>True
 | _=>False
def nT (P:Program)(t:TypeId)(M:ah)(d x:V):Prop:=match cR P t with
 | some (zc,_)=>fx M zc.length x/\jr M zc.length d x
 | none=>False
def pL {nm:Nat}(h:iM M nm=true):∃ k,M nm=some k/\k.ob.isRow=true:=by
 unfold iM at h
 grind
def wQ {t t2 ty e:TypeId}{i:TypeInfo}(hu:P.underlying t=some (.slice e))(hi:P.info? e=some i){A:Option Addr}{n c m:Nat}{cx:Value}(hlen:(Builtin.lenOf cx).run P w = .ok m w){new:ZG}
  (hf:(Builtin.firstCells i.size (min m n) cx).run P w = .ok new w) {w':World} (hst:∀ a,A=some a->(storeCells a new.toList).run P w = .ok () w') (hno:A=none->w'=w) :
  (Builtin.copy_ #[t,t2] ty #[.slice A n c,cx]).run P w = .ok (.int .i64 (min m n:Nat)) w':=by
 cases A with
 | none =>
  simp_all[Builtin.copy_,run_underlying,sizeOf,typeInfo,goInt]
 | some a =>
  have hs:=hst a rfl
  simp_all[Builtin.copy_,run_underlying,sizeOf,typeInfo,goInt]
def Q9 {s:Nat}(hs:0<s){rows:List (List V)}{arr:ZG}(hz:arr.size=rows.length*s)(hr:cY ρ D w s rows arr)(hone:(rows.all fun r=>r.all V.one)=true):∀ u∈arr.toList,u.oneCell'=true:=by
 intro u hu
 obtain⟨k,hk,rfl⟩:=Xd hu
 have hk':k<rows.length*s:=by grind
 have q1:k / s<rows.length:=YW (by grind)
 have q2:=hr.2.1 _ _ (AT q1)
 have q3:k % s<(rows[k / s]).length:=by rw[q2];exact Nat.mod_lt _ hs
 obtain⟨c',q4,q5⟩:=hr.2.2 _ _ _ _ (AT q1) (AT q3)
 have q6:k / s*s+k % s=k:=by rw[YC];exact Yt _ _
 rw[q6]at q4
 have q7:(rows[k / s])[k % s].one=true:=by
  rw[WI]at hone
  have:=hone _ (Xi q1)
  simp_all
 have q8:=(q5.one q7).1
 simp_all
def qW (h:Rel G X w0 I ρ M w){nm lo n:Nat}{t t2 ty:TypeId}{x:V}{A:Option Addr}{c:Nat}{cx:Value}(hform:(A=none\/n=0) \/ ∃ l,ρ nm=some l/\lo+c<=l.tot/\n<=c/\A=some ⟨l.b,l.o+lo*l.sz,none⟩)(hA:A=none->n=0)(hx:Is ρ (bV X ρ M) w x cx){zc:List V}{bytes:Nat}(hel:cR P t=some (zc,bytes))(hs1:fx M zc.length x)
  (hc:iM M nm=true) (hsz:eT M nm=zc.length) (hle:lo+n<=(bD M nm).length) (hone:(((aJ M x).take (jz M (.own nm lo n) x)).all fun r=>r.all V.one)=true) :
  ∃ w',(Builtin.copy_ #[t,t2] ty #[.slice A n c,cx]).run P w = .ok (.int .i64 (jz M (.own nm lo n) x:Nat)) w'/\Rel G X w0 I ρ (M.put nm (some (qV M nm lo (.own nm lo n) x))) w'/\Moves ρ M w ρ (M.put nm (some (qV M nm lo (.own nm lo n) x))) w':=by
 obtain⟨e,i,z,hu,hi,hz,hzs,hpos,hzc,hzl,hbi⟩:=gc hel
 rw[hzl]at hs1 hsz
 obtain⟨xl,xk⟩:=oL (P:=P) h hpos hx hs1
 obtain⟨k,hk,hob⟩:=pL hc
 have hro:bD M nm=k.rows:=by rw[bD,hk]
 have hks:k.sz=i.size:=by simp_all[eT]
 rw[hro]at hle
 obtain⟨arr,af,as,ar⟩:=xk (jz M (.own nm lo n) x) (Nat.min_le_left _ _)
 have hcl:jz M (.own nm lo n) x=min (aJ M x).length n:=rfl
 have hK:qV M nm lo (.own nm lo n) x = @Blk.mk k.sz (bw k.rows lo ((aJ M x).take (jz M (.own nm lo n) x))) k.ob:=by
  simp_all[qV]
 rw[hK]
 generalize hm:jz M (.own nm lo n) x=m at *
 have hmn:m<=n:=Y6
 have htl:((aJ M x).take m).length=m:=by simp;omega
 by_cases hm0:m=0
 ·-- nothing
  have harr:arr = #[]:=by grind
  subst harr
  have hrun:=wQ (P:=P) (t2:=t2) (ty:=ty) hu hi (A:=A) (n:=n) (c:=c) xl (by rw[<- hcl];exact af) (w':=w) (fun a _=>by rfl) (fun _=>rfl)
  have hsame:(some (@Blk.mk k.sz (bw k.rows lo ((aJ M x).take m)) k.ob))=M nm:=by
   rw[hk]
   congr 1
   obtain⟨sz,rows,ob⟩:=k
   simp[bw,hm0]
  have hput:M.put nm (some (@Blk.mk k.sz (bw k.rows lo ((aJ M x).take m)) k.ob))=M:=by
   grind[ah.put]
  rw[hput]
  refine⟨w,?_,h,.refl _ _ _⟩
  grind
 ·rcases hform with (hA0|hn0)|⟨l,hl,hlc,hnc,rfl⟩
  ·simp_all
  ·omega
  ·rcases h.live nm k hk with ⟨a1,a2⟩|⟨l2,a1,a2,a3,⟨cs,e2,aok,a4,a5,a6,a7,a8,a9⟩|⟨_,_,_,_,_,_,hch,_⟩⟩
   ·simp_all
   rotate_right
   ·simp_all
   rw[hl]at a1;cases a1
   have hls:l.sz=i.size:=Y6
   have hfit:l.o+lo*l.sz+arr.size<=cs.size:=by
    have q1:(lo+m)*l.sz<=l.tot*l.sz:=WX _ Y6
    grind
   have hcell1:=Q9 (ρ:=ρ) (D:=bV X ρ M) (w:=w) hpos (by rw[as,htl]) ar hone
   have hst:=gB P l.b (l.o+lo*l.sz) e2 _ arr.toList 0 cs w a4 (fun p hp=>l.free (by
    have q1:(lo+m)*l.sz<=l.tot*l.sz:=WX _ Y6
    grind)) Y6 hcell1
   have hrun:=wQ (P:=P) (t2:=t2) (ty:=ty) hu hi (A:=some ⟨l.b,l.o+lo*l.sz,none⟩) (n:=n) (c:=c) xl (by rw[<- hcl];exact af) (fun a ha=>by cases ha;exact hst) (fun ha=>by cases ha)
   refine⟨_,by rw[hrun,<- hcl],?_⟩
   have hspl:lo+((aJ M x).take m).length<=k.rows.length:=Y6
   have hget:∀ q,(cs.toList.take (l.o+lo*l.sz+0)++arr.toList++cs.toList.drop (l.o+lo*l.sz+0+arr.toList.length)).toArray[q]? = if q<l.o+lo*l.sz then cs[q]? else if q<l.o+lo*l.sz+arr.size then arr[q-(l.o+lo*l.sz)]? else cs[q]?:=by
    intro q
    have:=cV (row:=cs.toList) (j:=l.o+lo*l.sz) (cs:=arr.toList) Y6 q
    simp_all[bw]
   refine Rel.write h hk hl ZH rfl rfl rfl (fun b hb=>setRow_other _ _ _ _ hb) (setRow_heap w l.b cs _ e2 _ a4) a5 (by simp_all[fh]) ?_ ?_ ?_ aok
   ·grind
   ·intro i' row hi'
    rw[cV hspl]at hi'
    split at hi'
    ·grind
    ·split at hi'
     ·rw[hls];exact ar.2.1 _ row hi'
     grind
   ·intro i' j' row u hi' hj'
    rw[hget]
    rw[cV hspl,htl]at hi'
    by_cases q1:i'<lo
    ·rw[if_pos q1]at hi'
     have hj2:j'<l.sz:=by grind
     have:=sZ q1 hj2
     grind
    ·rw[if_neg q1]at hi'
     by_cases q2:i'<lo+m
     ·rw[if_pos q2]at hi'
      have hj2:j'<i.size:=by rw[<- ar.2.1 _ row hi'];grind
      obtain⟨cv,c1,c2⟩:=ar.2.2 _ j' row u hi' hj'
      have hi2:i'-lo<m:=Y6
      have q3:=sZ hi2 hj2
      have q4:i'*i.size=lo*i.size+(i'-lo)*i.size:=by rw[<- Nat.add_mul];congr 1;omega
      rw[hls]
      rw[if_neg Y6,if_pos (by rw[as];omega)]
      refine⟨cv,?_,c2⟩
      rw[<- c1];congr 1;omega
     ·rw[if_neg q2]at hi'
      have q3:(lo+m)*l.sz<=i'*l.sz:=WX _ Y6
      grind
def EU (h:Rel G X w0 I ρ M w){t t2 ty:TypeId}{d x:V}{cd cx:Value}(hd:Is ρ (bV X ρ M) w d cd)(hx:Is ρ (bV X ρ M) w x cx)(hok:nT P t M d x) :
  ∃ w',(Builtin.copy_ #[t,t2] ty #[cd,cx]).run P w = .ok (.int .i64 (jz M d x:Nat)) w'/\Rel G X w0 I ρ (M.app (nz M d x)) w'/\Moves ρ M w ρ (M.app (nz M d x)) w':=by
 unfold nT at hok
 cases hel:cR P t with
 | none=>simp_all
 | some y =>
  obtain⟨zc,bytes⟩:=y
  rw[hel]at hok
  obtain⟨hs1,hok⟩:=hok
  cases d<;>simp only[jr]at hok<;>try (exact hok.elim)
  case nils =>
   cases hd
   obtain⟨e,i,z,hu,hi,hz,hzs,hpos,hzc,hzl,hbi⟩:=gc hel
   rw[hzl]at hs1
   obtain⟨xl,xk⟩:=oL (P:=P) h hpos hx hs1
   obtain⟨arr,af,as,ar⟩:=xk (min (aJ M x).length 0) (Nat.min_le_left _ _)
   have hrun:=wQ (P:=P) (t2:=t2) (ty:=ty) hu hi (A:=none) (n:=0) (c:=0) xl af (w':=w) (fun a ha=>by cases ha) (fun _=>rfl)
   exact⟨w,by rw[hrun];rfl,h,.refl _ _ _⟩
  case own nm lo n =>
   obtain⟨h1,h2,h3,h4⟩:=hok
   cases hd with
   | own0=>exact qW h (.inl (.inr rfl)) (fun _=>rfl) hx hel hs1 h1 h2 h3 h4
   | own hl hlc hnc=>exact qW h (.inr ⟨_,hl,hlc,hnc,rfl⟩) (fun hA=>by cases hA) hx hel hs1 h1 h2 h3 h4
  case ownc nm lo n c =>
   obtain⟨h1,h2,h3,h4⟩:=hok
   cases hd with
   | ownc0=>exact qW (nm:=nm) (lo:=lo) h (.inl (.inr rfl)) (fun _=>rfl) hx hel hs1 h1 h2 h3 h4
   | ownc hl hlc hnc=>exact qW (nm:=nm) (lo:=lo) h (.inr ⟨_,hl,hlc,hnc,rfl⟩) (fun hA=>by cases hA) hx hel hs1 h1 h2 h3 h4
def Ao:V->Nat
 | .ownc _ _ _ c=>c
 | .sl true _ rows=>rows.length
 | _=>0
def tc (P:Program)(t:TypeId):Bool:=match P.underlying t with|some (.slice _)=>true|_=>false
def oK {t:TypeId}(h:tc P t=true):∃ e,P.underlying t=some (.slice e):=by
 unfold tc at h
 grind
def tB (P:Program)(t:TypeId):V->Prop
 | .ownc _ _ _ _=>tc P t=true
 | .sl true _ _=>tc P t=true
 | .nils=>tc P t=true
 | _=>False
def Ig {t ty:TypeId}{x:V}{cx:Value}(hx:Is ρ D w x cx)(hok:tB P t x):(Builtin.cap_ #[t] ty #[cx]).run P w = .ok (.int .i64 (Ao x)) w:=by
 cases x<;>simp only[tB]at hok<;>try (exact hok.elim)
 case nils=>obtain⟨e,hu⟩:=oK hok;cases hx;simp[Builtin.cap_,run_underlying hu,goInt,Ao]
 case ownc nm lo n c=>obtain⟨e,hu⟩:=oK hok;cases hx<;>simp[Builtin.cap_,run_underlying hu,goInt,Ao]
 case sl tt sz rows =>
  cases tt<;>simp only[tB]at hok
  ·obtain⟨e,hu⟩:=oK hok
   cases hx with
   | sl0 ht=>simp_all[Builtin.cap_,run_underlying,goInt,Ao]
   | sl cv hc ht=>simp_all[Builtin.cap_,run_underlying,goInt,Ao]
def intKind (P:Program)(t:TypeId):Bool:=match P.underlying t with|some (.int _)=>true|_=>false
def oS (P:Program)(t:TypeId)(M:ah)(s:V)(m:Nat):Blk:=match cR P t with
 | some (zc,_)=>⟨zc.length,aJ M s++List.replicate m zc⟩
 | none=>⟨0,[]⟩
def pA (P:Program)(t t2:TypeId)(M:ah)(s:V)(m:Int):Prop:=intKind P t2=true/\0<m/\match cR P t,s with
 | some (zc,bytes),.ownc nm lo n c=>fx M zc.length s/\c<n+m.toNat/\n+m.toNat<=maxLen/\(n+m.toNat)*bytes<=140737488355328
 | _,_=>False
def Ld {z:Value}{s n:Nat}(hz:z.cells.size=s)(hs:0<s):cY ρ D w s (List.replicate n (z.cells.toList.map nI)) (Builtin.zeroCells z.cells n)/\(Builtin.zeroCells z.cells n).size=n*s:=by
 have h1:(Builtin.zeroCells z.cells n).size=n*s:=by simp[Builtin.zeroCells,hz]
 refine⟨xC hz hs rfl n _ h1 (fun k hk=>?_),h1⟩
 simp_all[Builtin.zeroCells]
def Em (h:Rel G X w0 I ρ M w){nm:Nat}(hM:M nm=none)(hρ:ρ nm=none){t t2 ty:TypeId}{s:V}{k:IntKind}{m:Int}{cs:Value}(hs:Is ρ (bV X ρ M) w s cs)(hok:pA P t t2 M s m) :
  ∃ c w',(Builtin.append_ #[t,t2] ty #[cs,.int k m]).run P w = .ok c w'/\db G X w0 I ρ M w nm (.own nm 0 ((aJ M s).length+m.toNat)) (M.put nm (some (oS P t M s m.toNat))) c w':=by
 obtain⟨hk,hm,hok⟩:=hok
 cases hel:cR P t with
 | none=>simp_all
 | some y =>
  obtain⟨zc,bytes⟩:=y
  rw[hel]at hok
  cases s<;>simp only at hok<;>try (exact hok.elim)
  rename_i ns lo n c
  obtain⟨hs1,hroom,h63,hbytes⟩:=hok
  obtain⟨e,i,z,hu,hi,hz,hzs,hpos,hzc,hzl,hbi⟩:=gc hel
  subst hbi
  rw[hzl]at hs1
  have hlen:(aJ M (.ownc ns lo n c)).length=n:=by
   have:=hs1.2.2
   grind[aJ]
  obtain⟨kn,hkn⟩:∃ kn,P.underlying t2=some (.int kn):=by
   unfold intKind at hk
   grind
  obtain⟨m',rfl⟩:∃ m':Nat,m=m':=⟨m.toNat,by omega⟩
  simp only[Int.toNat_natCast]at *
  obtain⟨A,rfl,hcn⟩:∃ A,cs = .slice A n c/\n<=c:=by
   cases hs with
   | ownc0=>simp_all
   | ownc _ _ hc _=>simp_all
  obtain⟨d1,d2⟩:=h.draw (w.drawn+1)
  have hs':=d2.is hs
  obtain⟨ol,oarr,of',os,or'⟩:=mL (P:=P) d1 hpos hs' hs1
  rw[hlen]at of' os
  have hfit:=growslice_fits (old:=c) (need:=n+m') (bytes:=i.bytes) hroom hbytes
  have h63':n+m'<=9223372036854775807:=by simp_all[maxLen]
  have hmb:m'*i.bytes<=(n+m')*i.bytes:=WX _ Y6
  have hrun:=Lib.run_append_grow_zeros (P:=P) w t t2 ty e i z k kn hu hkn hi hz A n c oarr.toList (by simp_all) m' Y6 hpos hroom Y6 Y6 Y6
  have hge:=grownCap_ge w (n+m') c e
  obtain⟨zr,zs⟩:=Ld (ρ:=ρ) (D:=bV X ρ M) (w:={ w with drawn:=w.drawn+1 }) (z:=z) (n:=m') hzs hpos
  have hrows:=((or'.append zr (by rw[os,hlen])).more (c2:=Builtin.zeroCells z.cells (grownCap w (n+m') c e-(n+m'))))
  rw[<- hzc]at hrows
  obtain⟨r1,r2⟩:=d1.alloc hM hρ (oarr++Builtin.zeroCells z.cells m'++Builtin.zeroCells z.cells (grownCap w (n+m') c e-(n+m'))) e ⟨i.size,aJ M (.ownc ns lo n c)++List.replicate m' zc⟩ (grownCap w (n+m') c e)
   (by simp_all) (by
    simp only[Array.size_append,size_zeroCells,os,hzs,<- Nat.add_mul]
    simp_all) hrows.2.1 hrows.2.2
  have hK:oS P t M (.ownc ns lo n c) m'=⟨i.size,aJ M (.ownc ns lo n c)++List.replicate m' zc⟩:=by simp_all[oS]
  rw[hK,hlen]
  refine⟨_,_,hrun,_,r1,d2.trans r2,?_,fun y hy=>Names.put_ne _ _ hy⟩
  have:=Is.own (ρ:=ρ.put nm ⟨w.heap.size,0,i.size,grownCap w (n+m') c e⟩) (D:=bV X (ρ.put nm ⟨w.heap.size,0,i.size,grownCap w (n+m') c e⟩) (M.put nm (some ⟨i.size,aJ M (.ownc ns lo n c)++List.replicate m' zc⟩)))
   (w:=w.drew.alloc (.cells (oarr++Builtin.zeroCells z.cells m'++Builtin.zeroCells z.cells (grownCap w (n+m') c e-(n+m'))) e)) (nm:=nm) (lo:=0) (n:=n+m') (c:=grownCap w (n+m') c e) (Names.put_same _ _ _) ZH hge
  simp_all
end
end Go.Proofs.YtgboofebldgdjaaGreatDoor.Vm
