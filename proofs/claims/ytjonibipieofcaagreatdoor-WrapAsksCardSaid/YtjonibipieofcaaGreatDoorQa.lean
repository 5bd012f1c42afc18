/-
 Texts joined: XVa,XVb,XVc,XVd,XVe,XVf,XVg,XVh,XVi,XVj,XVk,XVE.
-/
import Derived.WalkKit
import Derived.Below
import Derived.Orders
import Derived.Deep.LoopGhost
import Derived.Laws.CopyRow
import Derived.Deep.MidRow
import Derived.Laws.Tables
import Derived.Laws.Cells
import Derived.Laws.Concat
import Derived.Laws.Strings
import Derived.Laws.Cover1
import Derived.Laws.StructEq
import Derived.WalkSpells
import Derived.LaidEql
import Derived.Great.FillDense
import Derived.Laws.Append
import Derived.Great.BuildSlice
import Derived.Laws.AppendOwn
import Derived.Lib.AppendZerosOnto
set_option linter.all false
namespace Go.Proofs.YtjonibipieofcaaGreatDoor.Vm
open Go Go.RowKit
inductive V where
 | any
 | bool (b:Bool)
 | bit (t f:Bool)
 | int (k:IntKind) (n:Int)
 | str (s:List UInt8)
 | nilp
 | upt
 | ys (L s:Nat) (rows:List (List V))
 | ptr (nm i j:Nat)
 | rp (cells:List V)
 | nils
 | sl (tight:Bool) (sz:Nat) (rows:List (List V))
 | own (nm lo n:Nat)
 | ownc (nm lo n c:Nat)
 | chan (nm:Nat)
 | mp (nm:Nat)
 | fn (f:Nat) (caps:List V)
 | fnb (f:Nat) (first:List V)
 | iface (t:TypeId) (v:V)
 | agg (cells:List V)
 | tup (vs:List V)
 | gd (b:Bool) (v:V)
 | val (v:Value)
 deriving Inhabited
class Fz where
 n:Nat
instance instFz:Fz:=⟨0⟩
structure Loc where
 b:Nat
 o:Nat
 sz:Nat
 tot:Nat
 [fz:Fz]
def Loc.frz (l:Loc):Nat×Nat:=if l.fz.n=0 then (0,0) else (l.o+l.tot*l.sz+(l.fz.n-1),l.o+l.tot*l.sz+l.fz.n)
def Loc.free (l:Loc){p:Nat}(h:p<l.o+l.tot*l.sz):¬(l.frz.1<=p/\p<l.frz.2):=by
 unfold Loc.frz
 split
 ·simp
 ·simp only;omega
inductive Is (ρ:Nat->Option Loc) (D:Nat->Prop) (w:World):V->Value->Prop
 | any (cv:Value):Is ρ D w .any cv
 | bool (b:Bool):Is ρ D w (.bool b) (.bool b)
 | bit {t f:Bool} (b:Bool) (ht:b=true->t=true) (hf:b=false->f=true):Is ρ D w (.bit t f) (.bool b)
 | int (k:IntKind) (n:Int):Is ρ D w (.int k n) (.int k n)
 | str (s:List UInt8):Is ρ D w (.str s) (.string ⟨s.toArray⟩)
 | nilp:Is ρ D w .nilp (.pointer none)
 | upt (p:Option Addr):Is ρ D w .upt (.pointer p)
 | ptr {nm i j:Nat} {l:Loc} (h:ρ nm=some l):Is ρ D w (.ptr nm i j) (.pointer (some ⟨l.b,l.o+i*l.sz+j,none⟩))
 | rp {cells:List V} {b o:Nat} (cv:Nat->Value) (hD:¬ D b) (hb:b<w.heap.size) (hc:∀(j:Nat) (u:V),cells[j]? = some u->w.cell? ⟨b,o+j,none⟩=some (cv j))
   (hu:∀(j:Nat) (u:V),cells[j]? = some u->Is ρ D w u (cv j)):Is ρ D w (.rp cells) (.pointer (some ⟨b,o,none⟩))
 | nils:Is ρ D w .nils (.slice none 0 0)
 | sl0 {t:Bool} {sz:Nat} {A:Option Addr} {c:Nat} (ht:t=true->c=0):Is ρ D w (.sl t sz []) (.slice A 0 c)
 | sl {t:Bool} {sz:Nat} {rows:List (List V)} {b o c:Nat} (cv:Nat->Nat->Value) (hc:rows.length<=c) (ht:t=true->c=rows.length) (hD:¬ D b) (hb:b<w.heap.size)
   (hr:∀(i:Nat) (row:List V),rows[i]? = some row->row.length=sz)
   (hx:∀(i j:Nat) (row:List V) (u:V),rows[i]? = some row->row[j]? = some u->w.cell? ⟨b,o+i*sz+j,none⟩=some (cv i j))
   (hu:∀(i j:Nat) (row:List V) (u:V),rows[i]? = some row->row[j]? = some u->Is ρ D w u (cv i j)):Is ρ D w (.sl t sz rows) (.slice (some ⟨b,o,none⟩) rows.length c)
 | ys0 {L sz:Nat} {A:Option Addr} {c:Nat} : Is ρ D w (.ys L sz []) (.slice A 0 c)
 | ys {L sz:Nat} {rows:List (List V)} {b o c:Nat} (cv:Nat->Nat->Value) (hc:rows.length<=c) (hL:L<=b) (hD:¬ D b) (hb:b<w.heap.size)
   (hf:∃ cs t fz,w.heap[b]? = some (.cells cs t fz) /\ ∀ p,p<o+rows.length*sz -> ¬(fz.1<=p/\p<fz.2))
   (hr:∀(i:Nat) (row:List V),rows[i]? = some row->row.length=sz)
   (hx:∀(i j:Nat) (row:List V) (u:V),rows[i]? = some row->row[j]? = some u->w.cell? ⟨b,o+i*sz+j,none⟩=some (cv i j))
   (hu:∀(i j:Nat) (row:List V) (u:V),rows[i]? = some row->row[j]? = some u->Is ρ D w u (cv i j)):Is ρ D w (.ys L sz rows) (.slice (some ⟨b,o,none⟩) rows.length c)
 | own0 {nm lo:Nat} {A:Option Addr} : Is ρ D w (.own nm lo 0) (.slice A 0 0)
 | own {nm lo n c:Nat} {l:Loc} (h:ρ nm=some l) (hl:lo+c<=l.tot) (hc:n<=c):Is ρ D w (.own nm lo n) (.slice (some ⟨l.b,l.o+lo*l.sz,none⟩) n c)
 | ownc0 {nm lo:Nat} {A:Option Addr} : Is ρ D w (.ownc nm lo 0 0) (.slice A 0 0)
 | ownc {nm lo n c:Nat} {l:Loc} (h:ρ nm=some l) (hl:lo+c<=l.tot) (hc:n<=c) (hp:0<c):Is ρ D w (.ownc nm lo n c) (.slice (some ⟨l.b,l.o+lo*l.sz,none⟩) n c)
 | chan {nm:Nat} {l:Loc} (h:ρ nm=some l):Is ρ D w (.chan nm) (.chan (some l.b))
 | fn {f:Nat} {caps:List V} {cvs:Array Value} (hn:caps.length=cvs.size) (hu:∀(i:Nat) (u:V) (cv:Value),caps[i]? = some u->cvs[i]? = some cv->Is ρ D w u cv):Is ρ D w (.fn f caps) (.func (.func f) #[] cvs)
 | mp {nm:Nat} {l:Loc} (h:ρ nm=some l):Is ρ D w (.mp nm) (.map (some l.b))
 | fnb {f:Nat} {first:List V} {cvs:Array Value} (hn:first.length=cvs.size) (hu:∀(i:Nat) (u:V) (cv:Value),first[i]? = some u->cvs[i]? = some cv->Is ρ D w u cv):Is ρ D w (.fnb f first) (.func (.func f) cvs #[])
 | iface {t:TypeId} {v:V} {cv:Value} (h:Is ρ D w v cv):Is ρ D w (.iface t v) (.iface t cv)
 | agg {cells:List V} {cvs:Array Value} (hn:cells.length=cvs.size) (hu:∀(i:Nat) (u:V) (cv:Value),cells[i]? = some u->cvs[i]? = some cv->Is ρ D w u cv):Is ρ D w (.agg cells) (.agg cvs)
 | tup {cells:List V} {cvs:Array Value} (hn:cells.length=cvs.size) (hu:∀(i:Nat) (u:V) (cv:Value),cells[i]? = some u->cvs[i]? = some cv->Is ρ D w u cv):Is ρ D w (.tup cells) (.tuple cvs)
 | gd {b:Bool} {v:V} {cv:Value} (h:b=true->Is ρ D w v cv) (h0:b=false->cv=undef):Is ρ D w (.gd b v) cv
 | val (v:Value):Is ρ D w (.val v) v
def Is.step {ρ ρ':Nat->Option Loc}{D D':Nat->Prop}{w w':World}(hρ:∀ nm l,ρ nm=some l->ρ' nm=some l)(hs:w.heap.size<=w'.heap.size)
  (hk:∀ b,b<w.heap.size -> ¬ D b->w'.heap[b]? = w.heap[b]?) (hD:∀ b,b<w.heap.size->D' b->D b) {v:V} {cv:Value} (h:Is ρ D w v cv):Is ρ' D' w' v cv:=by
 induction h with
 | any cv=>exact .any _
 | bool b=>exact .bool _
 | bit b ht hf=>exact .bit b ht hf
 | int k n=>exact .int _ _
 | str s=>exact .str _
 | nilp=>exact .nilp
 | upt p=>exact .upt p
 | ys0=>exact .ys0
 | ys cv hc hL hd hb hf hr hx _ ih=>exact .ys cv hc hL (fun h=>hd (hD _ hb h)) (Nat.lt_of_lt_of_le hb hs) (by rw[hk _ hb hd];exact hf) hr (fun i j row u hi hj=>(World.cell?_of_block (w:=w) (hk _ hb hd)).trans (hx i j row u hi hj)) ih
 | ptr h=>exact .ptr (hρ _ _ h)
 | rp cv hd hb hc _ ih=>exact .rp cv (fun h=>hd (hD _ hb h)) (Nat.lt_of_lt_of_le hb hs) (fun j u hj=>(World.cell?_of_block (w:=w) (hk _ hb hd)).trans (hc j u hj)) ih
 | nils=>exact .nils
 | sl0 ht=>exact .sl0 ht
 | sl cv hc ht hd hb hr hx _ ih=>exact .sl cv hc ht (fun h=>hd (hD _ hb h)) (Nat.lt_of_lt_of_le hb hs) hr (fun i j row u hi hj=>(World.cell?_of_block (w:=w) (hk _ hb hd)).trans (hx i j row u hi hj)) ih
 | own0=>exact .own0
 | own h hl hc=>exact .own (hρ _ _ h) hl hc
 | ownc0=>exact .ownc0
 | ownc h hl hc hp=>exact .ownc (hρ _ _ h) hl hc hp
 | chan h=>exact .chan (hρ _ _ h)
 | mp h=>exact .mp (hρ _ _ h)
 | fn hn _ ih=>exact .fn hn ih
 | fnb hn _ ih=>exact .fnb hn ih
 | iface _ ih=>exact .iface ih
 | agg hn _ ih=>exact .agg hn ih
 | tup hn _ ih=>exact .tup hn ih
 | gd _ h0 ih=>exact .gd ih h0
 | val v=>exact .val _
class inductive Ob where
 | cells
 | typed (t:TypeId)
 | chan (cap:Nat) (closed:Bool) (msgs:List V)
 | obj (o:Obj)
instance instCells:Ob:=.cells
def Ob.isCells:Ob->Bool
 | .cells=>true
 | _=>false
def Ob.isCells_eq {o:Ob}(h:o.isCells=true):o = .cells:=by
 cases o<;>first|rfl|(simp[Ob.isCells]at h;done)
def Ob.isRow:Ob->Bool
 | .cells | .typed _=>true
 | _=>false
def Ob.okCells:Ob->TypeId->Loc->Prop
 | .cells,_,_=>True
 | .typed t,e,l=>e=t/\l.o=0
 | _,_,_=>False
def oC:Ob.isCells instCells=true:=rfl
structure Blk where
 sz:Nat
 rows:List (List V)
 [ob:Ob]
abbrev ao:=Nat->Option Blk
abbrev Names:=Nat->Option Loc
def qF (o:Option TypeId)(s:Nat)(r:List (List V)):Blk:=match o with
 | some e=>@Blk.mk s r (.typed e)
 | none=>⟨s,r⟩
def CN (s:Nat)(r:List (List V)):qF none s r=⟨s,r⟩:=rfl
def pj (e:TypeId)(s:Nat)(r:List (List V)):qF (some e) s r = @Blk.mk s r (.typed e):=rfl
def ix (o:Option TypeId)(s:Nat)(r:List (List V)):(qF o s r).sz=s:=by cases o<;>rfl
def ej (o:Option TypeId)(s:Nat)(r:List (List V)):(qF o s r).rows=r:=by cases o<;>rfl
def vL {o:Option TypeId}{s:Nat}{r:List (List V)}{e:TypeId}{l:Loc}(h:∀ t,o=some t->e=t/\l.o=0):(qF o s r).ob.okCells e l:=by
 cases o with
 | none=>trivial
 | some t=>exact h t rfl
def bP (X:Nat->Prop)(ρ:Names)(M:ao)(b:Nat):Prop:=X b \/ ∃ nm l,(M nm).isSome=true/\ρ nm=some l/\l.b=b
def BI (ρ:Names)(D:Nat->Prop)(w:World)(l:Loc)(k:Blk):Prop :=
 ∃ cs e,k.ob.okCells e l/\w.heap[l.b]? = some (.cells cs e l.frz)/\k.sz=l.sz/\k.rows.length<=l.tot/\l.o+l.tot*l.sz<=cs.size/\(∀(i:Nat) (row:List V),k.rows[i]? = some row->row.length=l.sz) /\
  ∀(i j:Nat) (row:List V) (u:V),k.rows[i]? = some row->row[j]? = some u -> ∃ cv,cs[l.o+i*l.sz+j]? = some cv/\Is ρ D w u cv
def Ob.lies (o:Obj)(ms:List V)(buf:Array Value)(off:Nat):Ob->Prop
 | .cells | .typed _=>False
 | .chan cap closed msgs=>msgs=ms /\ ∃ s r,o = .chan cap buf closed s r false
 | .obj x=>o=x/\ms=[]/\off=0
def Lw (ρ:Names)(D:Nat->Prop)(w:World)(l:Loc)(k:Blk):Prop :=
 ∃(o:Obj) (_u:Unit) (msgs:List V) (buf:Array Value) (_v _w:Unit),k.ob.lies o msgs buf l.o/\w.heap[l.b]? = some o/\k.sz=l.sz/\k.rows=[]/\l.tot=0/\buf.size=msgs.length /\ ∀(i:Nat) (u:V),msgs[i]? = some u -> ∃ cv,buf[i]? = some cv/\Is ρ D w u cv
def jC (ρ:Names)(D:Nat->Prop)(w:World)(l:Loc)(k:Blk):Prop:=BI ρ D w l k\/Lw ρ D w l k
def Blk.has (k:Blk)(u:V):Prop:=(∃(i j:Nat) (row:List V),k.rows[i]? = some row/\row[j]? = some u) \/ ∃ cap closed msgs,k.ob = .chan cap closed msgs/\u∈msgs
def jC.mono {ρ ρ':Nat->Option Loc}{D D':Nat->Prop}{w w':World}{l:Loc}{k:Blk}(h:jC ρ D w l k)(hw:w'.heap[l.b]? = w.heap[l.b]?)(hi:∀(u:V) (cv:Value),k.has u->Is ρ D w u cv->Is ρ' D' w' u cv):jC ρ' D' w' l k:=by
 rcases h with ⟨cs,e,h1,h2,h3,h4,h5,h6,h7⟩|⟨cap,closed,msgs,buf,s,r,h1,h2,h3,h4,h5,h6,h7⟩
 ·refine .inl ⟨cs,e,h1,hw.trans h2,h3,h4,h5,h6,fun i j row u hr hj=>?_⟩
  obtain⟨cv,c1,c2⟩:=h7 i j row u hr hj
  exact⟨cv,c1,hi u cv (.inl ⟨i,j,row,hr,hj⟩) c2⟩
 ·refine .inr ⟨cap,closed,msgs,buf,s,r,h1,hw.trans h2,h3,h4,h5,h6,fun i u hm=>?_⟩
  obtain⟨cv,c1,c2⟩:=h7 i u hm
  refine⟨cv,c1,hi u cv (.inr ?_) c2⟩
  cases hob:k.ob with
  | cells=>rw[hob]at h1;exact h1.elim
  | typed t=>rw[hob]at h1;exact h1.elim
  | chan cap closed ms=>rw[hob]at h1;exact⟨cap,closed,ms,rfl,by rw[h1.1];exact List.mem_of_getElem? hm⟩
  | obj x=>rw[hob]at h1;rw[h1.2.1]at hm;simp at hm
structure Rel (G:Nat->V) (X:Nat->Prop) (w0:World) (I:Nat->Prop) (ρ:Names) (M:ao) (w:World):Prop where
 size:w0.heap.size<=w.heap.size
 os:w.os=w0.os
 tape:w.tape=w0.tape
 output:w.output=w0.output
 old:∀ b,b<w0.heap.size -> ¬ I b->w.heap[b]? = w0.heap[b]?
 live:∀ nm k,M nm=some k->(k.rows=[]/\ρ nm=none) \/ ∃ l,ρ nm=some l/\(I l.b\/w0.heap.size<=l.b) /\ ¬ X l.b/\jC ρ (bP X ρ M) w l k
 inj:∀ nm nm' l l',(M nm).isSome=true->(M nm').isSome=true->ρ nm=some l->ρ nm'=some l'->l.b=l'.b->nm=nm'
 hX:∀ b,X b->b<w0.heap.size /\ ¬ I b
 glob:∀ g,Is ρ (bP X ρ M) w (G g) (.pointer (some ⟨g,0,none⟩))
def iV {w:World}{b:Nat}{o:Obj}(h:w.heap[b]? = some o):b<w.heap.size:=by
 rcases Nat.lt_or_ge b w.heap.size with h'|h'
 ·exact h'
 ·simp[Array.getElem?_eq_none h']at h
structure Moves (ρ:Names) (M:ao) (w:World) (ρ':Names) (M':ao) (w':World):Prop where
 names:∀ nm l,ρ nm=some l->ρ' nm=some l
 size:w.heap.size<=w'.heap.size
 os:w'.os=w.os
 tape:w'.tape=w.tape
 output:w'.output=w.output
 kept:∀ b,b<w.heap.size->(∀ nm l,(M nm).isSome=true->ρ nm=some l->l.b≠b)->w'.heap[b]? = w.heap[b]?
 dom:∀ nm l,(M' nm).isSome=true->ρ' nm=some l->l.b<w.heap.size -> ∃ nm' l',(M nm').isSome=true/\ρ nm'=some l'/\l'.b=l.b
section
variable {G:Nat->V} {X:Nat->Prop} {w0:World} {I:Nat->Prop} {ρ ρ':Names} {M M':ao} {w w':World}
def Moves.is (m:Moves ρ M w ρ' M' w'){v:V}{cv:Value}(h:Is ρ (bP X ρ M) w v cv):Is ρ' (bP X ρ' M') w' v cv:=by
 refine h.step m.names m.size (fun b hb hd=>m.kept b hb (fun nm l h1 h2 h3=>hd (.inr ⟨nm,l,h1,h2,h3⟩))) ?_
 rintro b hb (hx|⟨nm,l,h1,h2,h3⟩)
 ·exact .inl hx
 ·subst h3
  obtain⟨nm',l',k1,k2,k3⟩:=m.dom nm l h1 h2 hb
  exact .inr ⟨nm',l',k1,k2,k3⟩
def Rel.move (h:Rel G X w0 I ρ M w)(m:Moves ρ M w ρ' M' w')
    (hinj:∀ nm nm' l l',(M' nm).isSome=true->(M' nm').isSome=true->ρ' nm=some l->ρ' nm'=some l'->l.b=l'.b->nm=nm')
    (hl:∀ nm k,M' nm=some k->(M nm=some k/\(ρ nm=none->ρ' nm=none) /\ ∀ l,ρ nm=some l->w'.heap[l.b]? = w.heap[l.b]?)\/(k.rows=[]/\ρ' nm=none) \/
      ∃ l,ρ' nm=some l/\(I l.b\/w0.heap.size<=l.b) /\ ¬ X l.b/\jC ρ' (bP X ρ' M') w' l k):Rel G X w0 I ρ' M' w' where
  size:=Nat.le_trans h.size m.size
  os:=m.os.trans h.os
  tape:=m.tape.trans h.tape
  output:=m.output.trans h.output
  old:=fun b hb hI=>by
    rw[m.kept b (Nat.lt_of_lt_of_le hb h.size),h.old b hb hI]
    rintro nm l h1 h2 rfl
    obtain⟨k,hk⟩:=Option.isSome_iff_exists.1 h1
    rcases h.live nm k hk with ⟨_,h3⟩|⟨l',h3,h4,_⟩
    · rw[h2]at h3;cases h3
    · rw[h2]at h3;cases h3
      rcases h4 with h4|h4
      · exact hI h4
      · omega
  live:=fun nm k hk=>by
    rcases hl nm k hk with ⟨h1,h2,h3⟩|h1|h1
    · rcases h.live nm k h1 with ⟨h4,h5⟩|⟨l,h4,h5,h6,⟨cs,e,hob,h7,h8,h9,h10,h11,h12⟩|⟨cap,closed,msgs,buf,s,r,h7,h8,h9,h10,h10',h11,h12⟩⟩
      · exact .inl ⟨h4,h2 h5⟩
      · refine .inr ⟨l,m.names _ _ h4,h5,h6,.inl ⟨cs,e,hob,(h3 l h4).trans h7,h8,h9,h10,h11,fun i j row u hi hj=>?_⟩⟩
        obtain⟨cv,h13,h14⟩:=h12 i j row u hi hj
        exact⟨cv,h13,m.is h14⟩
      · refine .inr ⟨l,m.names _ _ h4,h5,h6,.inr ⟨cap,closed,msgs,buf,s,r,h7,(h3 l h4).trans h8,h9,h10,h10',h11,fun i u hi=>?_⟩⟩
        obtain⟨cv,h13,h14⟩:=h12 i u hi
        exact⟨cv,h13,m.is h14⟩
    · exact .inl h1
    · exact .inr h1
  inj:=hinj
  hX:=h.hX
  glob:=fun g=>m.is (h.glob g)
def Rel.drop (h:Rel G X w0 I ρ M w)(hM:∀ nm k,M' nm=some k->M nm=some k):Rel G X w0 I ρ M' w/\Moves ρ M w ρ M' w:=by
 have hs:∀ nm,(M' nm).isSome=true->(M nm).isSome=true:=fun nm hn=>by
  obtain⟨k,hk⟩:=Option.isSome_iff_exists.1 hn
  rw[hM nm k hk];rfl
 have m:Moves ρ M w ρ M' w:=⟨fun _ _ h=>h,Nat.le_refl _,rfl,rfl,rfl,fun _ _ _=>rfl,fun nm l h1 h2 _=>⟨nm,l,hs nm h1,h2,rfl⟩⟩
 exact⟨h.move m (fun nm nm' l l' h1 h2 h3 h4 h5=>h.inj nm nm' l l' (hs _ h1) (hs _ h2) h3 h4 h5) (fun nm k hk=>.inl ⟨hM nm k hk,id,fun _ _=>rfl⟩),m⟩
def Rel.draw (h:Rel G X w0 I ρ M w)(n:Nat):Rel G X w0 I ρ M { w with drawn:=n } /\ Moves ρ M w ρ M { w with drawn:=n }:=by
 have m:Moves ρ M w ρ M { w with drawn:=n }:=⟨fun _ _ h=>h,Nat.le_refl _,rfl,rfl,rfl,fun _ _ _=>rfl,fun nm l h1 h2 _=>⟨nm,l,h1,h2,rfl⟩⟩
 exact⟨h.move m h.inj (fun nm k hk=>.inl ⟨hk,id,fun _ _=>rfl⟩),m⟩
end
def Moves.refl (ρ:Names)(M:ao)(w:World):Moves ρ M w ρ M w:=⟨fun _ _ h=>h,Nat.le_refl _,rfl,rfl,rfl,fun _ _ _=>rfl,fun nm l h1 h2 _=>⟨nm,l,h1,h2,rfl⟩⟩
def Moves.trans {ρ ρ' ρ'':Names}{M M' M'':ao}{w w' w'':World}(a:Moves ρ M w ρ' M' w')(b:Moves ρ' M' w' ρ'' M'' w''):Moves ρ M w ρ'' M'' w'' where
 names:=fun nm l h=>b.names _ _ (a.names _ _ h)
 size:=Nat.le_trans a.size b.size
 os:=b.os.trans a.os
 tape:=b.tape.trans a.tape
 output:=b.output.trans a.output
 kept:=fun k hk h=>by
  rw[b.kept k (Nat.lt_of_lt_of_le hk a.size),a.kept k hk h]
  rintro nm l h1 h2 rfl
  obtain⟨nm',l',k1,k2,k3⟩:=a.dom nm l h1 h2 hk
  exact h nm' l' k1 k2 k3
 dom:=fun nm l h1 h2 h3=>by
  obtain⟨nm',l',k1,k2,k3⟩:=b.dom nm l h1 h2 (Nat.lt_of_lt_of_le h3 a.size)
  obtain⟨n2,l2,j1,j2,j3⟩:=a.dom nm' l' k1 k2 (by rw[k3];exact h3)
  exact⟨n2,l2,j1,j2,j3.trans k3⟩
def ao.put (M:ao)(nm:Nat)(k:Option Blk):ao:=fun x=>if x=nm then k else M x
def ao.put_same (M:ao)(nm:Nat)(k:Option Blk):M.put nm k nm=k:=by simp[ao.put]
def ao.put_ne (M:ao){nm x:Nat}(k:Option Blk)(h:x≠nm):M.put nm k x=M x:=by simp[ao.put,h]
@[reducible] def fzTo (l:Loc) (lo c:Nat):Fz:=⟨if l.fz.n=0 then 0 else l.fz.n+(l.tot*l.sz-(lo*l.sz+c*l.sz))⟩
def O7 (n:Nat):@Fz.n ⟨n⟩=n:=rfl
def Mu {l:Loc}{lo c:Nat}(h:lo+c<=l.tot):(@Loc.mk l.b (l.o+lo*l.sz) l.sz c (fzTo l lo c)).frz=l.frz:=by
 have h2:(lo+c)*l.sz<=l.tot*l.sz:=Nat.mul_le_mul_right _ h
 rw[Nat.add_mul]at h2
 obtain @⟨b,o,sz,tot,@⟨n⟩⟩:=l
 unfold Loc.frz fzTo
 simp only[O7]at h h2 ⊢
 generalize tot*sz=T at *
 generalize lo*sz=A at *
 generalize c*sz=B at *
 by_cases h0:n=0
 ·simp only[if_pos h0,if_true]
 ·have h1:¬(n+(T-(A+B))=0):=by omega
  simp only[if_neg h0,if_neg h1,Prod.mk.injEq]
  omega
def eW (P:Program)(g o:Nat)(t:TypeId)(fz:Nat×Nat):∀(vs:List Value) (i:Nat) (cur:Array Value) (w:World),w.heap[g]? = some (.cells cur t fz)->(∀ p,p<o+i+vs.length -> ¬(fz.1<=p/\p<fz.2))->o+i+vs.length<=cur.size->(∀ v∈vs,v.oneCell'=true) ->
  (storeCells ⟨g,o,none⟩ vs i).run P w = .ok () (w.setRow g (cur.toList.take (o+i)++vs++cur.toList.drop (o+i+vs.length)).toArray)
 | [],i,cur,w,hg,_,_,_=>by
  simp only[storeCells,List.append_nil,List.length_nil,Nat.add_zero,List.take_append_drop,Array.toArray_toList]
  rw[setRow_self w g cur t fz hg]
  rfl
 | v::rest,i,cur,w,hg,hf,hl,h1=>by
  have hi:o+i<cur.size:=by simp at hl;omega
  have hadd:(⟨g,o,none⟩:Addr).add i=⟨g,o+i,none⟩:=by unfold Addr.add;split<;>simp_all
  have hcell:w.cell? ⟨g,o+i,none⟩=some cur[o+i]:=by simp[World.cell?,hg,hi]
  have hfro:w.frozen? ⟨g,o+i,none⟩=false:=by
   have:=hf (o+i) (by rw[List.length_cons];omega)
   obtain⟨f1,f2⟩:=fz
   simp only[World.frozen?,hg,Bool.and_eq_false_iff,decide_eq_false_iff_not]
   simp only at this
   omega
  have hst:(store ((⟨g,o,none⟩:Addr).add i) v).run P w = .ok () (w.setRow g (cur.setIfInBounds (o+i) v)):=by
   rw[hadd,run_store P w _ v _ (h1 v (by simp)),hcell]
   simp[hfro,setCell_eq_setRow w g (o+i) cur t fz v hg]
  have ih:=eW P g o t fz rest (i+1) (cur.setIfInBounds (o+i) v) (w.setRow g (cur.setIfInBounds (o+i) v)) (setRow_heap w g cur _ t _ hg) (fun p hp=>hf p (by simp at hp ⊢;omega)) (by simp at hl ⊢;omega) (fun x hx=>h1 x (by simp[hx]))
  simp only[storeCells,Sem.run_bind,hst,Result.andThen_ok,ih,setRow_setRow]
  congr 3
  have e:=list_seg_step cur.toList (o+i) v rest (by simp at hl ⊢;omega)
  simpa [Array.toList_setIfInBounds,Nat.add_assoc] using e
def Names.put (ρ:Names)(nm:Nat)(l:Loc):Names:=fun x=>if x=nm then some l else ρ x
def Names.put_same (ρ:Names)(nm:Nat)(l:Loc):ρ.put nm l nm=some l:=by simp[Names.put]
def Names.put_ne (ρ:Names){nm x:Nat}(l:Loc)(h:x≠nm):ρ.put nm l x=ρ x:=by simp[Names.put,h]
section
variable {G:Nat->V} {X:Nat->Prop} {w0:World} {I:Nat->Prop} {ρ:Names} {M:ao} {w w':World}
def Rel.write (h:Rel G X w0 I ρ M w){nm:Nat}{k k':Blk}{l:Loc}(hM:M nm=some k)(hl:ρ nm=some l)(hsz:w'.heap.size=w.heap.size)(hos:w'.os=w.os)(htp:w'.tape=w.tape)(hout:w'.output=w.output)
  (hk:∀ b,b≠l.b->w'.heap[b]? = w.heap[b]?) {cs':Array Value} {e:TypeId} (hb:w'.heap[l.b]? = some (.cells cs' e l.frz)) (h1:k'.sz=l.sz) (h2:k'.rows.length<=l.tot) (h3:l.o+l.tot*l.sz<=cs'.size)
  (h4:∀(i:Nat) (row:List V),k'.rows[i]? = some row->row.length=l.sz)
  (h5:∀(i j:Nat) (row:List V) (u:V),k'.rows[i]? = some row->row[j]? = some u -> ∃ cv,cs'[l.o+i*l.sz+j]? = some cv/\Is ρ (bP X ρ M) w u cv) (h0:k'.ob.okCells e l:=by exact True.intro) :
  Rel G X w0 I ρ (M.put nm (some k')) w'/\Moves ρ M w ρ (M.put nm (some k')) w':=by
 have hs:∀ x,((M.put nm (some k')) x).isSome=true->(M x).isSome=true:=fun x hx=>by
  by_cases e:x=nm
  ·subst e;rw[hM];rfl
  ·rwa[ao.put_ne _ _ e]at hx
 have m:Moves ρ M w ρ (M.put nm (some k')) w' :=
  ⟨fun _ _ h=>h,Nat.le_of_eq hsz.symm,hos,htp,hout,fun b _ hn=>hk b (fun e=>hn nm l (by rw[hM];rfl) hl e.symm),fun n l' a1 a2 _=>⟨n,l',hs n a1,a2,rfl⟩⟩
 refine⟨h.move m (fun a b l1 l2 a1 a2 a3 a4 a5=>h.inj a b l1 l2 (hs a a1) (hs b a2) a3 a4 a5) ?_,m⟩
 intro x kx hx
 by_cases e:x=nm
 ·subst e
  rw[ao.put_same]at hx
  cases hx
  rcases h.live x k hM with ⟨_,a2⟩|⟨l',a1,a2,a3,_⟩
  ·rw[hl]at a2;cases a2
  ·rw[hl]at a1;cases a1
   refine .inr (.inr ⟨l,hl,a2,a3,.inl ⟨cs',_,h0,hb,h1,h2,h3,h4,fun i j row u hi hj=>?_⟩⟩)
   obtain⟨cv,c1,c2⟩:=h5 i j row u hi hj
   exact⟨cv,c1,m.is c2⟩
 ·rw[ao.put_ne _ _ e]at hx
  refine .inl ⟨hx,id,fun lx hlx=>hk _ (fun e2=>e (h.inj x nm lx l (by rw[hx];rfl) (by rw[hM];rfl) hlx hl e2))⟩
def Rel.alloc (h:Rel G X w0 I ρ M w){nm:Nat}(hM:M nm=none)(hρ:ρ nm=none)(cs:Array Value)(e:TypeId)(k:Blk)(tot:Nat)(h2:k.rows.length<=tot)(h3:tot*k.sz<=cs.size)
  (h4:∀(i:Nat) (row:List V),k.rows[i]? = some row->row.length=k.sz)
  (h5:∀(i j:Nat) (row:List V) (u:V),k.rows[i]? = some row->row[j]? = some u -> ∃ cv,cs[i*k.sz+j]? = some cv/\Is ρ (bP X ρ M) w u cv) (h0:k.ob.okCells e ⟨w.heap.size,0,k.sz,tot⟩:=by exact True.intro) :
  Rel G X w0 I (ρ.put nm ⟨w.heap.size,0,k.sz,tot⟩) (M.put nm (some k)) (w.alloc (.cells cs e))/\Moves ρ M w (ρ.put nm ⟨w.heap.size,0,k.sz,tot⟩) (M.put nm (some k)) (w.alloc (.cells cs e)):=by
 have hne:∀ x,(M x).isSome=true->x≠nm:=fun x hx e=>by subst e;rw[hM]at hx;cases hx
 have hnr:∀ x l,ρ x=some l->x≠nm:=fun x l hx e=>by subst e;rw[hρ]at hx;cases hx
 have hlt:∀ x l,(M x).isSome=true->ρ x=some l->l.b<w.heap.size:=fun x l hx hl=>by
  obtain⟨kx,hkx⟩:=Option.isSome_iff_exists.1 hx
  rcases h.live x kx hkx with ⟨_,a⟩|⟨l',a1,_,_,⟨cs,e,_,a2,_⟩|⟨_,_,_,_,_,_,_,a2,_⟩⟩
  ·rw[hl]at a;cases a
  ·rw[hl]at a1;cases a1;exact iV a2
  ·rw[hl]at a1;cases a1;exact iV a2
 have m:Moves ρ M w (ρ.put nm ⟨w.heap.size,0,k.sz,tot⟩) (M.put nm (some k)) (w.alloc (.cells cs e)):=by
  refine⟨fun x l hx=>by rw[Names.put_ne _ _ (hnr x l hx)];exact hx,by simp,rfl,rfl,rfl,fun b hb _=>Below.heap_alloc _ _ _ hb,fun x l a1 a2 a3=>?_⟩
  by_cases e:x=nm
  ·subst e;rw[Names.put_same]at a2;cases a2;simp at a3
  ·rw[Names.put_ne _ _ e]at a2;rw[ao.put_ne _ _ e]at a1
   exact⟨x,l,a1,a2,rfl⟩
 refine⟨h.move m ?_ ?_,m⟩
 ·intro x y l l' a1 a2 a3 a4 a5
  by_cases ex:x=nm
  ·subst ex
   rw[Names.put_same]at a3;cases a3
   by_cases ey:y=x
   ·exact ey.symm
   ·rw[Names.put_ne _ _ ey]at a4;rw[ao.put_ne _ _ ey]at a2
    have:=hlt y l' a2 a4
    simp at a5;omega
  ·rw[Names.put_ne _ _ ex]at a3;rw[ao.put_ne _ _ ex]at a1
   have:=hlt x l a1 a3
   by_cases ey:y=nm
   ·subst ey
    rw[Names.put_same]at a4;cases a4
    simp at a5;omega
   ·rw[Names.put_ne _ _ ey]at a4;rw[ao.put_ne _ _ ey]at a2
    exact h.inj x y l l' a1 a2 a3 a4 a5
 ·intro x kx hx
  by_cases ex:x=nm
  ·subst ex
   rw[ao.put_same]at hx;cases hx
   refine .inr (.inr ⟨_,Names.put_same _ _ _,.inr h.size,fun hX=>?_,.inl ⟨cs,e,h0,heap_alloc_new w _,rfl,h2,by simpa using h3,h4,fun i j row u hi hj=>?_⟩⟩)
   ·have:=(h.hX _ hX).1
    have:=h.size
    simp at *;omega
   ·obtain⟨cv,c1,c2⟩:=h5 i j row u hi hj
    exact⟨cv,by simpa using c1,m.is c2⟩
  ·rw[ao.put_ne _ _ ex]at hx
   refine .inl ⟨hx,fun hn=>by rw[Names.put_ne _ _ ex];exact hn,fun lx hlx=>Below.heap_alloc _ _ _ (hlt x lx (by rw[hx];rfl) hlx)⟩
end
def lh:Value->V
 | .bool b=>.bool b
 | .int k n=>.int k n
 | .string s=>.str s.data.toList
 | .pointer none=>.nilp
 | .slice none 0 0=>.nils
 | v=>.val v
def J6:Value->V
 | .agg cs=>.agg (cs.toList.map lh)
 | v=>lh v
def rf (ρ:Names)(D:Nat->Prop)(w:World)(v:Value):Is ρ D w (lh v) v:=by
 unfold lh
 split
 ·exact .bool _
 ·exact .int _ _
 ·rename_i s
  have h:(⟨s.data.toList.toArray⟩:ByteArray)=s:=by cases s;rfl
  have:=Is.str (ρ:=ρ) (D:=D) (w:=w) s.data.toList
  rwa[h]at this
 ·exact .nilp
 ·exact .nils
 ·exact .val _
def Gs (ρ:Names)(D:Nat->Prop)(w:World)(v:Value):Is ρ D w (J6 v) v:=by
 unfold J6
 split
 ·rename_i cs
  refine .agg (by simp) (fun i u cv h1 h2=>?_)
  rw[List.getElem?_map]at h1
  obtain⟨x,h3,rfl⟩:=Option.map_eq_some_iff.1 h1
  rw[Array.getElem?_toList]at h3
  rw[h3]at h2;cases h2
  exact rf _ _ _ _
 ·exact rf _ _ _ _
def V.strip (c:Bool):V->V
 | .gd b v=>if b || !c then v else .gd b v
 | v=>v
def Is.strip {ρ:Names}{D:Nat->Prop}{w:World}{c:Bool}(hc:c=true){v:V}{cv:Value}(h:Is ρ D w v cv):Is ρ D w (v.strip c) cv:=by
 subst hc
 unfold V.strip
 split
 ·rename_i b v
  split
  ·rename_i hb
   cases h with
   | gd h _=>exact h (by simpa using hb)
  ·exact h
 ·exact h
abbrev Env:=Nat->V
def Env.put (e:Env)(t:Nat)(v:V):Env:=fun x=>if x=t then v else e x
def Env.putD (e:Env)(d:Option Nat)(v:V):Env:=match d with|some t=>e.put t v|none=>e
def ax (G:Nat->V)(c:Bool)(e:Env):Operand->V
 | .tmp t=>(e t).strip c
 | .const v=>J6 v
 | .global g=>G g
 | .func f=>.fn f []
structure EnvAt (ds:List Deferred) (ρ:Names) (D:Nat->Prop) (w:World) (N:Nat) (e:Env) (a:Act):Prop where
 size:a.tmps.size=N
 defers:a.defers=ds
 is:∀ t,t<N->Is ρ D w (e t) (a.tmps.getD t undef)
def BZ (N:Nat):Operand->Prop
 | .tmp t=>t<N
 | _=>True
def EnvAt.eval {G:Nat->V}{X:Nat->Prop}{w0:World}{I:Nat->Prop}{ρ:Names}{M:ao}{w:World}(h:Rel G X w0 I ρ M w){N:Nat}{e:Env}{a:Act}{ds:List Deferred}(he:EnvAt ds ρ (bP X ρ M) w N e a)
  {c:Bool} (hc:c=true) {x:Operand} (hx:BZ N x):Is ρ (bP X ρ M) w (ax G c e x) (a.eval x):=by
 cases x with
 | tmp t=>exact(he.is t hx).strip hc
 | const v=>exact Gs _ _ _ _
 | global g=>exact h.glob g
 | func f=>exact .fn rfl (fun i u cv h1 _=>by simp at h1)
def ty (P:Program)(t:TypeId):Option (Nat×Bool) :=
 match P.info? t,P.underlying t with
 | some i,some d=>some (i.size,match d with | .struct _ | .array _ _=>true|_=>false)
 | _,_=>none
section
variable {P:Program} {G:Nat->V} {X:Nat->Prop} {w0:World} {I:Nat->Prop} {ρ:Names} {M:ao} {w:World} {D:Nat->Prop}
def fu {t s:Nat}{g:Bool}(h:ty P t=some (s,g))(w:World):(sizeOf t).run P w = .ok s w/\(isAgg t).run P w = .ok g w/\(P.info? t).map (·.size)=some s:=by
 unfold ty at h
 split at h
 ·rename_i i d hi hd
  simp only[Option.some.injEq,Prod.mk.injEq]at h
  obtain⟨h1,h2⟩:=h
  subst h1
  refine⟨by simp[sizeOf,typeInfo,hi],?_,by simp[hi]⟩
  unfold isAgg
  rw[Sem.run_bind,run_underlying hd w]
  cases d<;>simp_all
 ·cases h
def V.one:V->Bool
 | .any | .agg _ | .tup _ | .gd _ _=>false
 | .val v=>v.oneCell'
 | _=>true
def V.cellsV:V->List V
 | .agg cs=>cs
 | v=>[v]
def Is.one {v:V}{cv:Value}(h:Is ρ D w v cv)(ho:v.one=true):cv.oneCell'=true/\cv.cells = #[cv]:=by
 cases h<;>simp_all [V.one,Value.oneCell',Value.cells]<;>(try (split at ho<;>simp_all))
def Is.cells {v:V}{cv:Value}(h:Is ρ D w v cv)(ho:(v.cellsV.all V.one)=true):cv.cells.size=v.cellsV.length/\(∀ x∈cv.cells.toList,x.oneCell'=true) /\ ∀(j:Nat) (u:V),v.cellsV[j]? = some u -> ∃ c,cv.cells[j]? = some c/\Is ρ D w u c:=by
 by_cases ha:∃ cs,v = .agg cs
 ·obtain⟨cs,rfl⟩:=ha
  cases h with
  | agg hn hu =>
   rename_i cvs
   refine⟨hn.symm,?_,?_⟩
   ·intro x hx
    obtain⟨i,hi,rfl⟩:=List.getElem_of_mem hx
    have hi2:i<cs.length:=by simp[Value.cells]at hi;omega
    have h1:=hu i cs[i] _ (List.getElem?_eq_getElem hi2) (Array.getElem?_eq_getElem (by simpa [Value.cells] using hi))
    have h2:cs[i].one=true:=by
     simp only[V.cellsV,List.all_eq_true]at ho
     exact ho _ (List.getElem_mem hi2)
    exact(h1.one h2).1
   ·intro j u hj
    have hj2:j<cvs.size:=by rw[<- hn];exact(List.getElem?_eq_some_iff.1 hj).1
    exact⟨cvs[j],Array.getElem?_eq_getElem hj2,hu j u _ hj (Array.getElem?_eq_getElem hj2)⟩
 ·have hv:v.cellsV=[v]:=by
   cases v<;>simp_all [V.cellsV]
  rw[hv]at ho ⊢
  simp only[List.all_cons,List.all_nil,Bool.and_true]at ho
  obtain⟨h1,h2⟩:=h.one ho
  rw[h2]
  refine⟨rfl,by simpa using h1,?_⟩
  intro j u hj
  cases j with
  | zero=>simp at hj;subst hj;exact⟨cv,rfl,h⟩
  | succ j=>simp at hj
def V.lose:V->V
 | .ownc nm lo n _=>.own nm lo n
 | v=>v
def Is.lose {v:V}{cv:Value}(h:Is ρ D w v cv):Is ρ D w v.lose cv:=by
 cases h with
 | ownc0=>exact .own0
 | ownc h hl hc _=>exact .own h hl hc
 | any cv=>exact .any _
 | bool b=>exact .bool _
 | bit b ht hf=>exact .bit b ht hf
 | int k n=>exact .int _ _
 | str s=>exact .str _
 | nilp=>exact .nilp
 | upt p=>exact .upt p
 | ys0=>exact .ys0
 | ys cv hc hL hd hb hf hr hx hu=>exact .ys cv hc hL hd hb hf hr hx hu
 | ptr h=>exact .ptr h
 | rp cv hd hb hc hu=>exact .rp cv hd hb hc hu
 | nils=>exact .nils
 | sl0 ht=>exact .sl0 ht
 | sl cv hc ht hd hb hr hx hu=>exact .sl cv hc ht hd hb hr hx hu
 | own0=>exact .own0
 | own h hl hc=>exact .own h hl hc
 | chan h=>exact .chan h
 | mp h=>exact .mp h
 | fn hn hu=>exact .fn hn hu
 | fnb hn hu=>exact .fnb hn hu
 | iface h=>exact .iface h
 | agg hn hu=>exact .agg hn hu
 | tup hn hu=>exact .tup hn hu
 | gd h h0=>exact .gd h h0
 | val v=>exact .val _
def rowOf (M:ao)(nm i:Nat):List V:=match M nm with|some k=>(k.rows[i]?).getD []|none=>[]
def target (M:ao):V->List V
 | .ptr nm i j=>(rowOf M nm i).drop j
 | .rp cells=>cells
 | _=>[]
def V.isPtr:V->Bool
 | .ptr _ _ _ | .rp _=>true
 | _=>false
def Rel.target (h:Rel G X w0 I ρ M w){v:V}{cv:Value}(hv:Is ρ (bP X ρ M) w v cv)(hp:v.isPtr=true):∃ b o,cv = .pointer (some ⟨b,o,none⟩) /\
  ∀(j:Nat) (u:V),(target M v)[j]? = some u -> ∃ c,w.cell? ⟨b,o+j,none⟩=some c/\Is ρ (bP X ρ M) w u c:=by
 cases hv<;>try (simp[V.isPtr]at hp;done)
 case ptr nm i j l hl =>
  refine⟨l.b,l.o+i*l.sz+j,rfl,?_⟩
  intro j' u hu
  simp only[Vm.target,List.getElem?_drop,rowOf]at hu
  cases hM:M nm with
  | none=>simp[hM]at hu
  | some k =>
   simp only[hM]at hu
   cases hr:k.rows[i]? with
   | none=>simp[hr]at hu
   | some row =>
    simp only[hr,Option.getD_some]at hu
    rcases h.live nm k hM with ⟨h1,_⟩|⟨l',h1,_,_,⟨cs,e,_,h2,_,_,_,_,h3⟩|⟨_,_,_,_,_,_,_,_,_,h1,_⟩⟩
    rotate_right
    ·rw[h1]at hr;simp at hr
    ·rw[h1]at hr;simp at hr
    ·rw[hl]at h1;cases h1
     obtain⟨c,h4,h5⟩:=h3 i (j+j') row u hr hu
     refine⟨c,?_,h5⟩
     rw[cell_of_row w l.b _ cs e _ h2,Nat.add_assoc];exact h4
 case rp cells b o cvf hD hb hc hu =>
  exact⟨b,o,rfl,fun j u hj=>⟨cvf j,hc j u hj,hu j u hj⟩⟩
def uV (P:Program)(t:TypeId)(M:ao)(x:V):V :=
 match ty P t with
 | some (s,true)=>.agg ((target M x).take s)
 | _=>((target M x)[0]?).getD .any
def sG (P:Program)(t:TypeId)(M:ao)(x:V):Prop :=
 x.isPtr=true/\match ty P t with
 | some (s,true)=>s<=(target M x).length
 | some (_,false)=>0<(target M x).length
 | none=>False
def sH (h:Rel G X w0 I ρ M w){t:TypeId}{x:V}{cv:Value}(hx:Is ρ (bP X ρ M) w x cv)(hok:sG P t M x) :
  ∃ c,(Instr.loadAt t cv).run P w = .ok c w/\Is ρ (bP X ρ M) w (uV P t M x) c:=by
 obtain⟨hp,hok⟩:=hok
 obtain⟨b,o,rfl,hc⟩:=h.target hx hp
 unfold uV
 split at hok
 ·rename_i s ht
  obtain⟨h1,h2,_⟩:=fu ht w
  rw[ht]
  have hall:∀ j,j<s -> ∃ c,w.cell? ⟨b,o+j,none⟩=some c:=fun j hj=>by
   obtain⟨c,hc1,_⟩:=hc j _ (List.getElem?_eq_getElem (by omega))
   exact⟨c,hc1⟩
  have hl:=run_loadCells (P:=P) w ⟨b,o,none⟩ s (fun j=>(w.cell? ⟨b,o+j,none⟩).getD undef) (fun j hj=>by
   obtain⟨c,hc1⟩:=hall j hj
   rw[Addr.add_mid,hc1];rfl)
  refine⟨_,by simp only[Instr.loadAt,Instr.sureAddr,Sem.run_bind,Sem.run_pure,Result.andThen_ok,loadVar,h2,if_true,h1,hl];rfl,?_⟩
  refine .agg (by simp;omega) ?_
  intro i u c hi hc2
  rw[List.getElem?_take]at hi
  split at hi
  ·rename_i his
   obtain⟨c',hc3,hc4⟩:=hc i u hi
   simp[his,hc3]at hc2
   subst hc2
   exact hc4
  ·cases hi
 ·rename_i s ht
  obtain⟨h1,h2,_⟩:=fu ht w
  rw[ht]
  obtain⟨c,hc1,hc2⟩:=hc 0 _ (List.getElem?_eq_getElem hok)
  simp only[Nat.add_zero]at hc1
  refine⟨c,by simp only[Instr.loadAt,Instr.sureAddr,Sem.run_bind,Sem.run_pure,Result.andThen_ok,loadVar,h2,Bool.false_eq_true,if_false,run_load,hc1],?_⟩
  simpa [List.getElem?_eq_getElem hok] using hc2
 ·exact hok.elim
end
def bE (M:ao)(nm:Nat):List (List V):=match M nm with|some k=>k.rows|none=>[]
def bv {α:Type}(row:List α)(j:Nat)(cs:List α):List α:=row.take j++cs++row.drop (j+cs.length)
def dP {α:Type}{row:List α}{j:Nat}{cs:List α}(h:j+cs.length<=row.length):(bv row j cs).length=row.length:=by
 unfold bv;simp;omega
def cC {α:Type}{row:List α}{j:Nat}{cs:List α}(h:j+cs.length<=row.length)(q:Nat) :
  (bv row j cs)[q]? = if q<j then row[q]? else if q<j+cs.length then cs[q-j]? else row[q]?:=by
 unfold bv
 have hl:(row.take j).length=j:=by simp;omega
 by_cases h1:q<j
 ·rw[if_pos h1,List.append_assoc,List.getElem?_append_left (by omega),List.getElem?_take_of_lt h1]
 ·rw[if_neg h1]
  by_cases h2:q<j+cs.length
  ·rw[if_pos h2,List.append_assoc,List.getElem?_append_right (by omega),List.getElem?_append_left (by omega),hl]
  ·rw[if_neg h2,List.getElem?_append_right (by simp;omega),List.getElem?_drop]
   congr 1
   simp;omega
def kK (row:List V)(j:Nat)(v:V):List V:=match v with
 | .agg cs=>bv row j cs
 | v=>row.set j v
def Bn {row:List V}{j:Nat}{v:V}(h:j+v.cellsV.length<=row.length):kK row j v=bv row j v.cellsV:=by
 unfold kK
 split
 ·rfl
 ·have hv:v.cellsV=[v]:=by
   cases v<;>simp_all [V.cellsV]
  rw[hv]at h ⊢
  unfold bv
  simp only[List.length_singleton]at h ⊢
  rw[List.set_eq_take_append_cons_drop,if_pos (by omega)]
  simp
section
variable {P:Program} {G:Nat->V} {X:Nat->Prop} {w0:World} {I:Nat->Prop} {ρ:Names} {M:ao} {w:World} {D:Nat->Prop}
def pX (M:ao)(x v:V):ao:=match x with
 | .ptr nm i j=>M.put nm ((M nm).map fun k=>⟨k.sz,k.rows.set i (kK (rowOf M nm i) j v)⟩)
 | _=>M
def iD (P:Program)(t:TypeId)(M:ao)(x v:V):Prop:=match x with
 | .ptr nm i j=>match ty P t with
  | some (s,_)=>0<s/\v.cellsV.length=s/\v.cellsV.all V.one=true/\j+s<=(rowOf M nm i).length
  | none=>False
 | _=>False
def za (h:Rel G X w0 I ρ M w){t:TypeId}{x v:V}{cx cv:Value}(hx:Is ρ (bP X ρ M) w x cx)(hv:Is ρ (bP X ρ M) w v cv)(hok:iD P t M x v) :
  ∃ w',(Instr.storeAt t cx cv).run P w = .ok () w'/\Rel G X w0 I ρ (pX M x v) w'/\Moves ρ M w ρ (pX M x v) w':=by
 unfold iD at hok
 split at hok
 ·rename_i nm i j
  split at hok
  ·rename_i s g ht
   obtain⟨hs,hlen,hone,hj⟩:=hok
   obtain⟨hsz,_,_⟩:=fu ht w
   obtain⟨hc1,hc2,hc3⟩:=hv.cells hone
   cases hx with
   | ptr hl =>
   rename_i l
   cases hM:M nm with
   | none=>rw[rowOf,hM]at hj;simp at hj;omega
   | some k =>
    have hrow:rowOf M nm i=(k.rows[i]?).getD []:=by rw[rowOf,hM]
    cases hr:k.rows[i]? with
    | none=>rw[hrow,hr]at hj;simp at hj;omega
    | some row =>
     rw[hr]at hrow
     simp only[Option.getD_some]at hrow
     rw[hrow]at hj
     have hi:i<k.rows.length:=(List.getElem?_eq_some_iff.1 hr).1
     rcases h.live nm k hM with ⟨h1,_⟩|⟨l',h1,_,_,⟨cs,e,_,h2,h3,h4,h5,h6,h7⟩|⟨_,_,_,_,_,_,_,_,_,h1,_⟩⟩
     rotate_right
     ·rw[h1]at hr;simp at hr
     ·rw[h1]at hr;simp at hr
     rw[hl]at h1;cases h1
     have hrl:=h6 i row hr
     have hend:l.o+i*l.sz+j+cv.cells.size<=cs.size:=by
      have:(i+1)*l.sz<=l.tot*l.sz:=Nat.mul_le_mul_right _ (by omega)
      rw[Nat.succ_mul]at this
      omega
     have hrun:=eW P l.b (l.o+i*l.sz+j) e _ cv.cells.toList 0 cs w h2 (fun p hp=>l.free (by
      have:(i+1)*l.sz<=l.tot*l.sz:=Nat.mul_le_mul_right _ (by omega)
      rw[Nat.succ_mul]at this
      simp at hp
      omega)) (by simpa using hend) hc2
     have hst:pX M (.ptr nm i j) v=M.put nm (some ⟨k.sz,k.rows.set i (kK row j v)⟩):=by
      simp only[pX,hM,Option.map_some,hrow]
     rw[hst]
     refine⟨w.setRow l.b (cs.toList.take (l.o+i*l.sz+j+0)++cv.cells.toList++cs.toList.drop (l.o+i*l.sz+j+0+cv.cells.toList.length)).toArray,?_,?_⟩
     ·simp only[Instr.storeAt,Instr.sureAddr,Sem.run_bind,Sem.run_pure,Result.andThen_ok,storeVar,hsz]
      rw[if_neg (by rw[hc1,hlen];simp)]
      exact hrun
     ·have hsp:=Bn (row:=row) (j:=j) (v:=v) (by omega)
      refine Rel.write h hM hl (by simp) rfl rfl rfl (fun b hb=>setRow_other _ _ _ _ hb) (setRow_heap w l.b cs _ e _ h2) h3 (by simp;exact h4) ?_ ?_ ?_
      ·simp only[List.size_toArray,Nat.add_zero,List.length_append,List.length_take,List.length_drop,Array.length_toList];omega
      ·intro i' row' hi'
       rw[List.getElem?_set]at hi'
       by_cases he:i=i'
       ·subst he
        rw[if_pos rfl,if_pos hi]at hi'
        cases hi'
        rw[hsp,dP (by omega)];exact hrl
       ·rw[if_neg he]at hi'
        exact h6 i' row' hi'
      ·intro i' j' row' u hi' hj'
       have hget:∀ q,(cs.toList.take (l.o+i*l.sz+j+0)++cv.cells.toList++cs.toList.drop (l.o+i*l.sz+j+0+cv.cells.toList.length)).toArray[q]? = if q<l.o+i*l.sz+j then cs[q]? else if q<l.o+i*l.sz+j+cv.cells.size then cv.cells[q-(l.o+i*l.sz+j)]? else cs[q]?:=by
        intro q
        have:=cC (row:=cs.toList) (j:=l.o+i*l.sz+j) (cs:=cv.cells.toList) (by simpa using hend) q
        simpa [bv] using this
       rw[hget]
       rw[List.getElem?_set]at hi'
       by_cases he:i=i'
       ·subst he
        rw[if_pos rfl,if_pos hi]at hi'
        cases hi'
        rw[hsp,cC (by omega)]at hj'
        by_cases q1:j'<j
        ·rw[if_pos q1]at hj'
         rw[if_pos (by omega)]
         exact h7 i j' row u hr hj'
        ·rw[if_neg q1]at hj'
         rw[if_neg (by omega)]
         by_cases q2:j'<j+v.cellsV.length
         ·rw[if_pos q2]at hj'
          rw[if_pos (by omega)]
          obtain⟨c,c1,c2⟩:=hc3 _ u hj'
          refine⟨c,?_,c2⟩
          rw[<- c1];congr 1;omega
         ·rw[if_neg q2]at hj'
          rw[if_neg (by omega)]
          exact h7 i j' row u hr hj'
       ·rw[if_neg he]at hi'
        have hj'':j'<l.sz:=by
         have:=(List.getElem?_eq_some_iff.1 hj').1
         rw[h6 i' row' hi']at this;exact this
        have hold:=h7 i' j' row' u hi' hj'
        rcases Nat.lt_or_gt_of_ne he with hlt|hgt
        ·have:(i+1)*l.sz<=i'*l.sz:=Nat.mul_le_mul_right _ hlt
         rw[Nat.succ_mul]at this
         rw[if_neg (by omega),if_neg (by omega)];exact hold
        ·have:(i'+1)*l.sz<=i*l.sz:=Nat.mul_le_mul_right _ hgt
         rw[Nat.succ_mul]at this
         rw[if_pos (by omega)];exact hold
  ·exact hok.elim
 ·exact hok.elim
def dH (P:Program)(t:TypeId):Option (List V):=match P.info? t with
 | some i=>i.zero.map fun z=>z.cells.toList.map lh
 | none=>none
def LW (cells:List V):Blk:=⟨cells.length,[cells]⟩
def gu (P:Program)(t:TypeId):Option TypeId:=match P.underlying t with
 | some (.struct fs) => if fs.size = 2 /\ (fs[0]?).map (·.name) = some "addr" then some t else none
 | _=>none
def IQ {P:Program}{t t':TypeId}(h:gu P t=some t'):t=t':=by
 unfold gu at h
 split at h
 ·split at h
  ·cases h;rfl
  ·cases h
 ·cases h
def zC (P:Program)(t:TypeId)(cells:List V):Blk:=qF (gu P t) cells.length [cells]
def cV (G:Nat->V)(X:Nat->Prop)(w0:World)(I:Nat->Prop)(ρ:Names)(M:ao)(w:World)(nm:Nat)(v:V)(M':ao)(cv:Value)(w':World):Prop :=
 ∃ ρ',Rel G X w0 I ρ' M' w'/\Moves ρ M w ρ' M' w'/\Is ρ' (bP X ρ' M') w' v cv /\ ∀ x,x≠nm->ρ' x=ρ x
def cV.still {nm:Nat}{v:V}{cv:Value}(h:Rel G X w0 I ρ M w)(hv:Is ρ (bP X ρ M) w v cv):cV G X w0 I ρ M w nm v M cv w :=
 ⟨ρ,h,.refl _ _ _,hv,fun _ _=>rfl⟩
def oM (h:Rel G X w0 I ρ M w){nm:Nat}(hM:M nm=none)(hρ:ρ nm=none)(t:TypeId){o:Option TypeId}(ho:∀ t',o=some t'->t=t'){cells:List V}{cv:Value}(hn:cv.cells.size=cells.length)
  (hu:∀(j:Nat) (u:V),cells[j]? = some u -> ∃ c,cv.cells[j]? = some c/\Is ρ (bP X ρ M) w u c) :
  ∃ c w',(newVar t cv).run P w = .ok c w'/\cV G X w0 I ρ M w nm (.ptr nm 0 0) (M.put nm (some (qF o cells.length [cells]))) (.pointer (some c)) w':=by
 obtain⟨h1,h2⟩:=h.alloc hM hρ cv.cells t (qF o cells.length [cells]) 1 (by rw[ej];simp) (by rw[ix];simp[hn]) (fun i row hi=>by
  rw[ej]at hi
  cases i with
  | zero=>simp at hi;subst hi;rw[ix]
  | succ i=>simp at hi) (fun i j row u hi hj=>by
  rw[ej]at hi
  rw[ix]
  cases i with
  | zero =>
   simp at hi;subst hi
   obtain⟨c,c1,c2⟩:=hu j u hj
   exact⟨c,by simpa using c1,c2⟩
  | succ i=>simp at hi) (vL (fun t' ht'=>⟨ho t' ht',rfl⟩))
 rw[ix]at h1 h2
 refine⟨⟨w.heap.size,0,none⟩,w.alloc (.cells cv.cells t),rfl,ρ.put nm ⟨w.heap.size,0,cells.length,1⟩,h1,h2,?_,fun x hx=>Names.put_ne _ _ hx⟩
 have:=Is.ptr (ρ:=ρ.put nm ⟨w.heap.size,0,cells.length,1⟩) (D:=bP X (ρ.put nm ⟨w.heap.size,0,cells.length,1⟩) (M.put nm (some (qF o cells.length [cells])))) (w:=w.alloc (.cells cv.cells t)) (nm:=nm) (i:=0) (j:=0) (l:=⟨w.heap.size,0,cells.length,1⟩) (Names.put_same _ _ _)
 simpa using this
def CO (h:Rel G X w0 I ρ M w){nm:Nat}(hM:M nm=none)(hρ:ρ nm=none)(t:TypeId){v:V}{cv:Value}(hv:Is ρ (bP X ρ M) w v cv)(hone:v.cellsV.all V.one=true) :
  ∃ c w',(Instr.box t cv).run P w = .ok c w'/\cV G X w0 I ρ M w nm (.ptr nm 0 0) (M.put nm (some (LW v.cellsV))) c w':=by
 obtain⟨h1,_,h3⟩:=hv.cells hone
 obtain⟨c,w',hr,hs⟩:=oM (P:=P) h hM hρ t (o:=none) (fun _ h=>by cases h) h1 h3
 exact⟨.pointer (some c),w',by simp[Instr.box,hr],hs⟩
def BH {t:TypeId}{cells:List V}(hz:dH P t=some cells)(w:World):∃ z,(zeroValue t).run P w = .ok z w/\z.cells.size=cells.length /\
  ∀(ρ:Names) (D:Nat->Prop) (w:World) (j:Nat) (u:V),cells[j]? = some u -> ∃ c,z.cells[j]? = some c/\Is ρ D w u c:=by
 unfold dH at hz
 split at hz
 ·rename_i i hi
  obtain⟨z,h1,rfl⟩:=Option.map_eq_some_iff.1 hz
  refine⟨z,by simp[zeroValue,typeInfo,hi,h1],by simp,?_⟩
  intro ρ D w j u hj
  rw[List.getElem?_map]at hj
  obtain⟨c,h2,rfl⟩:=Option.map_eq_some_iff.1 hj
  exact⟨c,by simpa using h2,rf _ _ _ _⟩
 ·cases hz
def xm (h:Rel G X w0 I ρ M w){nm:Nat}(hM:M nm=none)(hρ:ρ nm=none)(t:TypeId){cells:List V}(hz:dH P t=some cells) :
  ∃ c w',(Instr.alloc t true (.tuple #[])).run P w = .ok c w'/\cV G X w0 I ρ M w nm (.ptr nm 0 0) (M.put nm (some (zC P t cells))) c w':=by
 obtain⟨z,h1,h2,h3⟩:=BH hz w
 obtain⟨c,w',hr,hs⟩:=oM (P:=P) h hM hρ t (o:=gu P t) (fun _ h=>IQ h) h2 (h3 _ _ _)
 exact⟨.pointer (some c),w',by simp[Instr.alloc,h1,hr],hs⟩
end
def iz (P:Program)(t:TypeId)(f:Nat):Option (Nat×Nat×Bool) :=
 match P.underlying t with
 | some (.struct fs)=>match fs[f]? with
  | some x=>match ty P x.type with
   | some (0,_)=>none
   | some (s,g)=>some (x.offset,s,g)
   | none=>none
  | none=>none
 | _=>none
def mL (P:Program)(t:TypeId):Option (Option Nat×Nat×Bool) :=
 match P.underlying t with
 | some (.array n e)=>(ty P e).map fun x=>(some n,x)
 | some (.slice e)=>(ty P e).map fun x=>(none,x)
 | _=>none
section
variable {P:Program} {G:Nat->V} {X:Nat->Prop} {w0:World} {I:Nat->Prop} {ρ:Names} {M:ao} {w:World} {D:Nat->Prop}
def Is.rp_drop {cells:List V}{b o:Nat}(h:Is ρ D w (.rp cells) (.pointer (some ⟨b,o,none⟩)))(k:Nat):Is ρ D w (.rp (cells.drop k)) (.pointer (some ⟨b,o+k,none⟩)):=by
 cases h with
 | rp cv hD hb hc hu =>
  refine .rp (fun j=>cv (k+j)) hD hb (fun j u hj=>?_) (fun j u hj=>?_)
  ·rw[List.getElem?_drop]at hj
   rw[Nat.add_assoc];exact hc _ u hj
  ·rw[List.getElem?_drop]at hj
   exact hu _ u hj
def fB (P:Program)(t f:Nat):V->V
 | .ptr nm i j=>.ptr nm i (j+(match iz P t f with|some (o,_)=>o|none=>0))
 | .rp cells=>.rp (cells.drop (match iz P t f with|some (o,_)=>o|none=>0))
 | _=>.any
def lH (P:Program)(t f:Nat)(x:V):Prop:=x.isPtr=true/\(iz P t f).isSome=true
def qG {t f:Nat}{x:V}{cx:Value}(hx:Is ρ D w x cx)(hok:lH P t f x):∃ c,(Instr.fieldAt t cx f).run P w = .ok c w/\Is ρ D w (fB P t f x) c:=by
 obtain⟨hp,hf⟩:=hok
 obtain⟨⟨o,s,g⟩,hfl⟩:=Option.isSome_iff_exists.1 hf
 have hfl':=hfl
 unfold iz at hfl
 split at hfl<;>try (cases hfl;done)
 rename_i fs hu
 split at hfl<;>try (cases hfl;done)
 rename_i fd hfd
 split at hfl<;>try (cases hfl;done)
 rename_i s' g' hn hty
 simp only[Option.some.injEq,Prod.mk.injEq]at hfl
 obtain⟨rfl,rfl,rfl⟩:=hfl
 obtain⟨h1,_,_⟩:=fu hty w
 have hs0:¬ s'=0:=hn
 have run:∀ b o,(Instr.fieldAt t (.pointer (some ⟨b,o,none⟩)) f).run P w = .ok (.pointer (some ⟨b,o+fd.offset,none⟩)) w:=fun b o=>by
  simp only[Instr.fieldAt,Sem.run_bind,run_underlying hu w,Result.andThen_ok,hfd,Instr.sureAddr,Sem.run_pure,fieldPlace,h1,if_neg hs0,Addr.add_mid]
 cases hx<;>try (simp[V.isPtr]at hp;done)
 case ptr nm i j l hl =>
  refine⟨_,run _ _,?_⟩
  simp only[fB,hfl',Nat.add_assoc]
  have:=Is.ptr (D:=D) (w:=w) (i:=i) (j:=j+fd.offset) hl
  simpa [Nat.add_assoc] using this
 case rp cells b o cv hD hb hc hu =>
  refine⟨_,run _ _,?_⟩
  simp only[fB,hfl']
  exact Is.rp_drop (.rp cv hD hb hc hu) _
def c8 (o s:Nat)(g:Bool)(cells:List V):V:=if g then .agg ((cells.drop o).take s) else (cells[o]?).getD .any
def nF {t s:Nat}{g:Bool}(ht:ty P t=some (s,g)){cells:List V}{cvs:Array Value}(hn:cells.length=cvs.size)(hu:∀(i:Nat) (u:V) (cv:Value),cells[i]? = some u->cvs[i]? = some cv->Is ρ D w u cv){o:Nat}(hs:0<s)(ho:o+s<=cells.length) :
  ∃ c,(part t cvs o).run P w = .ok c w/\Is ρ D w (c8 o s g cells) c:=by
 obtain⟨h1,h2,_⟩:=fu ht w
 cases g with
 | true =>
  refine⟨.agg (cvs.extract o (o+s)),by simp only[part,Sem.run_bind,h2,Result.andThen_ok,if_true,h1,Sem.run_pure],?_⟩
  simp only[c8,if_true]
  refine .agg (by simp;omega) (fun i u cv hi hc=>?_)
  rw[List.getElem?_take]at hi
  split at hi
  ·rw[List.getElem?_drop]at hi
   rw[Array.getElem?_extract]at hc
   split at hc
   ·exact hu _ u cv hi hc
   ·cases hc
  ·cases hi
 | false =>
  have hlt:o<cvs.size:=by omega
  refine⟨cvs[o],by simp only[part,Sem.run_bind,h2,Result.andThen_ok,Bool.false_eq_true,if_false,Array.getElem?_eq_getElem hlt,Sem.run_pure],?_⟩
  simp only[c8,Bool.false_eq_true,if_false,List.getElem?_eq_getElem (show o<cells.length by omega),Option.getD_some]
  exact hu o _ _ (List.getElem?_eq_getElem (by omega)) (Array.getElem?_eq_getElem hlt)
def si (P:Program)(t f:Nat):V->V
 | .agg cells=>match iz P t f with|some (o,s,g)=>c8 o s g cells|none=>.any
 | _=>.any
def om (P:Program)(t f:Nat):V->Prop
 | .agg cells=>match iz P t f with|some (o,s,_)=>o+s<=cells.length|none=>False
 | _=>False
def xZ {t f:Nat}{x:V}{cx:Value}(hx:Is ρ D w x cx)(hok:om P t f x):∃ c,(Instr.field t cx f).run P w = .ok c w/\Is ρ D w (si P t f x) c:=by
 cases x<;>try (exact hok.elim)
 rename_i cells
 simp only[om]at hok
 simp only[si]
 cases hfl:iz P t f with
 | some y =>
  obtain⟨o,s,g⟩:=y
  rw[hfl]at hok
  have hfl':=hfl
  unfold iz at hfl
  split at hfl<;>try (cases hfl;done)
  rename_i fs hu
  split at hfl<;>try (cases hfl;done)
  rename_i fd hfd
  split at hfl<;>try (cases hfl;done)
  rename_i s' g' hnz hty
  simp only[Option.some.injEq,Prod.mk.injEq]at hfl
  obtain⟨rfl,rfl,rfl⟩:=hfl
  have hs0:0<s':=Nat.pos_of_ne_zero hnz
  cases hx with
  | agg hn hc =>
   obtain⟨c,h1,h2⟩:=nF (P:=P) (w:=w) hty hn hc hs0 hok
   exact⟨c,by simp only[Instr.field,Sem.run_bind,run_underlying hu w,Result.andThen_ok,hfd,asAgg,Sem.run_pure,h1],h2⟩
 | none=>rw[hfl]at hok;exact hok.elim
def wB (M:ao):V->Nat
 | .str s=>s.length
 | .sl _ _ rows=>rows.length
 | .own _ _ n=>n
 | .ownc _ _ n _=>n
 | _=>0
def bY (P:Program)(t:TypeId):Bool:=match P.underlying t with|some .string|some (.slice _)=>true|_=>false
def DJ {t:TypeId}{x:V}{cx:Value}(ht:bY P t=true)(hfit:(match P.underlying t,x with|some .string,.str _=>true|some (.slice _),.sl _ _ _|some (.slice _),.own _ _ _|some (.slice _),.ownc _ _ _ _|some (.slice _),.nils=>true|_,_=>false)=true)(ty:TypeId)(hx:Is ρ D w x cx) :
  (Builtin.len_ #[t] ty #[cx]).run P w = .ok (.int .i64 (wB M x)) w:=by
 unfold bY at ht
 cases hu:P.underlying t with
 | none=>rw[hu]at ht;cases ht
 | some d =>
  rw[hu]at hfit
  cases hx<;>cases d<;>first|(simp at hfit;done)|(simp[Builtin.len_,run_underlying hu w,goInt,wB];done)|(simp[Builtin.len_,run_underlying hu w,goInt,wB];rfl)
def oB:V->Option Int
 | .int _ n=>some n
 | _=>none
def Is.int_inv {v:V}{n:Int}{cv:Value}(h:Is ρ D w v cv)(hv:oB v=some n):∃ k,v = .int k n/\cv = .int k n:=by
 cases v<;>simp[oB]at hv
 subst hv
 cases h
 exact⟨_,rfl,rfl⟩
def bM (P:Program)(t:TypeId)(M:ao)(x:V)(n:Int):V:=match x with
 | .sl _ _ rows=>.rp ((rows[n.toNat]?).getD [])
 | .own nm lo _=>.ptr nm (lo+n.toNat) 0
 | .ownc nm lo _ _=>.ptr nm (lo+n.toNat) 0
 | .ptr nm i j=>.ptr nm i (j+n.toNat*(match mL P t with|some (_,s,_)=>s|none=>0))
 | .rp cells=>.rp (cells.drop (n.toNat*(match mL P t with|some (_,s,_)=>s|none=>0)))
 | _=>.any
def dQ (M:ao)(nm:Nat):Nat:=match M nm with|some k=>k.sz|none=>0
def c7 (P:Program)(t:TypeId)(M:ao)(x:V)(n:Int):Prop:=0<=n/\match mL P t,x with
 | some (none,s,_),.sl _ sz rows=>sz=s/\n.toNat<rows.length
 | some (none,s,_),.own nm _ l=>(M nm).isSome=true/\dQ M nm=s/\n.toNat<l
 | some (none,s,_),.ownc nm _ l _=>(M nm).isSome=true/\dQ M nm=s/\n.toNat<l
 | some (some l,_,_),.ptr _ _ _=>n.toNat<l
 | some (some l,_,_),.rp _=>n.toNat<l
 | _,_=>False
def pG (h:Rel G X w0 I ρ M w){t:TypeId}{x i:V}{n:Int}{cx ci:Value}(hx:Is ρ (bP X ρ M) w x cx)(hi:Is ρ (bP X ρ M) w i ci)(hn:oB i=some n)(hok:c7 P t M x n)(hno:x.lose=x) :
  ∃ c,(Instr.indexAt t cx ci).run P w = .ok c w/\Is ρ (bP X ρ M) w (bM P t M x n) c:=by
 obtain⟨k,rfl,rfl⟩:=hi.int_inv hn
 obtain⟨h0,hok⟩:=hok
 cases hel:mL P t with
 | none=>rw[hel]at hok;exact hok.elim
 | some y =>
  obtain⟨q,s,g⟩:=y
  have hel':=hel
  rw[hel]at hok
  unfold mL at hel
  split at hel<;>try (cases hel;done)
  ·rename_i len e hu
   obtain⟨⟨s',g'⟩,hty,he⟩:=Option.map_eq_some_iff.1 hel
   simp only[Prod.mk.injEq]at he
   obtain⟨rfl,rfl,rfl⟩:=he
   obtain⟨h1,_,_⟩:=fu hty w
   have run:∀ b o,n.toNat<len->(Instr.indexAt t (.pointer (some ⟨b,o,none⟩)) (.int k n)).run P w = .ok (.pointer (some ⟨b,o+n.toNat*s',none⟩)) w:=fun b o hl=>by
    have hlt:0<=n/\n<(len:Int):=⟨h0,by omega⟩
    simp only[Instr.indexAt,asIntOf,Sem.run_bind,Sem.run_pure,Result.andThen_ok,run_underlying hu w,Instr.sureAddr,if_pos hlt,h1,Addr.add_mid]
   cases hx<;>try (exact hok.elim)
   case ptr nm i j l hl =>
    refine⟨_,run _ _ hok,?_⟩
    simp only[bM,hel']
    have:=Is.ptr (D:=bP X ρ M) (w:=w) (i:=i) (j:=j+n.toNat*s') hl
    simpa [Nat.add_assoc] using this
   case rp cells b o cv hD hb hc hu =>
    refine⟨_,run _ _ hok,?_⟩
    simp only[bM,hel']
    exact Is.rp_drop (.rp cv hD hb hc hu) _
  ·rename_i e hu
   obtain⟨⟨s',g'⟩,hty,he⟩:=Option.map_eq_some_iff.1 hel
   simp only[Prod.mk.injEq]at he
   obtain⟨rfl,rfl,rfl⟩:=he
   obtain⟨h1,_,_⟩:=fu hty w
   have run:∀ b o len cap,n.toNat<len->(Instr.indexAt t (.slice (some ⟨b,o,none⟩) len cap) (.int k n)).run P w = .ok (.pointer (some ⟨b,o+n.toNat*s',none⟩)) w:=fun b o len cap hl=>by
    have hlt:0<=n/\n<(len:Int):=⟨h0,by omega⟩
    simp only[Instr.indexAt,asIntOf,Sem.run_bind,Sem.run_pure,Result.andThen_ok,run_underlying hu w,if_pos hlt,h1,Addr.add_mid]
   cases hx<;>try (first|exact hok.elim|(cases hno;done))
   case sl0=>obtain⟨_,h⟩:=hok;simp at h
   case sl t' sz rows b o c cv hc ht hD hb hr hxx huu =>
    obtain⟨rfl,hlt⟩:=hok
    refine⟨_,run _ _ _ _ hlt,?_⟩
    simp only[bM,List.getElem?_eq_getElem hlt,Option.getD_some]
    exact .rp (fun j=>cv n.toNat j) hD hb (fun j u hj=>hxx _ j _ u (List.getElem?_eq_getElem hlt) hj) (fun j u hj=>huu _ j _ u (List.getElem?_eq_getElem hlt) hj)
   case own0=>obtain⟨_,_,h⟩:=hok;omega
   case own nm lo l' c l hl hlc hc =>
    obtain⟨hM,hsz,hlt⟩:=hok
    obtain⟨kb,hkb⟩:=Option.isSome_iff_exists.1 hM
    have hls:l.sz=s':=by
     rcases h.live nm kb hkb with ⟨_,h2⟩|⟨l2,h2,_,_,⟨cs,e2,_,h3,h4,_⟩|⟨_,_,_,_,_,_,_,_,h4,_⟩⟩
     ·rw[hl]at h2;cases h2
     ·rw[hl]at h2;cases h2
      rw[<- h4,<- hsz,dQ,hkb]
     ·rw[hl]at h2;cases h2
      rw[<- h4,<- hsz,dQ,hkb]
    refine⟨_,run _ _ _ _ hlt,?_⟩
    simp only[bM]
    have:=Is.ptr (D:=bP X ρ M) (w:=w) (i:=lo+n.toNat) (j:=0) hl
    simpa [Nat.add_mul,Nat.add_assoc,hls] using this
def qO (h:Rel G X w0 I ρ M w){t:TypeId}{x i:V}{n:Int}{cx ci:Value}(hx:Is ρ (bP X ρ M) w x cx)(hi:Is ρ (bP X ρ M) w i ci)(hn:oB i=some n)(hok:c7 P t M x n) :
  ∃ c,(Instr.indexAt t cx ci).run P w = .ok c w/\Is ρ (bP X ρ M) w (bM P t M x n) c:=by
 have e1:c7 P t M x.lose n=c7 P t M x n:=by
  cases x<;>try rfl
  simp only[V.lose,c7]
  rcases mL P t with _|⟨_|q,s,g⟩<;>rfl
 have e2:bM P t M x.lose n=bM P t M x n:=by cases x<;>rfl
 obtain⟨c,h1,h2⟩:=pG (P:=P) h hx.lose hi hn (by rw[e1];exact hok) (by cases x<;>rfl)
 exact⟨c,h1,by rw[<- e2];exact h2⟩
def nv (P:Program)(t:TypeId)(x:V)(n:Int):V:=match x with
 | .str s=>.int .u8 ((s[n.toNat]?).getD 0).toNat
 | .agg cells=>match mL P t with|some (_,s,g)=>c8 (n.toNat*s) s g cells|none=>.any
 | _=>.any
def oA (P:Program)(t:TypeId)(x:V)(n:Int):Prop:=0<=n/\match x with
 | .str s=>P.underlying t=some .string/\n.toNat<s.length
 | .agg cells=>match mL P t with|some (some l,s,_)=>0<s/\n.toNat<l/\n.toNat*s+s<=cells.length|_=>False
 | _=>False
def yx {t:TypeId}{x i:V}{n:Int}{cx ci:Value}(hx:Is ρ D w x cx)(hi:Is ρ D w i ci)(hn:oB i=some n)(hok:oA P t x n) :
  ∃ c,(Instr.index t cx ci).run P w = .ok c w/\Is ρ D w (nv P t x n) c:=by
 obtain⟨k,rfl,rfl⟩:=hi.int_inv hn
 obtain⟨h0,hok⟩:=hok
 cases hx<;>try (exact hok.elim)
 case str s =>
  obtain⟨hu,hlt⟩:=hok
  have hg:(⟨s.toArray⟩:ByteArray)[n.toNat]? = some s[n.toNat]:=by
   rw[getElem?_pos (⟨s.toArray⟩:ByteArray) n.toNat (by simpa [ByteArray.size] using hlt)];rfl
  refine⟨.int .u8 s[n.toNat].toNat,?_,?_⟩
  ·simp only[Instr.index,asIntOf,Sem.run_bind,Sem.run_pure,Result.andThen_ok,run_underlying hu w,if_pos h0,hg]
  ·simp only[nv,List.getElem?_eq_getElem hlt,Option.getD_some]
   exact .int _ _
 case agg cells cvs hnn hu' =>
  cases hel:mL P t with
  | none=>rw[hel]at hok;exact hok.elim
  | some y =>
  obtain⟨q,s,g⟩:=y
  rw[hel]at hok
  cases q with
  | none=>exact hok.elim
  | some l =>
  obtain⟨hs,hlt,hle⟩:=hok
  have hel':=hel
  unfold mL at hel
  split at hel<;>try (cases hel;done)
  ·rename_i len e hu
   obtain⟨⟨s',g'⟩,hty,he⟩:=Option.map_eq_some_iff.1 hel
   simp only[Prod.mk.injEq,Option.some.injEq]at he
   obtain⟨rfl,rfl,rfl⟩:=he
   obtain⟨h1,_,_⟩:=fu hty w
   obtain⟨c,c1,c2⟩:=nF (P:=P) (w:=w) hty hnn hu' hs hle
   have hlt':0<=n/\n<(len:Int):=⟨h0,by omega⟩
   refine⟨c,?_,?_⟩
   ·simp only[Instr.index,asIntOf,Sem.run_bind,Sem.run_pure,Result.andThen_ok,run_underlying hu w,if_pos hlt',h1,c1]
   ·simpa only[nv,hel'] using c2
  ·rename_i e hu
   obtain⟨⟨s',g'⟩,hty,he⟩:=Option.map_eq_some_iff.1 hel
   simp at he
end
section
variable {P:Program} {G:Nat->V} {X:Nat->Prop} {w0:World} {I:Nat->Prop} {ρ:Names} {M:ao} {w:World} {D:Nat->Prop}
def iH (hi:Option Int)(n:Nat):Nat:=match hi with|some h=>h.toNat|none=>n
def gY (h:Int)(n:Nat):iH (some h) n=h.toNat:=rfl
def jM (n:Nat):iH none n=n:=rfl
def gJ (x:V)(lo hi mx:Option Int):V :=
 let l:=(lo.getD 0).toNat
 match x with
 | .str s=>.str (match hi with|some h=>(s.drop l).take (h.toNat-l)|none=>s.drop l)
 | .sl t sz rows=>match hi with
  | some h=>.sl (match mx with|some m=>decide (m=h)|none=>t&&decide (h.toNat=rows.length)) sz ((rows.drop l).take (h.toNat-l))
  | none=>.sl t sz (rows.drop l)
 | .own nm b n=>.own nm (b+l) ((iH hi (n))-l)
 | .ownc nm b n c=>.ownc nm (b+l) ((iH hi (n))-l) ((iH mx c)-l)
 | _=>.nils
def rl (P:Program)(t:TypeId)(M:ao)(x:V)(lo hi mx:Option Int):Prop :=
 (∀ l,lo=some l->0<=l)/\(∀ h,hi=some h->0<=h)/\(∀ m,mx=some m->0<=m/\hi.isSome=true) /\
 let l:=(lo.getD 0).toNat
 match x with
 | .str s=>P.underlying t=some .string/\mx=none/\(match hi with|some h=>l<=h.toNat/\h.toNat<=s.length|none=>l<=s.length)
 | .sl _ sz rows=>(∃ g,mL P t=some (none,sz,g))/\(match hi with|some h=>l<=h.toNat/\h.toNat<=rows.length/\(∀ m,mx=some m->h<=m/\m.toNat<=rows.length)|none=>l<=rows.length)
 | .own nm _ n=>(∃ g,mL P t=some (none,dQ M nm,g))/\(M nm).isSome=true/\(match hi with|some h=>l<=h.toNat/\h.toNat<=n/\(∀ m,mx=some m->h<=m/\m.toNat<=n)|none=>l<=n)
 | .ownc nm _ n c=>(∃ g,mL P t=some (none,dQ M nm,g))/\(M nm).isSome=true/\l<=iH hi n/\iH hi n<=iH mx c/\iH mx c<=c/\(hi=none->n<=c)
 | .nils=>(∃ sz g,mL P t=some (none,sz,g))/\l=0/\(∀ h,hi=some h->h=0)/\(∀ m,mx=some m->m=0)
 | _=>False
def tL (v:Option Value)(n:Option Int):Prop:=(v=none/\n=none) \/ ∃ k i,v=some (.int k i)/\n=some i
def run_sliceBound (k:IntKind)(i:Int)(y:Nat)(c:BoundsCode)(h0:0<=i)(h:i.toNat<=y):(Instr.sliceBound (.int k i) y c).run P w = .ok i.toNat w:=by
 have:0<=i/\i<=(y:Int):=⟨h0,by omega⟩
 simp only[Instr.sliceBound,asIntOf,Sem.run_bind,Sem.run_pure,Result.andThen_ok,if_pos this]
def j0 (isS:Bool)(len cap:Nat)(hlc:len<=cap){vl vh vm:Option Value}{lo hi mx:Option Int}(hl:tL vl lo)(hh:tL vh hi)(hm:tL vm mx)
  (h1:∀ l,lo=some l->0<=l) (h2:∀ h,hi=some h->0<=h/\h.toNat<=cap) (h3:∀ m,mx=some m->0<=m/\hi.isSome=true/\m.toNat<=cap) (h4:∀ m h,mx=some m->hi=some h->h<=m)
  (h5:(lo.getD 0).toNat<=(iH hi (len))) :
  (Instr.sliceBounds isS len cap vl vh vm).run P w = .ok ((lo.getD 0).toNat,(iH hi (len)),(iH mx (cap))) w:=by
 rcases hm with ⟨rfl,rfl⟩|⟨km,m,rfl,rfl⟩<;>rcases hh with ⟨rfl,rfl⟩|⟨kh,hv,rfl,rfl⟩<;>rcases hl with ⟨rfl,rfl⟩|⟨kl,l,rfl,rfl⟩
 ·simp[iH,Instr.sliceBounds]
 ·have:=run_sliceBound (P:=P) (w:=w) kl l len .sliceB (h1 l rfl) (by simpa [iH] using h5)
  simp[iH,Instr.sliceBounds,this]
 ·have:=run_sliceBound (P:=P) (w:=w) kh hv cap (if isS then .sliceAcap else .sliceAlen) (h2 hv rfl).1 (h2 hv rfl).2
  simp[iH,Instr.sliceBounds,this]
 ·have a:=run_sliceBound (P:=P) (w:=w) kh hv cap (if isS then .sliceAcap else .sliceAlen) (h2 hv rfl).1 (h2 hv rfl).2
  have b:=run_sliceBound (P:=P) (w:=w) kl l hv.toNat .sliceB (h1 l rfl) (by simpa [iH] using h5)
  simp[iH,Instr.sliceBounds,a,b]
 ·have:=(h3 m rfl).2.1;cases this
 ·have:=(h3 m rfl).2.1;cases this
 ·have a:=run_sliceBound (P:=P) (w:=w) km m cap (if isS then .slice3Acap else .slice3Alen) (h3 m rfl).1 (h3 m rfl).2.2
  have b:=run_sliceBound (P:=P) (w:=w) kh hv m.toNat .slice3B (h2 hv rfl).1 (by have:=h4 m hv rfl rfl;have:=(h3 m rfl).1;omega)
  simp[iH,Instr.sliceBounds,a,b]
 ·have a:=run_sliceBound (P:=P) (w:=w) km m cap (if isS then .slice3Acap else .slice3Alen) (h3 m rfl).1 (h3 m rfl).2.2
  have b:=run_sliceBound (P:=P) (w:=w) kh hv m.toNat .slice3B (h2 hv rfl).1 (by have:=h4 m hv rfl rfl;have:=(h3 m rfl).1;omega)
  have c:=run_sliceBound (P:=P) (w:=w) kl l hv.toNat .slice3C (h1 l rfl) (by simpa [iH] using h5)
  simp[iH,Instr.sliceBounds,a,b,c]
def fq (isS:Bool)(len cap:Nat)(hlc:len<=cap){vl vh vm:Option Value}{lo hi mx:Option Int}(hl:tL vl lo)(hh:tL vh hi)(hm:tL vm mx)
  (h1:∀ l,lo=some l->0<=l) (h2:∀ h,hi=some h->0<=h/\h.toNat<=len) (h3:∀ m,mx=some m->0<=m/\hi.isSome=true/\m.toNat<=cap) (h4:∀ m h,mx=some m->hi=some h->h<=m)
  (h5:(lo.getD 0).toNat<=(iH hi (len))) :
  (Instr.sliceBounds isS len cap vl vh vm).run P w = .ok ((lo.getD 0).toNat,(iH hi (len)),(iH mx (cap))) w :=
 j0 isS len cap hlc hl hh hm h1 (fun h e=>⟨(h2 h e).1,by have:=(h2 h e).2;omega⟩) h3 h4 h5
def ml {t s:Nat}{g:Bool}(h:mL P t=some (none,s,g)):∃ e,P.underlying t=some (.slice e)/\ty P e=some (s,g):=by
 unfold mL at h
 split at h<;>try (cases h;done)
 ·obtain⟨x,_,hx⟩:=Option.map_eq_some_iff.1 h;simp at hx
 ·rename_i e hu
  obtain⟨x,h1,hx⟩:=Option.map_eq_some_iff.1 h
  simp at hx;subst hx
  exact⟨e,hu,h1⟩
def Is.sl_part {t t':Bool}{sz:Nat}{rows:List (List V)}{A:Option Addr}{c l h m:Nat}(hi:Is ρ D w (.sl t sz rows) (.slice A rows.length c))(h1:l<=h)(h2:h<=rows.length)(h3:h<=m)(ht:t'=true->m=h) :
  Is ρ D w (.sl t' sz ((rows.drop l).take (h-l))) (.slice (if m=l then A else A.map (·.add (l*sz))) (h-l) (m-l)):=by
 by_cases he:h=l
 ·subst he
  rw[Nat.sub_self,List.take_zero]
  exact .sl0 (fun e=>by have:=ht e;omega)
 ·have hm:m≠l:=by omega
  rw[if_neg hm]
  have hlen:((rows.drop l).take (h-l)).length=h-l:=by simp;omega
  generalize hq:rows.length=q at hi
  cases hi with
  | sl0=>simp at h2;omega
  | sl cv hc htt hD hb hr hx hu =>
   rename_i b o
   have hget:∀(i:Nat) (row:List V),((rows.drop l).take (h-l))[i]? = some row->rows[l+i]? = some row:=fun i row hi=>by
    rw[List.getElem?_take]at hi
    split at hi
    ·rwa[List.getElem?_drop]at hi
    ·cases hi
   simp only[Option.map_some,Addr.add_mid]
   have hh:=Is.sl (ρ:=ρ) (D:=D) (w:=w) (t:=t') (sz:=sz) (rows:=(rows.drop l).take (h-l)) (b:=b) (o:=o+l*sz) (c:=m-l) (fun i j=>cv (l+i) j) (by omega) (fun e=>by have:=ht e;omega) hD hb
    (fun i row hi=>hr _ row (hget i row hi)) (fun i j row u hi hj=>by have:=hx _ j row u (hget i row hi) hj;rw[Nat.add_mul]at this;rw[<- this];congr 2;omega) (fun i j row u hi hj=>hu _ j row u (hget i row hi) hj)
   rwa[hlen]at hh
def y9 (h:Rel G X w0 I ρ M w){t:TypeId}{x:V}{cx:Value}{vl vh vm:Option Value}{lo hi mx:Option Int}(hl:tL vl lo)(hh:tL vh hi)(hm:tL vm mx)(hx:Is ρ (bP X ρ M) w x cx)(hok:rl P t M x lo hi mx) :
    ∃ c,(Instr.sliceAt t cx vl vh vm).run P w = .ok c w/\Is ρ (bP X ρ M) w (gJ x lo hi mx) c:=by
  obtain⟨k1,k2,k3,hok⟩:=hok
  cases x<;>simp only at hok
  case str s =>
    obtain⟨hu,rfl,hb⟩:=hok
    cases hx
    have hvm:vm=none:=hm.elim (fun h=>h.1) (fun ⟨_,_,_,h⟩=>by cases h)
    subst hvm
    have hbd:(lo.getD 0).toNat<=(iH hi (s.length))/\(iH hi (s.length))<=s.length:=by cases hi<;>simp only[gY,jM]at hb ⊢<;>omega
    have hr:=fq (P:=P) (w:=w) false s.length s.length (Nat.le_refl _) hl hh (.inl ⟨rfl,rfl⟩) k1 (fun h e=>⟨k2 h e,by subst e;exact hbd.2⟩) (fun m e=>by cases e) (fun m _ e _=>by cases e) hbd.1
    refine⟨.string ((⟨s.toArray⟩:ByteArray).extract (lo.getD 0).toNat (iH hi (s.length))),?_,?_⟩
    · simp only[Instr.sliceAt,Sem.run_bind,run_underlying hu w,Result.andThen_ok,Instr.slice,Option.isSome_none,Bool.false_eq_true,if_false,show(⟨s.toArray⟩:ByteArray).size=s.length by simp[ByteArray.size],hr,Sem.run_pure]
    · have e:(⟨s.toArray⟩:ByteArray).extract (lo.getD 0).toNat (iH hi (s.length))=⟨(match hi with|some h=>(s.drop (lo.getD 0).toNat).take (h.toNat-(lo.getD 0).toNat)|none=>s.drop (lo.getD 0).toNat).toArray⟩:=by
        cases hi with
        | some h =>
          simp only
          apply ByteArray.ext
          apply Array.ext'
          simp[iH,ByteArray.extract,ByteArray.copySlice,List.extract_eq_take_drop]
        | none =>
          simp only
          apply ByteArray.ext
          apply Array.ext'
          simp[iH,ByteArray.extract,ByteArray.copySlice,List.extract_eq_take_drop]
          exact List.take_of_length_le (by simp)
      rw[e]
      exact .str _
  case sl tt sz rows =>
    obtain⟨⟨g,hel⟩,hb⟩:=hok
    obtain⟨e,hu,hty⟩:=ml hel
    obtain⟨h1,_,_⟩:=fu hty w
    have hcx:∃ A c,cx = .slice A rows.length c/\rows.length<=c/\(tt=true->c=rows.length):=by
      cases hx with
      | sl0 ht=>exact⟨_,_,rfl,Nat.zero_le _,fun e=>by simpa using ht e⟩
      | sl cv hc ht=>exact⟨_,_,rfl,hc,ht⟩
    obtain⟨A,c,rfl,hc,htt⟩:=hcx
    have hbd:(lo.getD 0).toNat<=(iH hi (rows.length))/\(iH hi (rows.length))<=rows.length:=by cases hi<;>simp only[gY,jM]at hb ⊢<;>omega
    have hmx:∀ m,mx=some m -> ∃ h,hi=some h/\h<=m/\m.toNat<=rows.length:=fun m e=>by
      cases hi with
      | none=>have:=(k3 m e).2;cases this
      | some h=>exact⟨h,rfl,hb.2.2 m e⟩
    have hr:=fq (P:=P) (w:=w) true rows.length c hc hl hh hm k1 (fun h e=>⟨k2 h e,by subst e;exact hbd.2⟩) (fun m e=>⟨(k3 m e).1,(k3 m e).2,by obtain⟨_,_,_,h⟩:=hmx m e;omega⟩)
      (fun m h e e'=>by obtain⟨h',q1,q2,_⟩:=hmx m e;rw[e']at q1;cases q1;exact q2) hbd.1
    refine⟨_,by simp only[Instr.sliceAt,Sem.run_bind,run_underlying hu w,Result.andThen_ok,Instr.slice,hr,h1,Sem.run_pure];rfl,?_⟩
    simp only[gJ]
    cases hi with
    | none =>
      have hmn:mx=none:=by cases mx with|none=>rfl|some m=>obtain⟨_,q,_⟩:=hmx m rfl;cases q
      subst hmn
      have hp:=Is.sl_part (t':=tt) (l:=(lo.getD 0).toNat) (h:=rows.length) (m:=c) hx hbd.1 (Nat.le_refl _) hc htt
      rwa[List.take_of_length_le (by simp)]at hp
    | some h =>
      simp only at hb ⊢
      refine Is.sl_part (l:=(lo.getD 0).toNat) (h:=h.toNat) hx hb.1 hb.2.1 ?_ ?_
      · cases mx with
        | none=>simp only[jM];omega
        | some m=>obtain⟨_,q1,q2,_⟩:=hmx m rfl;cases q1;simp only[gY];omega
      · cases mx with
        | none=>simp only[Bool.and_eq_true,decide_eq_true_eq];rintro ⟨a,b⟩;rw[jM,htt a,b]
        | some m=>simp only[decide_eq_true_eq];rintro rfl;rfl
  case own nm b n =>
    obtain⟨⟨g,hel⟩,hM,hb⟩:=hok
    obtain⟨e,hu,hty⟩:=ml hel
    obtain⟨h1,_,_⟩:=fu hty w
    have hcx:∃ A c,cx = .slice A n c/\n<=c:=by
      cases hx with
      | own0=>exact⟨_,_,rfl,Nat.le_refl _⟩
      | own _ _ hc=>exact⟨_,_,rfl,hc⟩
    obtain⟨A,c,rfl,hc⟩:=hcx
    have hbd:(lo.getD 0).toNat<=(iH hi (n))/\(iH hi (n))<=n:=by cases hi<;>simp only[gY,jM]at hb ⊢<;>omega
    have hmx:∀ m,mx=some m -> ∃ h,hi=some h/\h<=m/\m.toNat<=n:=fun m e=>by
      cases hi with
      | none=>have:=(k3 m e).2;cases this
      | some h=>exact⟨h,rfl,hb.2.2 m e⟩
    have hr:=fq (P:=P) (w:=w) true n c hc hl hh hm k1 (fun h e=>⟨k2 h e,by subst e;exact hbd.2⟩) (fun m e=>⟨(k3 m e).1,(k3 m e).2,by obtain⟨_,_,_,h⟩:=hmx m e;omega⟩)
      (fun m h e e'=>by obtain⟨h',q1,q2,_⟩:=hmx m e;rw[e']at q1;cases q1;exact q2) hbd.1
    have hmc:(iH hi (n))<=(iH mx (c))/\(iH mx (c))<=c:=by
      cases mx with
      | none=>simp only[jM];omega
      | some m=>obtain⟨_,q1,q2,q3⟩:=hmx m rfl;subst q1;simp only[gY];have:=(k3 m rfl).1;omega
    refine⟨_,by simp only[Instr.sliceAt,Sem.run_bind,run_underlying hu w,Result.andThen_ok,Instr.slice,hr,h1,Sem.run_pure];rfl,?_⟩
    have hsv:gJ (.own nm b n) lo hi mx = .own nm (b+(lo.getD 0).toNat) ((iH hi (n))-(lo.getD 0).toNat):=rfl
    rw[hsv]
    generalize (iH hi (n))=hh' at *
    generalize (iH mx (c))=mm' at *
    generalize (lo.getD 0).toNat=ll' at *
    by_cases hml:mm'=ll'
    · have h0:hh'-ll'=0:=by omega
      rw[h0,show mm'-ll'=0 by omega]
      exact .own0
    · rw [if_neg hml]
      cases hx with
      | own0=>omega
      | own hρ hlc hnc =>
        rename_i l
        have hls:l.sz=dQ M nm:=by
          obtain⟨kb,hkb⟩:=Option.isSome_iff_exists.1 hM
          rcases h.live nm kb hkb with ⟨_,h2⟩|⟨l2,h2,_,_,⟨cs,e2,_,h3,h4,_⟩|⟨_,_,_,_,_,_,_,_,h4,_⟩⟩
          · rw[hρ]at h2;cases h2
          · rw[hρ]at h2;cases h2
            rw[<- h4,dQ,hkb]
          · rw[hρ]at h2;cases h2
            rw[<- h4,dQ,hkb]
        have:=Is.own (D:=bP X ρ M) (w:=w) (lo:=b+ll') (n:=hh'-ll') (c:=mm'-ll') hρ (by omega) (by omega)
        simp only[Option.map_some,Addr.add_mid]
        rw[<- hls]
        rwa[Nat.add_mul,<- Nat.add_assoc]at this
  case ownc nm b n c =>
    obtain⟨⟨g,hel⟩,hM,hb1,hb2,hb3,hb4⟩:=hok
    obtain⟨e,hu,hty⟩:=ml hel
    obtain⟨h1,_,_⟩:=fu hty w
    have hcx:∃ A,cx = .slice A n c/\n<=c:=by
      cases hx with
      | ownc0=>exact⟨_,rfl,Nat.le_refl _⟩
      | ownc _ _ hc _=>exact⟨_,rfl,hc⟩
    obtain⟨A,rfl,hc⟩:=hcx
    have hr:=j0 (P:=P) (w:=w) true n c hc hl hh hm k1 (fun h e=>⟨k2 h e,by subst e;simp only[gY]at hb2;omega⟩) (fun m e=>⟨(k3 m e).1,(k3 m e).2,by subst e;simp only[gY]at hb3;omega⟩)
      (fun m h e e'=>by subst e;subst e';simp only[gY]at hb2;have:=(k3 m rfl).1;have:=k2 h rfl;omega) hb1
    refine⟨_,by simp only[Instr.sliceAt,Sem.run_bind,run_underlying hu w,Result.andThen_ok,Instr.slice,hr,h1,Sem.run_pure];rfl,?_⟩
    have hsv:gJ (.ownc nm b n c) lo hi mx = .ownc nm (b+(lo.getD 0).toNat) ((iH hi (n))-(lo.getD 0).toNat) ((iH mx c)-(lo.getD 0).toNat):=rfl
    rw[hsv]
    clear hr hsv hb4
    generalize (iH hi (n))=hh' at *
    generalize (iH mx (c))=mm' at *
    generalize (lo.getD 0).toNat=ll' at *
    by_cases hml:mm'=ll'
    · have h0:hh'-ll'=0:=by omega
      rw[h0,show mm'-ll'=0 by omega]
      exact .ownc0
    · rw [if_neg hml]
      cases hx with
      | ownc0=>omega
      | ownc hρ hlc hnc hcp =>
        rename_i l
        have hls:l.sz=dQ M nm:=by
          obtain⟨kb,hkb⟩:=Option.isSome_iff_exists.1 hM
          rcases h.live nm kb hkb with ⟨_,h2⟩|⟨l2,h2,_,_,⟨cs,e2,_,h3,h4,_⟩|⟨_,_,_,_,_,_,_,_,h4,_⟩⟩
          · rw[hρ]at h2;cases h2
          · rw[hρ]at h2;cases h2
            rw[<- h4,dQ,hkb]
          · rw[hρ]at h2;cases h2
            rw[<- h4,dQ,hkb]
        have:=Is.ownc (D:=bP X ρ M) (w:=w) (lo:=b+ll') (n:=hh'-ll') (c:=mm'-ll') hρ (by omega) (by omega) (by omega)
        simp only[Option.map_some,Addr.add_mid]
        rw[<- hls]
        rwa[Nat.add_mul,<- Nat.add_assoc]at this
  case nils =>
    obtain⟨⟨sz,g,hel⟩,hl0,hh0,hm0⟩:=hok
    obtain⟨e,hu,hty⟩:=ml hel
    obtain⟨h1,_,_⟩:=fu hty w
    cases hx
    have hr:=fq (P:=P) (w:=w) true 0 0 (Nat.le_refl _) hl hh hm k1 (fun h e=>by rw[hh0 h e];simp) (fun m e=>by rw[hm0 m e];exact⟨by simp,(k3 m e).2,by simp⟩) (fun m h e e'=>by rw[hm0 m e,hh0 h e'];simp) (by rw[hl0];exact Nat.zero_le _)
    have e1:iH hi 0=0:=by cases hi with|none=>rfl|some h=>rw[hh0 h rfl];rfl
    have e2:iH mx 0=0:=by cases mx with|none=>rfl|some h=>rw[hm0 h rfl];rfl
    rw[e1,e2,hl0]at hr
    refine⟨_,by simp only[Instr.sliceAt,Sem.run_bind,run_underlying hu w,Result.andThen_ok,Instr.slice,hr,h1,Sem.run_pure];rfl,?_⟩
    exact .nils
end
section
variable {P:Program} {G:Nat->V} {X:Nat->Prop} {w0:World} {I:Nat->Prop} {ρ:Names} {M:ao} {w:World} {D:Nat->Prop}
def dc (op:BinOp)(k:IntKind)(a b:Int):V:=match op with
 | .add=>.int k (k.wrap (a+b))
 | .sub=>.int k (k.wrap (a-b))
 | .mul=>.int k (k.wrap (a*b))
 | .quo=>.int k (k.wrap (a.tdiv b))
 | .rem=>.int k (a.tmod b)
 | .and=>.int k (k.wrap (BitVec.ofInt k.bits a &&& BitVec.ofInt k.bits b).toNat)
 | .or=>.int k (k.wrap (BitVec.ofInt k.bits a ||| BitVec.ofInt k.bits b).toNat)
 | .xor=>.int k (k.wrap (BitVec.ofInt k.bits a ^^^ BitVec.ofInt k.bits b).toNat)
 | .andNot=>.int k (k.wrap (BitVec.ofInt k.bits a &&& ~~~ BitVec.ofInt k.bits b).toNat)
 | .shl=>.int k (k.wrap (a*2 ^ (min b.toNat k.bits)))
 | .shr=>.int k (a.fdiv (2 ^ (min b.toNat k.bits)))
 | .eql=>.bool (a==b)
 | .neq=>.bool (a != b)
 | .lss=>.bool (decide (a<b))
 | .leq=>.bool (decide (a<=b))
 | .gtr=>.bool (decide (a>b))
 | .geq=>.bool (decide (a ≥ b))
def gZ (op:BinOp)(k k':IntKind)(b:Int):Prop:=match op with
 | .shl | .shr=>0<=b
 | .quo | .rem=>k=k'/\b≠0
 | _=>k=k'
def wy (op:BinOp)(t:TypeId)(k k':IntKind)(a b:Int)(hok:gZ op k k' b):∃ c,(binOp op t (.int k a) (.int k' b)).run P w = .ok c w/\Is ρ D w (dc op k a b) c:=by
  cases op<;>simp only[gZ]at hok<;>first
    |(obtain⟨rfl,hb⟩:=hok;simp[binOp,Op.intDiv,hb,dc];exact .int _ _)
    |(subst hok;simp[binOp,Op.intArith,Op.intBits,Op.intCmp,dc];first|exact .int _ _|exact .bool _)
    | (have:¬ b<0:=by omega
       simp[binOp,Op.shift,this,dc];exact .int _ _)
def jz (op:BinOp)(a b:List UInt8):V:=match op with
 | .add=>.str (a++b)
 | .eql=>.bool (a==b)
 | .neq=>.bool (!(a==b))
 | .lss=>.bool (Op.bytesLess a b)
 | .leq=>.bool (Op.bytesLess a b||a==b)
 | .gtr=>.bool (!(Op.bytesLess a b||a==b))
 | .geq=>.bool (!(Op.bytesLess a b))
 | _=>.any
def eP (op:BinOp)(a b:List UInt8):Prop:=match op with
 | .add=>a.length+b.length<=9223372036854775807
 | .eql | .neq | .lss | .leq | .gtr | .geq=>True
 | _=>False
def DV (a b:List UInt8):((⟨a.toArray⟩:ByteArray)++⟨b.toArray⟩)=⟨(a++b).toArray⟩:=by
 apply ByteArray.ext
 apply Array.ext'
 simp
def wZ (op:BinOp)(t:TypeId)(a b:List UInt8)(hok:eP op a b):∃ c,(binOp op t (.string ⟨a.toArray⟩) (.string ⟨b.toArray⟩)).run P w = .ok c w/\Is ρ D w (jz op a b) c:=by
 cases op<;>simp only[eP]at hok<;>try (exact hok.elim)
 case add =>
  have h:(⟨a.toArray⟩:ByteArray).size+(⟨b.toArray⟩:ByteArray).size<=9223372036854775807:=by simpa [ByteArray.size] using hok
  refine⟨.string ⟨(a++b).toArray⟩,?_,.str _⟩
  simp only[binOp,run_string_add_sum w _ _ h,DV]
 all_goals
  refine⟨_,(by simp only[binOp,Op.stringOp,ByteArray.toList_mk,Sem.run_pure];rfl),?_⟩
  exact .bool _
def sk (P:Program)(t:TypeId):Option (List (Nat×Nat)) :=
 match P.stoodInHeld t,P.eqGuardType P.depth t,P.underlying t with
 | false, false, some (.struct fs) => fs.toList.mapM fun f => if f.name = "_" then none else match P.underlying f.type, ty P f.type with
   | some (.int _),some (1,false)=>some (f.offset,0)
   | some .string,some (1,false)=>some (f.offset,1)
   | some .bool,some (1,false)=>some (f.offset,2)
   | _,_=>none
 | _,_,_=>none
def z8 (kd:Nat)(x y:Option V):Option Bool:=match kd,x,y with
 | 0,some (.int k a),some (.int k' b)=>if k=k' then some (a==b) else none
 | 1,some (.str a),some (.str b)=>some (a==b)
 | 2,some (.bool a),some (.bool b)=>some (a==b)
 | _,_,_=>none
def Ji (xs ys:List V):List (Nat×Nat)->Bool
 | []=>true
 |(o,kd)::r=>(z8 kd xs[o]? ys[o]?).getD false&&Ji xs ys r
def xN (xs ys:List V):List (Nat×Nat)->Prop
 | []=>True
 |(o,kd)::r=>(z8 kd xs[o]? ys[o]?).isSome=true/\xN xs ys r
def Jl {x y:Option V}(h:(z8 0 x y).isSome=true):∃ k a b,x=some (.int k a)/\y=some (.int k b):=by
 unfold z8 at h
 split at h<;>try (simp at *;done)
 split at h
 ·rename_i hk;subst hk;exact⟨_,_,_,rfl,rfl⟩
 ·cases h
def Jm {x y:Option V}(h:(z8 1 x y).isSome=true):∃ a b,x=some (.str a)/\y=some (.str b):=by
 unfold z8 at h
 split at h<;>first|exact⟨_,_,rfl,rfl⟩|(simp at *;done)
def FL {x y:Option V}(h:(z8 2 x y).isSome=true):∃ a b,x=some (.bool a)/\y=some (.bool b):=by
 unfold z8 at h
 split at h<;>first|exact⟨_,_,rfl,rfl⟩|(simp at *;done)
def lB {xs ys:List V}{cx cy:Array Value}(d:Nat)(hx:Is ρ D w (.agg xs) (.agg cx))(hy:Is ρ D w (.agg ys) (.agg cy)):∀(fs:List Field) (l:List (Nat×Nat)),
  fs.mapM (fun f => if f.name = "_" then none else match P.underlying f.type, ty P f.type with
   | some (.int _),some (1,false)=>some (f.offset,0)
   | some .string,some (1,false)=>some (f.offset,1)
   | some .bool,some (1,false)=>some (f.offset,2)
   | _,_=>none)=some l->xN xs ys l->(Op.eqFields (d+1) cx cy fs).run P w = .ok (Ji xs ys l) w
 | [],l,h,_=>by simp at h;subst h;simp[Op.eqFields,Ji]
 | f::fs,l,h,hok=>by
  simp only[List.mapM_cons,Option.bind_eq_bind,Option.pure_def]at h
  obtain⟨y,hy1,h⟩:=Option.bind_eq_some_iff.1 h
  obtain⟨l',hl',h⟩:=Option.bind_eq_some_iff.1 h
  cases h
  obtain⟨o,kd⟩:=y
  obtain⟨hs,hr⟩:=hok
  have ih:=lB d hx hy fs l' hl' hr
  split at hy1
  ·cases hy1
  rename_i hname
  have part1:∀ {zs:List V} {cz:Array Value},Is ρ D w (.agg zs) (.agg cz) -> ∀(g:Nat×Bool),ty P f.type=some (1,false) -> ∀ u,zs[f.offset]? = some u -> ∃ c,(part f.type cz f.offset).run P w = .ok c w/\Is ρ D w u c:=by
   intro zs cz hz _ hty u hu
   cases hz with
   | agg hn hc =>
    have hlt:=(List.getElem?_eq_some_iff.1 hu).1
    obtain⟨c,c1,c2⟩:=nF (P:=P) (w:=w) hty hn hc (o:=f.offset) (by omega) (by omega)
    refine⟨c,c1,?_⟩
    simpa [c8,hu] using c2
  have fin:∀(b:Bool),(∃ a1 a2,(part f.type cx f.offset).run P w = .ok a1 w/\(part f.type cy f.offset).run P w = .ok a2 w/\(Op.equalIn (d+1) f.type a1 a2).run P w = .ok b w) ->
    (Op.eqFields (d+1) cx cy (f::fs)).run P w = .ok (b&&Ji xs ys l') w:=by
   rintro b ⟨a1,a2,h1,h2,h3⟩
   simp only[Op.eqFields,hname,ne_eq,not_false_eq_true,if_true,Sem.run_bind,h1,h2,h3,Result.andThen_ok]
   cases b
   ·simp
   ·simpa using ih
  simp only[Ji]
  split at hy1
  ·rename_i k0 hu hty
   cases hy1
   obtain⟨ka,a,b,e1,e2⟩:=Jl hs
   simp only[e1,e2,z8,if_true]
   obtain⟨c1,h1,h2⟩:=part1 hx (0,true) hty _ e1
   obtain⟨c2,h3,h4⟩:=part1 hy (0,true) hty _ e2
   cases h2;cases h4
   exact fin _ ⟨_,_,h1,h3,run_equalIn_int w d f.type ka k0 a b hu⟩
  ·rename_i hu hty
   cases hy1
   obtain⟨a,b,e1,e2⟩:=Jm hs
   simp only[e1,e2,z8]
   obtain⟨c1,h1,h2⟩:=part1 hx (0,true) hty _ e1
   obtain⟨c2,h3,h4⟩:=part1 hy (0,true) hty _ e2
   cases h2;cases h4
   refine fin _ ⟨_,_,h1,h3,?_⟩
   rw[run_equalIn_string w d f.type _ _ hu]
   simp
  ·rename_i hu hty
   cases hy1
   obtain⟨a,b,e1,e2⟩:=FL hs
   simp only[e1,e2,z8]
   obtain⟨c1,h1,h2⟩:=part1 hx (0,true) hty _ e1
   obtain⟨c2,h3,h4⟩:=part1 hy (0,true) hty _ e2
   cases h2;cases h4
   exact fin _ ⟨_,_,h1,h3,run_equalIn_bool' w d f.type a b hu⟩
  ·cases hy1
def Ol (P:Program)(t:TypeId):Bool:=match P.underlying t with|some (.map _ _)=>true|_=>false
def sD (P:Program)(t:TypeId):Bool:=match P.underlying t with|some (.interface _)=>true|_=>false
def je (P:Program)(op:BinOp)(t:TypeId)(x y:V):V:=match x,y with
 | .int k a,.int _ b=>dc op k a b
 | .str a,.str b=>jz op a b
 | .bool a,.bool b=>.bool (if op = .eql then a==b else a != b)
 | .agg xs,.agg ys=>match sk P t with
  | some l=>.bool (if op = .eql then Ji xs ys l else !(Ji xs ys l))
  | none=>.any
 | .nils,.nils=>.bool (decide (op = .eql))
 | .sl _ _ rows,.nils=>if op = .eql then .bit rows.isEmpty true else .bit true rows.isEmpty
 | .own _ _ n,.nils=>if op = .eql then .bit (decide (n=0)) true else .bit true (decide (n=0))
 | _,.nils=>.bool (decide (op = .neq))
 | .nilp,.nilp=>.bool (decide (op = .eql))
 | _,.nilp=>.bool (decide (op = .neq))
 | .ptr a i j,.ptr a' i' j'=>if a=a'/\i=i'/\j=j' then .bool (decide (op = .eql)) else .any
 | .val .nilIface,.val .nilIface=>.bool (decide (op = .eql))
 | .iface _ _,.val .nilIface=>.bool (decide (op = .neq))
 | .mp _,.val (.map none)=>.bool (decide (op = .neq))
 | _,_=>.any
def fV (P:Program)(op:BinOp)(t:TypeId)(x y:V):Prop:=match x,y with
 | .int k _,.int k' b=>gZ op k k' b
 | .str a,.str b=>eP op a b
 | .bool _,.bool _=>(op = .eql\/op = .neq)/\P.underlying t=some .bool
 | .agg xs,.agg ys=>(op = .eql\/op = .neq)/\match sk P t with
  | some l=>xN xs ys l
  | none=>False
 | .nils,.nils=>(op = .eql\/op = .neq)/\bY P t=true/\P.underlying t≠some .string
 | .sl _ _ _,.nils=>(op = .eql\/op = .neq)/\bY P t=true/\P.underlying t≠some .string
 | .own _ _ _,.nils=>(op = .eql\/op = .neq)/\bY P t=true/\P.underlying t≠some .string
 | .nilp,.nilp=>(op = .eql\/op = .neq) /\ ∃ e,P.underlying t=some (.pointer e)
 | .ptr _ _ _,.nilp=>(op = .eql\/op = .neq) /\ ∃ e,P.underlying t=some (.pointer e)
 | .rp _,.nilp=>(op = .eql\/op = .neq) /\ ∃ e,P.underlying t=some (.pointer e)
 | .ptr a i j,.ptr a' i' j'=>(a=a'/\i=i'/\j=j')/\(op = .eql\/op = .neq) /\ ∃ e,P.underlying t=some (.pointer e)/\(P.info? e).isSome=true
 | .val .nilIface,.val .nilIface=>(op = .eql\/op = .neq)/\sD P t=true
 | .iface _ _,.val .nilIface=>(op = .eql\/op = .neq)/\sD P t=true
 | .mp _,.val (.map none)=>(op = .eql\/op = .neq)/\Ol P t=true
 | _,_=>False
def qV (op:BinOp)(t:TypeId)(ox oy:Operand)(a b:Value)(h1:a ≠ .nilIface)(h2:∀ c,a ≠ .agg c):(eqGuard op t ox oy a b).run P w = .ok () w:=by
 unfold eqGuard
 cases op<;>cases a<;>simp_all
def eO (d:Nat)(t e:TypeId)(a b:Option Addr)(hu:P.underlying t=some (.pointer e))(h:a=none\/b=none):(Op.equalIn (d+1) t (.pointer a) (.pointer b)).run P w = .ok (a.isNone&&b.isNone) w:=by
 rcases h with rfl|rfl
 ·simp[Op.equalIn,run_underlying hu]
 ·cases a<;>simp[Op.equalIn,run_underlying hu]
def dd (d:Nat)(t e:TypeId)(a:Option Addr)(n c:Nat)(hu:P.underlying t=some (.slice e)):(Op.equalIn (d+1) t (.slice a n c) (.slice none 0 0)).run P w = .ok a.isNone w:=by
 cases a<;>simp[Op.equalIn,run_underlying hu]
def jb {t:TypeId}(h1:bY P t=true)(h2:P.underlying t≠some .string):∃ e,P.underlying t=some (.slice e):=by
 unfold bY at h1
 split at h1
 ·exact absurd ‹_› h2
 ·exact⟨_,‹_›⟩
 ·cases h1
def cu {op:BinOp}(ho:op = .eql\/op = .neq)(t:TypeId)(a b:Value)(hb:binOp .eql t a b=(do pure (.bool (<- Op.equal t a b))))(hb':binOp .neq t a b=(do pure (.bool (!(<- Op.equal t a b)))))(r:Bool)
  (h:(Op.equalIn 10000 t a b).run P w = .ok r w):(binOp op t a b).run P w = .ok (.bool (if op = .eql then r else !r)) w:=by
 rcases ho with rfl|rfl
 ·rw[hb];simp[Op.equal,Op.maxDepth,h]
 ·rw[hb'];simp[Op.equal,Op.maxDepth,h]
def pU (d:Nat)(t:TypeId){e:TypeId}{i:TypeInfo}(a:Addr)(hu:P.underlying t=some (.pointer e))(hi:P.info? e=some i):(Op.equalIn (d+1) t (.pointer (some a)) (.pointer (some a))).run P w = .ok true w:=by
 simp[Op.equalIn,run_underlying hu,sizeOf,typeInfo,hi,run_sameAddr_same]
def pT (d:Nat)(t:TypeId){ms:Array (String×TypeId)}(hu:P.underlying t=some (.interface ms)):(Op.equalIn (d+1) t .nilIface .nilIface).run P w = .ok true w:=by
 simp[Op.equalIn,run_underlying hu]
def pS (d:Nat)(t u:TypeId)(v:Value){ms:Array (String×TypeId)}(hu:P.underlying t=some (.interface ms)):(Op.equalIn (d+1) t (.iface u v) .nilIface).run P w = .ok false w:=by
 simp[Op.equalIn,run_underlying hu]
def qU (d:Nat)(t:TypeId){k e:TypeId}(p:Nat)(hu:P.underlying t=some (.map k e)):(Op.equalIn (d+1) t (.map (some p)) (.map none)).run P w = .ok false w:=by
 simp[Op.equalIn,run_underlying hu]
def V.isNilI:V->Bool
 | .val .nilIface=>true
 | _=>false
def isConst:Operand->Bool
 | .const _=>true
 | _=>false
def CL (op:BinOp)(t:TypeId)(ox oy:Operand){x y:V}{cx cy:Value}(hx:Is ρ D w x cx)(hy:Is ρ D w y cy)(hok:fV P op t x y)(hnil:x.isNilI=true->(isConst ox||isConst oy)=true) :
  ∃ c,(do eqGuard op t ox oy cx cy;binOp op t cx cy:Sem Value).run P w = .ok c w/\Is ρ D w (je P op t x y) c:=by
 have start:∀ c,cx ≠ .nilIface->(∀ c,cx ≠ .agg c)->(binOp op t cx cy).run P w = .ok c w->(do eqGuard op t ox oy cx cy;binOp op t cx cy:Sem Value).run P w = .ok c w:=fun c h1 h2 h3=>by
  rw[Sem.run_bind,qV op t ox oy cx cy h1 h2,Result.andThen_ok,h3]
 have nilNil:x.isNilI=true->y.isNilI=true -> ∃ c,(do eqGuard op t ox oy cx cy;binOp op t cx cy:Sem Value).run P w = .ok c w/\Is ρ D w (je P op t x y) c:=by
  intro h1 h2
  have e:∀ z:V,z.isNilI=true->z = .val .nilIface:=fun z hz=>by
   cases z<;>try (simp[V.isNilI]at hz;done)
   rename_i v
   cases v<;>first|rfl|(simp[V.isNilI]at hz;done)
  have hc:=hnil h1
  have ex:=e x h1;have ey:=e y h2
  subst ex;subst ey
  cases hx;cases hy
  simp only[fV]at hok
  obtain⟨ho,hi⟩:=hok
  unfold sD at hi
  split at hi
  ·rename_i ms hu
   have hg:(eqGuard op t ox oy .nilIface .nilIface).run P w = .ok () w:=by
    unfold eqGuard
    rw[Bool.or_eq_true]at hc
    rcases hc with hc|hc
    ·cases ox<;>first|(cases hc;done)|(rcases ho with rfl|rfl<;>simp)
    ·cases oy<;>first|(cases hc;done)|(rcases ho with rfl|rfl<;>simp)
   refine⟨.bool (decide (op = .eql)),?_,by simp only[je];exact .bool _⟩
   rw[Sem.run_bind,hg,Result.andThen_ok,cu ho t _ _ (by simp[binOp]) (by simp[binOp]) true (pT 9999 t hu)]
   rcases ho with rfl|rfl<;>rfl
  ·cases hi
 by_cases hnn:x.isNilI=true/\y.isNilI=true
 ·exact nilNil hnn.1 hnn.2
 cases hx<;>cases hy<;>(try simp only[fV]at hok)<;>try (exact hok.elim)
 case bool.bool a b =>
  obtain⟨ho,hu⟩:=hok
  refine⟨_,start _ (by simp) (by simp) (cu ho t _ _ (by simp[binOp]) (by simp[binOp]) _ (run_equalIn_bool' w 9999 t a b hu)),?_⟩
  simp only[je]
  rcases ho with rfl|rfl
  ·exact .bool _
  ·simp only[reduceCtorEq,if_false]
   exact .bool _
 case int.int k a k' b =>
  obtain⟨c,h1,h2⟩:=wy (P:=P) (w:=w) (ρ:=ρ) (D:=D) op t k k' a b hok
  exact⟨c,start _ (by simp) (by simp) h1,h2⟩
 case str.str a b =>
  obtain⟨c,h1,h2⟩:=wZ (P:=P) (w:=w) (ρ:=ρ) (D:=D) op t a b hok
  exact⟨c,start _ (by simp) (by simp) h1,h2⟩
 case agg.agg xs cvx hn1 hu1 ys cvy hn2 hu2 =>
  obtain⟨ho,hok⟩:=hok
  cases hfl:sk P t with
  | none=>rw[hfl]at hok;exact hok.elim
  | some l =>
   rw[hfl]at hok
   have hfl':=hfl
   unfold sk at hfl
   split at hfl
   ·rename_i fs c1 c2 c3'
    have c3:P.underlying t=some (.struct (P.fieldsOf t)):=by simp[Program.fieldsOf,c3']
    have cf:P.fieldsOf t=fs:=by simp[Program.fieldsOf,c3']
    rw[<- cf]at hfl
    have he:=lB (P:=P) (w:=w) (ρ:=ρ) (D:=D) 9998 (.agg hn1 hu1) (.agg hn2 hu2) _ l hfl hok
    have hq:=run_equalIn_agg (P:=P) w 9999 t cvx cvy c3 c1
    rw[he]at hq
    refine⟨_,by rw[Sem.run_bind,run_eqGuard_agg (P:=P) w op t ox oy cvx cvy c2,Result.andThen_ok];exact cu ho t _ _ (by simp[binOp]) (by simp[binOp]) _ hq,?_⟩
    simp only[je,hfl']
    exact .bool _
   ·cases hfl
 case nilp.nilp =>
  obtain⟨ho,e,hu⟩:=hok
  refine⟨_,start _ (by simp) (by simp) (cu ho t _ _ (by simp[binOp]) (by simp[binOp]) true (eO 9999 t e _ _ hu (.inr rfl))),?_⟩
  rcases ho with rfl|rfl<;>exact .bool _
 case ptr.nilp =>
  obtain⟨ho,e,hu⟩:=hok
  refine⟨_,start _ (by simp) (by simp) (cu ho t _ _ (by simp[binOp]) (by simp[binOp]) false (eO 9999 t e _ _ hu (.inr rfl))),?_⟩
  rcases ho with rfl|rfl<;>exact .bool _
 case ptr.ptr a i j l hl a' i' j' l' hl' =>
  obtain⟨⟨rfl,rfl,rfl⟩,ho,e,hu,hi⟩:=hok
  rw[hl]at hl';cases hl'
  obtain⟨inf,hinf⟩:=Option.isSome_iff_exists.1 hi
  refine⟨_,start _ (by simp) (by simp) (cu ho t _ _ (by simp[binOp]) (by simp[binOp]) true (pU 9999 t _ hu hinf)),?_⟩
  simp only[je,and_self,if_true]
  rcases ho with rfl|rfl<;>exact .bool _
 case val.val =>
  exfalso
  split at hok<;>simp_all [V.isNilI]
 case iface.val tt v cv hv =>
  split at hok<;>first|(exfalso;simp_all;done)|skip
  rename_i _ _ q1 q2
  cases q2
  obtain⟨ho,hi⟩:=hok
  unfold sD at hi
  split at hi
  ·rename_i ms hu
   refine⟨_,start _ (by simp) (by simp) (cu ho t _ _ (by simp[binOp]) (by simp[binOp]) false (pS 9999 t _ _ hu)),?_⟩
   rcases ho with rfl|rfl<;>exact .bool _
  ·cases hi
 case mp.val y l hl =>
  split at hok<;>first|(exfalso;simp_all;done)|skip
  rename_i _ _ q1 q2
  cases q2
  obtain⟨ho,hi⟩:=hok
  unfold Ol at hi
  split at hi
  ·rename_i k e hu
   have h0:=qU (P:=P) (w:=w) 9999 t l.b hu
   refine⟨_,start _ (by simp) (by simp) (cu ho t _ _ (by simp[binOp]) (by simp[binOp]) false h0),?_⟩
   rcases ho with rfl|rfl<;>exact .bool _
  ·cases hi
 case rp.nilp =>
  obtain⟨ho,e,hu⟩:=hok
  refine⟨_,start _ (by simp) (by simp) (cu ho t _ _ (by simp[binOp]) (by simp[binOp]) false (eO 9999 t e _ _ hu (.inr rfl))),?_⟩
  rcases ho with rfl|rfl<;>exact .bool _
 case nils.nils =>
  obtain⟨ho,h1,h2⟩:=hok
  obtain⟨e,hu⟩:=jb h1 h2
  refine⟨_,start _ (by simp) (by simp) (cu ho t _ _ (by simp[binOp]) (by simp[binOp]) true (dd 9999 t e _ _ _ hu)),?_⟩
  rcases ho with rfl|rfl<;>exact .bool _
 case sl0.nils A _ _ =>
  obtain⟨ho,h1,h2⟩:=hok
  obtain⟨e,hu⟩:=jb h1 h2
  refine⟨_,start _ (by simp) (by simp) (cu ho t _ _ (by simp[binOp]) (by simp[binOp]) A.isNone (dd 9999 t e _ _ _ hu)),?_⟩
  rcases ho with rfl|rfl<;>exact .bit _ (fun _=>rfl) (fun _=>rfl)
 case sl.nils =>
  obtain⟨ho,h1,h2⟩:=hok
  obtain⟨e,hu⟩:=jb h1 h2
  refine⟨_,start _ (by simp) (by simp) (cu ho t _ _ (by simp[binOp]) (by simp[binOp]) false (dd 9999 t e _ _ _ hu)),?_⟩
  rcases ho with rfl|rfl
  ·exact .bit _ (fun h=>by cases h) (fun _=>rfl)
  ·exact .bit _ (fun _=>rfl) (fun h=>by cases h)
 case own0.nils A =>
  obtain⟨ho,h1,h2⟩:=hok
  obtain⟨e,hu⟩:=jb h1 h2
  refine⟨_,start _ (by simp) (by simp) (cu ho t _ _ (by simp[binOp]) (by simp[binOp]) A.isNone (dd 9999 t e _ _ _ hu)),?_⟩
  rcases ho with rfl|rfl<;>exact .bit _ (fun _=>rfl) (fun _=>rfl)
 case own.nils =>
  obtain⟨ho,h1,h2⟩:=hok
  obtain⟨e,hu⟩:=jb h1 h2
  refine⟨_,start _ (by simp) (by simp) (cu ho t _ _ (by simp[binOp]) (by simp[binOp]) false (dd 9999 t e _ _ _ hu)),?_⟩
  rcases ho with rfl|rfl
  ·exact .bit _ (fun h=>by cases h) (fun _=>rfl)
  ·exact .bit _ (fun _=>rfl) (fun h=>by cases h)
end
section
variable {P:Program} {G:Nat->V} {X:Nat->Prop} {w0:World} {I:Nat->Prop} {ρ:Names} {M:ao} {w:World} {D:Nat->Prop}
def Nn (op:UnOp)(x:V):V:=match op,x with
 | .not,.bool b=>.bool (!b)
 | .not,.bit t f=>.bit f t
 | .neg,.int k n=>.int k (k.wrap (0-n))
 | .xor,.int k n=>dc .xor k (if k.signed then -1 else k.max) n
 | _,_=>.any
def zl (op:UnOp)(x:V):Prop:=match op,x with
 | .not,.bool _=>True
 | .not,.bit _ _=>True
 | .neg,.int _ _=>True
 | .xor,.int _ _=>True
 | _,_=>False
def H8 (op:UnOp){x:V}{cx:Value}(hx:Is ρ D w x cx)(hok:zl op x):∃ c,(Op.unary op cx).run P w = .ok c w/\Is ρ D w (Nn op x) c:=by
 cases op<;>cases hx<;>simp only[zl]at hok<;>try (exact hok.elim)
 ·exact⟨_,by simp only[Op.unary,Op.intArith,Sem.run_pure],.int _ _⟩
 ·exact⟨_,by simp only[Op.unary,Op.intBits,Sem.run_pure],.int _ _⟩
 ·exact⟨_,by simp only[Op.unary,Sem.run_pure],.bool _⟩
 ·rename_i b ht hf
  exact⟨.bool (!b),by simp only[Op.unary,Sem.run_pure],.bit (!b) (fun h=>hf (by simpa using h)) (fun h=>ht (by simpa using h))⟩
def iw (c:Bool)(a b:V):V:=match a.strip c,b.strip (!c) with
 | .bool x,.bool y=>.bool (if c then x else y)
 | a,b=>if c then a else b
def AY {c:Bool}{a b:V}{ca cb:Value}(ha:Is ρ D w a ca)(hb:Is ρ D w b cb):Is ρ D w (iw c a b) (if c then ca else cb):=by
 have h1:c=true->Is ρ D w (a.strip c) ca:=fun h=>ha.strip h
 have h2:c=false->Is ρ D w (b.strip (!c)) cb:=fun h=>hb.strip (by simp[h])
 unfold iw
 split
 ·rename_i x y e1 e2
  rw[e1]at h1;rw[e2]at h2
  cases c
  ·simpa using h2 rfl
  ·simpa using h1 rfl
 ·cases c
  ·simpa using h2 rfl
  ·simpa using h1 rfl
def jH (P:Program)(dst:TypeId)(x:V):V:=match P.underlying dst,x with
 | some (.int k),.int _ n=>.int k (k.wrap n)
 | some .string,.int _ n=>.str (Utf8.encode n).data.toList
 | _,x=>x
def mi (P:Program)(src dst:TypeId)(x:V):Prop:=match P.underlying src,P.underlying dst,x with
 | some (.int _),some (.int _),.int _ _=>True
 | some .string,some .string,.str _=>True
 | some (.int _),some .string,.int _ _=>True
 | _,_,_=>False
def zX {src dst:TypeId}{x:V}{cx:Value}(hx:Is ρ D w x cx)(hok:mi P src dst x):∃ c,(convert src dst cx).run P w = .ok c w/\Is ρ D w (jH P dst x) c:=by
 unfold mi at hok
 split at hok
 ·rename_i k1 k2 k n h1 h2
  cases hx
  refine⟨.int k2 (k2.wrap n),by simp[convert,run_underlying h1,run_underlying h2,Conv.intToInt],?_⟩
  simp only[jH,h2]
  exact .int _ _
 ·rename_i s h1 h2
  cases hx
  refine⟨.string ⟨s.toArray⟩,by simp[convert,run_underlying h1,run_underlying h2],?_⟩
  simp only[jH,h2]
  exact .str _
 ·rename_i k1 k n h1 h2
  cases hx
  refine⟨.string (Utf8.encode n),by simp[convert,run_underlying h1,run_underlying h2,Conv.intToString],?_⟩
  simp only[jH,h2]
  exact .str _
 ·exact hok.elim
def jo (mx:Bool):V->V->V
 | .int k a,.int _ b=>.int k (if mx then max a b else min a b)
 | _,_=>.any
def g9:V->V->Prop
 | .int _ _,.int _ _=>True
 | _,_=>False
def DO {ts:Array TypeId}{t:TypeId}{a b:V}{ca cb:Value}(ha:Is ρ D w a ca)(hb:Is ρ D w b cb)(hok:g9 a b):∃ c,(Builtin.max_ ts t #[ca,cb]).run P w = .ok c w/\Is ρ D w (jo true a b) c:=by
 cases ha<;>cases hb<;>simp only[g9]at hok
 rename_i k a k' b
 have e:(if b>a then b else a)=max a b:=by omega
 refine⟨.int k (max a b),by simp[Builtin.max_,Builtin.max2,e],?_⟩
 simp only[jo,if_true]
 exact .int _ _
def DU {ts:Array TypeId}{t:TypeId}{a b:V}{ca cb:Value}(ha:Is ρ D w a ca)(hb:Is ρ D w b cb)(hok:g9 a b):∃ c,(Builtin.min_ ts t #[ca,cb]).run P w = .ok c w/\Is ρ D w (jo false a b) c:=by
 cases ha<;>cases hb<;>simp only[g9]at hok
 rename_i k a k' b
 have e:(if b<a then b else a)=min a b:=by omega
 refine⟨.int k (min a b),by simp[Builtin.min_,Builtin.min2,e],?_⟩
 simp only[jo,Bool.false_eq_true,if_false]
 exact .int _ _
def lG (i:Nat):V->V
 | .tup vs=>(vs[i]?).getD .any
 | _=>.any
def jJ (i:Nat):V->Prop
 | .tup vs=>i<vs.length
 | _=>False
def tV {i:Nat}{x:V}{cx:Value}(hx:Is ρ D w x cx)(hok:jJ i x):∃ c,(Instr.extract cx i).run P w = .ok c w/\Is ρ D w (lG i x) c:=by
 cases hx<;>simp only[jJ]at hok
 rename_i vs cvs hn hu
 have h:i<cvs.size:=by omega
 refine⟨cvs[i],by simp only[Instr.extract,Array.getElem?_eq_getElem h,Sem.run_pure],?_⟩
 simp only[lG,List.getElem?_eq_getElem hok,Option.getD_some]
 exact hu i _ _ (List.getElem?_eq_getElem hok) (Array.getElem?_eq_getElem h)
def io (P:Program)(t:TypeId):Option (List V×List (Nat×Nat)) :=
 match P.info? t,P.underlying t with
 | some it,some (.struct fs)=>match it.zero,fs.toList.mapM (fun f=>(P.info? f.type).map fun i=>(f.offset,i.size)) with
  | some z,some pl=>some (z.cells.toList.map lh,pl)
  | _,_=>none
 | some it,some (.array n e)=>match it.zero,P.info? e with
  | some z,some ie=>some (z.cells.toList.map lh,(List.range n).map fun i=>(i*ie.size,ie.size))
  | _,_=>none
 | _,_=>none
def kg (pl:List (Nat×Nat))(cells:List V):List (Nat×V)->List V
 | []=>cells
 |(i,v)::r=>kg pl (bv cells ((pl[i]?).getD (0,0)).1 v.cellsV) r
def jG (pl:List (Nat×Nat))(n:Nat):List (Nat×V)->Prop
 | []=>True
 |(i,v)::r=>(match pl[i]? with|some (o,s)=>v.cellsV.length=s/\o+s<=n|none=>False)/\v.cellsV.all V.one=true/\jG pl n r
def iL (ρ:Names)(D:Nat->Prop)(w:World)(cells:List V)(cs:Array Value):Prop:=cells.length=cs.size /\ ∀(i:Nat) (u:V),cells[i]? = some u -> ∃ c,cs[i]? = some c/\Is ρ D w u c
def iL.splice {cells:List V}{cs:Array Value}(h:iL ρ D w cells cs){v:V}{cv:Value}(hv:Is ρ D w v cv)(hone:v.cellsV.all V.one=true){o:Nat}(ho:o+v.cellsV.length<=cells.length) :
  iL ρ D w (bv cells o v.cellsV) (cv.cells.zipIdx.foldl (fun cs (x:Value×Nat)=>cs.setIfInBounds (o+x.2) x.1) cs):=by
 obtain⟨h1,_,h3⟩:=hv.cells hone
 obtain⟨g1,g2⟩:=Great.foldl_set o cv.cells.toList 0 cs
 have e:cv.cells.zipIdx.foldl (fun cs (x:Value×Nat)=>cs.setIfInBounds (o+x.2) x.1) cs=(cv.cells.toList.zipIdx 0).foldl (fun cs (x:Value×Nat)=>cs.setIfInBounds (o+x.2) x.1) cs:=by
  rw[<- Array.foldl_toList];simp
 rw[e]
 refine⟨by rw[dP ho,g1];exact h.1,fun i u hi=>?_⟩
 rw[cC ho]at hi
 rw[g2]
 by_cases q1:i<o
 ·rw[if_pos q1]at hi
  rw[if_neg (by omega)]
  exact h.2 i u hi
 ·rw[if_neg q1]at hi
  by_cases q2:i<o+v.cellsV.length
  ·rw[if_pos q2]at hi
   rw[if_pos ⟨by omega,by simp;omega,by have:=h.1;omega⟩]
   obtain⟨c,c1,c2⟩:=h3 _ u hi
   exact⟨c,by simpa using c1,c2⟩
  ·rw[if_neg q2]at hi
   rw[if_neg (by simp;omega)]
   exact h.2 i u hi
def nh (pl:List (Nat×Nat))(place:Nat->Option (Nat×Nat))(hpl:∀ i x,pl[i]? = some x->place i=some x):∀(parts:List (Nat×V)) (cparts:List (Nat×Value)) (cells:List V) (cs:Array Value),
    iL ρ D w cells cs->parts.length=cparts.length->(∀(j:Nat) (a:Nat×V) (b:Nat×Value),parts[j]? = some a->cparts[j]? = some b->a.1=b.1/\Is ρ D w a.2 b.2)->jG pl cells.length parts ->
    ∃ cs',Instr.fill place cs cparts=some cs'/\iL ρ D w (kg pl cells parts) cs'
  | [],[],cells,cs,h,_,_,_=>⟨cs,rfl,h⟩
  | [],_::_,_,_,_,hl,_,_=>by simp at hl
  | _::_,[],_,_,_,hl,_,_=>by simp at hl
  |(i,v)::r,(i',cv)::cr,cells,cs,h,hl,hp,hok=>by
    obtain⟨e1,hv⟩:=hp 0 (i,v) (i',cv) rfl rfl
    simp only at e1 hv;subst e1
    simp only[jG]at hok
    obtain⟨hok1,hone,hok2⟩:=hok
    cases hq:pl[i]? with
    | none=>rw[hq]at hok1;exact hok1.elim
    | some y =>
      obtain⟨o,s⟩:=y
      rw[hq]at hok1
      obtain⟨hs,ho⟩:=hok1
      have hv1:=(hv.cells hone).1
      have hlen:o+v.cellsV.length<=cells.length:=by omega
      have hsp:=h.splice hv hone hlen
      obtain⟨cs',f1,f2⟩:=nh pl place hpl r cr _ _ hsp (by simpa using hl) (fun j a b ha hb=>hp (j+1) a b (by simpa using ha) (by simpa using hb)) (by rw[dP hlen];exact hok2)
      refine⟨cs',?_,by simpa only[kg,hq,Option.getD_some] using f2⟩
      simp only[Instr.fill,hpl i _ hq]
      rw[if_neg (by have:=h.1;simp;omega)]
      exact f1
def tI (z:Value):iL ρ D w (z.cells.toList.map lh) z.cells:=by
 refine⟨by simp,fun i u hi=>?_⟩
 rw[List.getElem?_map]at hi
 obtain⟨c,h2,rfl⟩:=Option.map_eq_some_iff.1 hi
 exact⟨c,by simpa using h2,rf _ _ _ _⟩
def rL (P:Program)(t:TypeId)(parts:List (Nat×V)):V:=match io P t with
 | some (z,pl)=>.agg (kg pl z parts)
 | none=>.any
def ra (P:Program)(t:TypeId)(parts:List (Nat×V)):Prop:=match io P t with
 | some (z,pl)=>jG pl z.length parts
 | none=>False
def xy {t:TypeId}{parts:List (Nat×V)}{cparts:Array (Nat×Value)}(hl:parts.length=cparts.size)(hp:∀(j:Nat) (a:Nat×V) (b:Nat×Value),parts[j]? = some a->cparts[j]? = some b->a.1=b.1/\Is ρ D w a.2 b.2)
  (hok:ra P t parts):∃ c,(Instr.build t cparts).run P w = .ok c w/\Is ρ D w (rL P t parts) c:=by
 unfold ra at hok
 cases hsh:io P t with
 | none=>rw[hsh]at hok;exact hok.elim
 | some y =>
  obtain⟨z,pl⟩:=y
  rw[hsh]at hok
  have hb:rL P t parts = .agg (kg pl z parts):=by simp only[rL,hsh]
  rw[hb]
  have done:∀ cells,P.built t cparts.toList=some cells->iL ρ D w (kg pl z parts) cells -> ∃ c,(Instr.build t cparts).run P w = .ok c w/\Is ρ D w (.agg (kg pl z parts)) c:=fun cells h1 h2 =>
   ⟨.agg cells,run_build w t cparts cells h1,.agg h2.1 (fun i u cv hi hc=>by obtain⟨c,c1,c2⟩:=h2.2 i u hi;rw[c1]at hc;cases hc;exact c2)⟩
  unfold io at hsh
  split at hsh
  ·rename_i it fs hi hu
   split at hsh
   ·rename_i zv pl' hz hpl
    simp only[Option.some.injEq,Prod.mk.injEq]at hsh
    obtain⟨rfl,rfl⟩:=hsh
    obtain⟨cs',f1,f2⟩:=nh (ρ:=ρ) (D:=D) (w:=w) pl' (fun x=>pl'.toArray[x]?) (fun i x h=>by simpa using h) parts cparts.toList _ _ (tI zv) (by simpa using hl) (fun j a b ha hb=>hp j a b ha (by simpa using hb)) hok
    exact done cs' (by simp only[Program.built,hi,hu,hz,hpl];exact f1) f2
   ·cases hsh
  ·rename_i it n e hi hu
   split at hsh
   ·rename_i zv ie hz hie
    simp only[Option.some.injEq,Prod.mk.injEq]at hsh
    obtain⟨rfl,rfl⟩:=hsh
    obtain⟨cs',f1,f2⟩:=nh (ρ:=ρ) (D:=D) (w:=w) ((List.range n).map fun i=>(i*ie.size,ie.size)) (fun i=>some (i*ie.size,ie.size)) (fun i x h=>by
     rw[List.getElem?_map]at h
     obtain⟨y,h1,rfl⟩:=Option.map_eq_some_iff.1 h
     have:=(List.getElem?_eq_some_iff.1 h1).2
     simp at this
     rw[this]) parts cparts.toList _ _ (tI zv) (by simpa using hl) (fun j a b ha hb=>hp j a b ha (by simpa using hb)) hok
    exact done cs' (by simp only[Program.built,hi,hu,hz,hie];exact f1) f2
   ·cases hsh
  ·cases hsh
end
def cp (P:Program)(t:TypeId):Option (List V×Nat):=match P.underlying t with
 | some (.slice e)=>match P.info? e with
  | some i=>match i.zero with
   | some z=>if z.cells.size=i.size/\0<i.size then some (z.cells.toList.map lh,i.bytes) else none
   | none=>none
  | none=>none
 | _=>none
section
variable {P:Program} {G:Nat->V} {X:Nat->Prop} {w0:World} {I:Nat->Prop} {ρ:Names} {M:ao} {w:World} {D:Nat->Prop}
def eH {t:TypeId}{zc:List V}{bytes:Nat}(h:cp P t=some (zc,bytes)):∃ e i z,P.underlying t=some (.slice e)/\P.info? e=some i/\i.zero=some z/\z.cells.size=i.size/\0<i.size/\zc=z.cells.toList.map lh/\zc.length=i.size/\i.bytes=bytes:=by
 unfold cp at h
 split at h<;>try (cases h;done)
 rename_i e hu
 split at h<;>try (cases h;done)
 rename_i i hi
 split at h<;>try (cases h;done)
 rename_i z hz
 split at h<;>try (cases h;done)
 rename_i hc
 simp only[Option.some.injEq,Prod.mk.injEq]at h
 obtain⟨rfl,rfl⟩:=h
 exact⟨e,i,z,hu,hi,hz,hc.1,hc.2,rfl,by simp[hc.1],rfl⟩
def cI (ρ:Names)(D:Nat->Prop)(w:World)(s:Nat)(rows:List (List V))(cs:Array Value):Prop :=
 rows.length*s<=cs.size/\(∀(i:Nat) (row:List V),rows[i]? = some row->row.length=s) /\ ∀(i j:Nat) (row:List V) (u:V),rows[i]? = some row->row[j]? = some u -> ∃ c,cs[i*s+j]? = some c/\Is ρ D w u c
def nK {s i j n:Nat}(hi:i<n)(hj:j<s):i*s+j<n*s:=by
 have:(i+1)*s<=n*s:=Nat.mul_le_mul_right _ hi
 rw[Nat.succ_mul]at this;omega
def kU (rows:List (List V)):List (Nat×V)->List (List V)
 | []=>rows
 |(i,v)::r=>kU (rows.set i v.cellsV) r
def mm (s len:Nat):List (Nat×V)->Prop
 | []=>True
 |(i,v)::r=>i<len/\v.cellsV.length=s/\v.cellsV.all V.one=true/\mm s len r
def vX (rows:List (List V))(parts:List (Nat×V)):(kU rows parts).length=rows.length:=by
 induction parts generalizing rows with
 | nil=>rfl
 | cons p r ih=>obtain⟨i,v⟩:=p;simp only[kU];rw[ih];simp
def qn (s:Nat):∀(parts:List (Nat×V)) (cparts:List (Nat×Value)) (rows:List (List V)) (cs:Array Value),
    cI ρ D w s rows cs->parts.length=cparts.length->(∀(j:Nat) (a:Nat×V) (b:Nat×Value),parts[j]? = some a->cparts[j]? = some b->a.1=b.1/\Is ρ D w a.2 b.2)->mm s rows.length parts ->
    ∃ cs',Instr.fill (fun i=>some (i*s,s)) cs cparts=some cs'/\cs'.size=cs.size/\cI ρ D w s (kU rows parts) cs'
  | [],[],rows,cs,h,_,_,_=>⟨cs,rfl,rfl,h⟩
  | [],_::_,_,_,_,hl,_,_=>by simp at hl
  | _::_,[],_,_,_,hl,_,_=>by simp at hl
  |(i,v)::r,(i',cv)::cr,rows,cs,h,hl,hp,hok=>by
    obtain⟨e1,hv⟩:=hp 0 (i,v) (i',cv) rfl rfl
    simp only at e1 hv;subst e1
    simp only[mm]at hok
    obtain⟨hi,hs,hone,hok2⟩:=hok
    obtain⟨h1,_,h3⟩:=hv.cells hone
    obtain⟨g1,g2⟩:=Great.foldl_set (i*s) cv.cells.toList 0 cs
    have e:cv.cells.zipIdx.foldl (fun cs (x:Value×Nat)=>cs.setIfInBounds (i*s+x.2) x.1) cs=(cv.cells.toList.zipIdx 0).foldl (fun cs (x:Value×Nat)=>cs.setIfInBounds (i*s+x.2) x.1) cs:=by
      rw[<- Array.foldl_toList];simp
    rw[<- e]at g1 g2
    have hend:i*s+s<=cs.size:=by
      have:(i+1)*s<=rows.length*s:=Nat.mul_le_mul_right _ hi
      rw[Nat.succ_mul]at this
      have:=h.1;omega
    have hstep:cI ρ D w s (rows.set i v.cellsV) (cv.cells.zipIdx.foldl (fun cs (x:Value×Nat)=>cs.setIfInBounds (i*s+x.2) x.1) cs):=by
      refine⟨by rw[List.length_set,g1];exact h.1,?_,?_⟩
      · intro k row hk
        rw[List.getElem?_set]at hk
        by_cases q:i=k
        · subst q;rw[if_pos rfl,if_pos hi]at hk;cases hk;exact hs
        · rw[if_neg q]at hk;exact h.2.1 k row hk
      · intro k j row u hk hj
        rw[List.getElem?_set]at hk
        rw[g2]
        by_cases q:i=k
        · subst q
          rw[if_pos rfl,if_pos hi]at hk;cases hk
          have hj':=(List.getElem?_eq_some_iff.1 hj).1
          rw[if_pos ⟨by omega,by simp;omega,by omega⟩]
          obtain⟨c,c1,c2⟩:=h3 j u hj
          refine⟨c,?_,c2⟩
          rw[show i*s+j-(i*s+0)=j by omega]
          simpa using c1
        · rw [if_neg q]at hk
          have hj':j<s:=by
            have:=(List.getElem?_eq_some_iff.1 hj).1
            rwa[h.2.1 k row hk]at this
          have hold:=h.2.2 k j row u hk hj
          have hlen:cv.cells.toList.length=s:=by simp;omega
          rw[if_neg ?_]
          · exact hold
          · rintro ⟨a1,a2,_⟩
            rcases Nat.lt_or_gt_of_ne q with hlt|hgt
            · have:(i+1)*s<=k*s:=Nat.mul_le_mul_right _ hlt
              rw[Nat.succ_mul]at this;omega
            · have:(k+1)*s<=i*s:=Nat.mul_le_mul_right _ hgt
              rw[Nat.succ_mul]at this;omega
    obtain⟨cs',f1,f2,f3⟩:=qn s r cr _ _ hstep (by simpa using hl) (fun j a b ha hb=>hp (j+1) a b (by simpa using ha) (by simpa using hb)) (by rw[List.length_set];exact hok2)
    refine⟨cs',?_,by rw[f2,g1],f3⟩
    simp only[Instr.fill]
    rw[if_neg (by simp;omega)]
    exact f1
def tH {zc:List V}{z:Value}{s:Nat}(hz:z.cells.size=s)(hs:0<s)(hzc:zc=z.cells.toList.map lh)(n:Nat)(cs:Array Value)(hcs:cs.size=n*s)(hg:∀ k,k<n*s->cs[k]? = some (z.cells[k % s]!)) :
  cI ρ D w s (List.replicate n zc) cs:=by
 have hl:zc.length=s:=by rw[hzc];simp[hz]
 refine⟨by simp[hcs],?_,?_⟩
 ·intro i row hi
  rw[List.getElem?_replicate]at hi
  split at hi
  ·cases hi;exact hl
  ·cases hi
 ·intro i j row u hi hj
  rw[List.getElem?_replicate]at hi
  split at hi
  ·rename_i hin
   cases hi
   have hj':j<s:=by rw[<- hl];exact(List.getElem?_eq_some_iff.1 hj).1
   have hlt:=nK hin hj'
   rw[hg _ hlt]
   refine⟨_,rfl,?_⟩
   have hm:(i*s+j) % s=j:=by rw[Nat.mul_comm,Nat.mul_add_mod];exact Nat.mod_eq_of_lt hj'
   rw[hm]
   obtain⟨c,c1,c2⟩:=(tI (ρ:=ρ) (D:=D) (w:=w) z).2 j u (by rw[<- hzc];exact hj)
   have:z.cells[j]! = c:=by
    rw[getElem!_def,c1]
   rw[this];exact c2
  ·cases hi
def gU (P:Program)(t:TypeId)(len:Nat)(parts:List (Nat×V)):Blk:=match cp P t with
 | some (zc,_)=>⟨zc.length,kU (List.replicate len zc) parts⟩
 | none=>⟨0,[]⟩
def iy (P:Program)(t:TypeId)(len:Nat)(parts:List (Nat×V)):Prop:=match cp P t with
 | some (zc,_)=>len*zc.length<=2 ^ 24/\len<=maxLen/\mm zc.length len parts
 | none=>False
def pk (h:Rel G X w0 I ρ M w){nm:Nat}(hM:M nm=none)(hρ:ρ nm=none){t:TypeId}{len:Nat}{parts:List (Nat×V)}{cparts:Array (Nat×Value)}(hl:parts.length=cparts.size)
  (hp:∀(j:Nat) (a:Nat×V) (b:Nat×Value),parts[j]? = some a->cparts[j]? = some b->a.1=b.1/\Is ρ (bP X ρ M) w a.2 b.2) (hok:iy P t len parts) :
  ∃ c w',(Instr.buildSlice t len cparts).run P w = .ok c w'/\cV G X w0 I ρ M w nm (.own nm 0 len) (M.put nm (some (gU P t len parts))) c w':=by
 unfold iy at hok
 cases hel:cp P t with
 | none=>rw[hel]at hok;exact hok.elim
 | some y =>
  obtain⟨zc,bytes⟩:=y
  rw[hel]at hok
  obtain⟨hsmall,hmax,hfill⟩:=hok
  obtain⟨e,i,z,hu,hi,hz,hzs,hpos,hzc,hzl,hb⟩:=eH hel
  rw[hzl]at hsmall hfill
  have hK:gU P t len parts=⟨i.size,kU (List.replicate len zc) parts⟩:=by simp only[gU,hel,hzl]
  rw[hK]
  have main:∀(zero:Array Value),(len*i.size≠0->zero=z.cells) -> ∃ cells,Instr.fill (fun k=>some (k*i.size,i.size)) ((Array.range (len*i.size)).map (zero[· % zero.size]!)) cparts.toList=some cells /\
    cI ρ (bP X ρ M) w i.size (kU (List.replicate len zc) parts) cells/\cells.size=len*i.size:=fun zero hzero=>by
   have hrows:cI ρ (bP X ρ M) w i.size (List.replicate len zc) ((Array.range (len*i.size)).map (zero[· % zero.size]!)):=by
    by_cases h0:len*i.size=0
    ·have:len=0:=by
      rcases Nat.mul_eq_zero.1 h0 with h|h
      ·exact h
      ·omega
     subst this
     exact⟨by simp,fun i row h=>by simp at h,fun i j row u h=>by simp at h⟩
    ·rw[hzero h0]
     refine tH hzs hpos hzc len _ (by simp) (fun k hk=>?_)
     simp[hk,hzs]
   obtain⟨cs',f1,f2,f3⟩:=qn i.size parts cparts.toList _ _ hrows (by simpa using hl) (fun j a b ha hb=>hp j a b ha (by simpa using hb)) (by simpa using hfill)
   exact⟨cs',f1,f3,by rw[f2];simp⟩
  obtain⟨cells,m1,m2,m3⟩:=main (if len*i.size=0 then #[] else z.cells) (fun h=>by rw[if_neg h])
  have hlen:(kU (List.replicate len zc) parts).length=len:=by rw[vX];simp
  obtain⟨r1,r2⟩:=h.alloc hM hρ cells e ⟨i.size,kU (List.replicate len zc) parts⟩ len (by rw[hlen];exact Nat.le_refl _) (by rw[m3];exact Nat.le_refl _) m2.2.1 m2.2.2
  refine⟨.slice (some ⟨w.heap.size,0,none⟩) len len,w.alloc (.cells cells e),?_,ρ.put nm ⟨w.heap.size,0,i.size,len⟩,r1,r2,?_,fun x hx=>Names.put_ne _ _ hx⟩
  ·by_cases h0:len*i.size=0
   ·rw[if_pos h0]at m1
    rw[h0]at m1
    have h01:¬ 0>2 ^ 24:=by omega
    simp at m1
    simp[Instr.buildSlice,run_underlying hu,sizeOf,typeInfo,hi,h0,newRow,m1]
   ·rw[if_neg h0]at m1
    exact run_buildSlice w t e len cparts cells i z hu hi hz (by omega) h0 m1
  ·have:=Is.own (ρ:=ρ.put nm ⟨w.heap.size,0,i.size,len⟩) (D:=bP X (ρ.put nm ⟨w.heap.size,0,i.size,len⟩) (M.put nm (some ⟨i.size,kU (List.replicate len zc) parts⟩))) (w:=w.alloc (.cells cells e)) (nm:=nm) (lo:=0) (n:=len) (c:=len) (l:=⟨w.heap.size,0,i.size,len⟩) (Names.put_same _ _ _) (by simp) (Nat.le_refl _)
   simpa using this
end
section
variable {P:Program} {G:Nat->V} {X:Nat->Prop} {w0:World} {I:Nat->Prop} {ρ:Names} {M:ao} {w:World} {D:Nat->Prop}
def aL (b:UInt8):List V:=[.int .u8 b.toNat]
def aK (M:ao):V->List (List V)
 | .sl _ _ rows=>rows
 | .own nm lo n=>((bE M nm).drop lo).take n
 | .ownc nm lo n _=>((bE M nm).drop lo).take n
 | .str s=>s.map aL
 | _=>[]
def dW (M:ao)(s:Nat):V->Prop
 | .nils=>True
 | .sl _ sz _=>sz=s
 | .own nm lo n=>(M nm).isSome=true/\dQ M nm=s/\lo+n<=(bE M nm).length
 | .ownc nm lo n _=>(M nm).isSome=true/\dQ M nm=s/\lo+n<=(bE M nm).length
 | .str _=>s=1
 | _=>False
def GH (h:Rel G X w0 I ρ M w){nm:Nat}{l:Loc}(hM:(M nm).isSome=true)(hl:ρ nm=some l):l.sz=dQ M nm:=by
 obtain⟨kb,hkb⟩:=Option.isSome_iff_exists.1 hM
 rcases h.live nm kb hkb with ⟨_,h2⟩|⟨l2,h2,_,_,⟨cs,e2,_,h3,h4,_⟩|⟨_,_,_,_,_,_,_,_,h4,_⟩⟩
 ·rw[hl]at h2;cases h2
 ·rw[hl]at h2;cases h2
  rw[<- h4,dQ,hkb]
 ·rw[hl]at h2;cases h2
  rw[<- h4,dQ,hkb]
def wY (h:Rel G X w0 I ρ M w){s:Nat}(hs:0<s){x:V}{cx:Value}(hx:Is ρ (bP X ρ M) w x cx)(hok:dW M s x)(hno:x.lose=x) :
  (Builtin.lenOf cx).run P w = .ok (aK M x).length w /\ ∀ k,k<=(aK M x).length -> ∃ arr,(Builtin.firstCells s k cx).run P w = .ok arr w/\arr.size=k*s/\cI ρ (bP X ρ M) w s ((aK M x).take k) arr:=by
 -- cells that lie there are loaded
 have cellsOf:∀(b o n c:Nat) (rows:List (List V)),rows.length=n->(∀(i:Nat) (row:List V),rows[i]? = some row->row.length=s) ->
   (∀(i j:Nat) (row:List V) (u:V),rows[i]? = some row->row[j]? = some u -> ∃ c,w.cell? ⟨b,o+i*s+j,none⟩=some c/\Is ρ (bP X ρ M) w u c) ->
   ∀ k,k<=n -> ∃ arr,(Builtin.firstCells s k (.slice (some ⟨b,o,none⟩) n c)).run P w = .ok arr w/\arr.size=k*s/\cI ρ (bP X ρ M) w s (rows.take k) arr:=by
  intro b o n c rows hn hr hc k hkn
  have hget:∀ q,q<k*s -> ∃ row u,rows[q / s]? = some row/\row[q % s]? = some u:=fun q hq=>by
   have h0:q / s<k:=Nat.div_lt_of_lt_mul (by rwa[Nat.mul_comm])
   have h1:q / s<rows.length:=by omega
   have h2:=hr _ _ (List.getElem?_eq_getElem h1)
   have h3:q % s<(rows[q / s]).length:=by rw[h2];exact Nat.mod_lt _ hs
   exact⟨_,_,List.getElem?_eq_getElem h1,List.getElem?_eq_getElem h3⟩
  have hl:=run_loadCells (P:=P) w ⟨b,o,none⟩ (k*s) (fun q=>(w.cell? ⟨b,o+q,none⟩).getD undef) (fun q hq=>by
   obtain⟨row,u,a1,a2⟩:=hget q hq
   obtain⟨c,a3,_⟩:=hc _ _ row u a1 a2
   have e:o+q / s*s+q % s=o+q:=by rw[Nat.add_assoc];congr 1;rw[Nat.mul_comm];exact Nat.div_add_mod q s
   rw[e]at a3
   rw[Addr.add_mid,a3];rfl)
  have hlen:(rows.take k).length=k:=by simp;omega
  have htk:∀(i:Nat) (row:List V),(rows.take k)[i]? = some row->i<k/\rows[i]? = some row:=fun i row hi=>by
   have hik:=(List.getElem?_eq_some_iff.1 hi).1
   rw[hlen]at hik
   rw[List.getElem?_take,if_pos hik]at hi
   exact⟨hik,hi⟩
  refine⟨_,hl,by simp,by simp[hlen],fun i row hi=>hr i row (htk i row hi).2,?_⟩
  intro i j row u hi hj
  obtain⟨hi',hi2⟩:=htk i row hi
  obtain⟨c,a1,a2⟩:=hc i j row u hi2 hj
  have hj':j<s:=by rw[<- hr i row hi2];exact(List.getElem?_eq_some_iff.1 hj).1
  refine⟨c,?_,a2⟩
  rw[Nat.add_assoc]at a1
  simp[nK hi' hj',a1]
 have none0:∀(A:Option Addr) (c k:Nat),k<=0 -> ∃ arr,(Builtin.firstCells s k (.slice A 0 c)).run P w = .ok arr w/\arr.size=k*s/\cI ρ (bP X ρ M) w s (([]:List (List V)).take k) arr:=fun A c k hk=>by
  have:k=0:=by omega
  subst this
  refine⟨#[],?_,by simp,by simp[cI]⟩
  cases A<;>simp[Builtin.firstCells,loadCells,loadCellsFrom]
 cases x<;>simp only[dW]at hok<;>try (first|exact hok.elim|(cases hno;done))
 case nils =>
  cases hx
  refine⟨by simp[Builtin.lenOf,aK],fun k hk=>?_⟩
  exact none0 none 0 k (by simpa [aK] using hk)
 case str l =>
  subst hok
  cases hx
  refine⟨by simp[Builtin.lenOf,aK,ByteArray.size],fun k hk=>⟨_,by simp only[Builtin.firstCells,Sem.run_pure];rfl,?_,?_,?_,?_⟩⟩
  ·simp only[aK,List.length_map]at hk
   simp[ByteArray.extract,ByteArray.copySlice];omega
  ·simp only[aK,List.length_map]at hk
   simp[aK,ByteArray.extract,ByteArray.copySlice]
  ·intro i row hi
   have hik:=List.mem_of_getElem? hi
   have:=List.mem_of_mem_take hik
   simp only[aK,List.mem_map]at this
   obtain⟨b,_,rfl⟩:=this
   rfl
  ·intro i j row u hi hj
   have hik:i<k:=by have:=(List.getElem?_eq_some_iff.1 hi).1;simp at this;omega
   rw[List.getElem?_take,if_pos hik]at hi
   simp only[aK,List.getElem?_map]at hi
   obtain⟨b,hb,rfl⟩:=Option.map_eq_some_iff.1 hi
   cases j with
   | succ j=>simp[aL]at hj
   | zero =>
    simp only[aL,List.getElem?_cons_zero,Option.some.injEq]at hj
    subst hj
    refine⟨.int .u8 b.toNat,?_,.int _ _⟩
    have hlt:=(List.getElem?_eq_some_iff.1 hb).1
    have hb':=(List.getElem?_eq_some_iff.1 hb).2
    simp[ByteArray.extract,ByteArray.copySlice,hlt,hb',hik]
 case sl t sz rows =>
  subst hok
  cases hx with
  | sl0 ht=>exact⟨by simp[Builtin.lenOf,aK],fun k hk=>none0 _ _ k (by simpa [aK] using hk)⟩
  | sl cv hc ht hD hb hr hxx hu =>
   rename_i b o c
   refine⟨by simp[Builtin.lenOf,aK],?_⟩
   exact cellsOf b o rows.length c rows rfl hr (fun i j row u hi hj=>⟨_,hxx i j row u hi hj,hu i j row u hi hj⟩)
 case own nm lo n =>
  obtain⟨hM,hsz,hle⟩:=hok
  obtain⟨kb,hkb⟩:=Option.isSome_iff_exists.1 hM
  have hro:bE M nm=kb.rows:=by rw[bE,hkb]
  rw[hro]at hle
  have hlen:(aK M (.own nm lo n)).length=n:=by simp only[aK,hro];simp;omega
  rw[hlen]
  cases hx with
  | own0 =>
   have hnil:aK M (.own nm lo 0)=[]:=List.eq_nil_of_length_eq_zero hlen
   rw[hnil]
   exact⟨by simp[Builtin.lenOf],fun k hk=>none0 _ _ k hk⟩
  | own hl hlc hnc =>
   rename_i c l
   refine⟨by simp[Builtin.lenOf],?_⟩
   have hls:=GH h hM hl
   rw[hsz]at hls
   rcases h.live nm kb hkb with ⟨h1,h2⟩|⟨l2,h2,_,_,⟨cs,e2,_,h3,h4,h5,h6,h7,h8⟩|⟨_,_,_,_,_,_,_,_,_,h4,_⟩⟩
   rotate_right
   ·have hn0:n=0:=by rw[h4]at hle;simp at hle;omega
    subst hn0
    have hnil:aK M (.own nm lo 0)=[]:=List.eq_nil_of_length_eq_zero hlen
    rw[hnil]
    exact fun k hk=>none0 _ _ k hk
   ·rw[hl]at h2;cases h2
   ·rw[hl]at h2;cases h2
    have hg:∀(i:Nat) (row:List V),(aK M (.own nm lo n))[i]? = some row->kb.rows[lo+i]? = some row:=fun i row hi=>by
     simp only[aK,hro,List.getElem?_take]at hi
     split at hi
     ·rwa[List.getElem?_drop]at hi
     ·cases hi
    refine cellsOf l.b (l.o+lo*l.sz) n c _ hlen (fun i row hi=>by rw[<- hls];exact h7 _ row (hg i row hi)) (fun i j row u hi hj=>?_)
    obtain⟨cv,c1,c2⟩:=h8 _ j row u (hg i row hi) hj
    refine⟨cv,?_,c2⟩
    rw[cell_of_row w l.b _ cs e2 _ h3,<- c1]
    congr 1
    rw[Nat.add_mul,<- hls];omega
def kH (M:ao)(x:V):aK M x.lose=aK M x:=by cases x<;>rfl
def tl (M:ao)(s:Nat)(x:V):dW M s x.lose=dW M s x:=by cases x<;>rfl
def uX (x:V):x.lose.lose=x.lose:=by cases x<;>rfl
def l7 (h:Rel G X w0 I ρ M w){s:Nat}(hs:0<s){x:V}{cx:Value}(hx:Is ρ (bP X ρ M) w x cx)(hok:dW M s x) :
  (Builtin.lenOf cx).run P w = .ok (aK M x).length w /\ ∀ k,k<=(aK M x).length -> ∃ arr,(Builtin.firstCells s k cx).run P w = .ok arr w/\arr.size=k*s/\cI ρ (bP X ρ M) w s ((aK M x).take k) arr:=by
 have:=wY (P:=P) h hs hx.lose (by rw[tl];exact hok) (uX x)
 rwa[kH]at this
def j6 (h:Rel G X w0 I ρ M w){s:Nat}(hs:0<s){x:V}{cx:Value}(hx:Is ρ (bP X ρ M) w x cx)(hok:dW M s x) :
  (Builtin.lenOf cx).run P w = .ok (aK M x).length w /\ ∃ arr,(Builtin.firstCells s (aK M x).length cx).run P w = .ok arr w/\arr.size=(aK M x).length*s/\cI ρ (bP X ρ M) w s (aK M x) arr:=by
 obtain⟨h1,h2⟩:=l7 (P:=P) h hs hx hok
 obtain⟨arr,h3,h4,h5⟩:=h2 _ (Nat.le_refl _)
 rw[List.take_length]at h5
 exact⟨h1,arr,h3,h4,h5⟩
def run_append_room {t t2 ty e:TypeId}{i:TypeInfo}(hu:P.underlying t=some (.slice e))(hi:P.info? e=some i)(h2:bY P t2=true){A:Option Addr}{n c m:Nat}{cx:Value}(hlen:(Builtin.lenOf cx).run P w = .ok m w){new:Array Value}
  (hf:(Builtin.firstCells i.size m cx).run P w = .ok new w) (hroom:n+m<=c) {w':World} (hst:∀ a,A=some a->(storeCells (a.add (n*i.size)) new.toList).run P w = .ok () w') (hno:A=none->w'=w) :
  (Builtin.append_ #[t,t2] ty #[.slice A n c,cx]).run P w = .ok (.slice A (n+m) c) w':=by
 have hz:∃ d,P.underlying t2=some d /\ ∀ k,d ≠ .int k:=by
  unfold bY at h2
  split at h2
  ·exact⟨_,‹_›,by simp⟩
  ·exact⟨_,‹_›,by simp⟩
  ·cases h2
 obtain⟨d,hd,hni⟩:=hz
 have hzeros:(match d with | .int _=>true|_=>false)=false:=by cases d<;>first|rfl|exact absurd rfl (hni _)
 cases A with
 | none =>
  have:=hno rfl;subst this
  simp[Builtin.append_,run_underlying hu,run_underlying hd,sizeOf,typeInfo,hi,hzeros,hlen,hroom,hf]
 | some a =>
  have hs:=hst a rfl
  simp[Builtin.append_,run_underlying hu,run_underlying hd,sizeOf,typeInfo,hi,hzeros,hlen,hroom,hf,hs]
def qT {t t2 ty e:TypeId}{i:TypeInfo}{z:Value}(hu:P.underlying t=some (.slice e))(hi:P.info? e=some i)(hz:i.zero=some z)(h2:bY P t2=true){A:Option Addr}{n c m:Nat}{cx:Value}(hlen:(Builtin.lenOf cx).run P w = .ok m w){old new:Array Value}
  (ho:(Builtin.firstCells i.size n (.slice A n c)).run P w.drew = .ok old w.drew) (hf:(Builtin.firstCells i.size m cx).run P w.drew = .ok new w.drew) (hg:c<n+m) (h63:n+m<=maxLen) (hb:(n+m)*i.bytes<=140737488355328) :
  (Builtin.append_ #[t,t2] ty #[.slice A n c,cx]).run P w = .ok (.slice (some ⟨w.heap.size,0,none⟩) (n+m) (grownCap w (n+m) c e)) (w.drew.alloc (.cells (old++new++Builtin.zeroCells z.cells (grownCap w (n+m) c e-(n+m))) e)):=by
 have hzz:∃ d,P.underlying t2=some d /\ ∀ k,d ≠ .int k:=by
  unfold bY at h2
  split at h2
  ·exact⟨_,‹_›,by simp⟩
  ·exact⟨_,‹_›,by simp⟩
  ·cases h2
 obtain⟨d,hd,hni⟩:=hzz
 have hzeros:(match d with | .int _=>true|_=>false)=false:=by cases d<;>first|rfl|exact absurd rfl (hni _)
 have hn:¬(n+m<=c):=by omega
 have h63':¬(9223372036854775807<((n:Int)+(m:Int))):=by simp only[maxLen]at h63;omega
 have hfit:=growslice_fits hg hb
 have h48':¬(281474976710656<Builtin.nextslicecap (n+m) c*i.bytes):=by omega
 simp[Builtin.append_,run_underlying hu,run_underlying hd,sizeOf,typeInfo,zeroValue,hi,hz,hzeros,hlen,hn,h63',h48',Question.forced,hf,ho,newRow,grownCap]
def iv (P:Program)(t:TypeId):Option TypeId:=match P.underlying t with
 | some (.slice e)=>some e
 | _=>none
def pg (P:Program)(t:TypeId):Option TypeId:=match P.underlying t with
 | some (.slice e)=>(match P.underlying e with|some (.int .u8)=>some e|_=>none)
 | _=>none
def IJ {P:Program}{t e:TypeId}(h:pg P t=some e):iv P t=some e:=by
 unfold pg at h
 split at h
 ·rename_i e' hu
  split at h
  ·cases h;simp only[iv,hu]
  ·cases h
 ·cases h
def Blk.ty (k:Blk):Option TypeId:=match k.ob with
 | .typed t=>some t
 | _=>none
def Blk.ty_plain (s:Nat)(r:List (List V)):(Blk.mk s r).ty=none:=rfl
def Blk.ty_typed (s:Nat)(r:List (List V))(t:TypeId):(@Blk.mk s r (.typed t)).ty=some t:=rfl
def jc (P:Program)(t:TypeId)(M:ao):V->Option TypeId
 | .own ns lo _=>(M ns).bind fun k=>k.ty.bind fun e=>if lo=0/\iv P t=some e then some e else none
 | .ownc ns lo _ _=>(M ns).bind fun k=>k.ty.bind fun e=>if lo=0/\iv P t=some e then some e else none
 | .nils=>pg P t
 | _=>none
def tz (P:Program)(t:TypeId)(M:ao)(s:V):jc P t M s.lose=jc P t M s:=by cases s<;>rfl
def tA {P:Program}{t:TypeId}{M:ao}{s:V}{e:TypeId}(h:jc P t M s=some e):iv P t=some e/\(s = .nils \/ ∃ ns n k,s.lose = .own ns 0 n/\M ns=some k/\k.ob = .typed e):=by
 rw[<- tz]at h
 generalize hs:s.lose=s' at h
 cases s'<;>try (cases h;done)
 case ownc=>cases s<;>cases hs
 case nils=>exact⟨IJ h,.inl (by cases s<;>first|rfl|cases hs)⟩
 rename_i ns lo n
 simp only[jc]at h
 obtain⟨k,hk,h⟩:=Option.bind_eq_some_iff.1 h
 obtain⟨e',he,h⟩:=Option.bind_eq_some_iff.1 h
 split at h
 ·rename_i hc
  cases h
  refine⟨hc.2,.inr ⟨ns,n,k,by rw[<- hc.1],hk,?_⟩⟩
  unfold Blk.ty at he
  split at he
  ·rename_i ho;cases he;exact ho
  ·cases he
 ·cases h
def dI (P:Program)(t:TypeId)(M:ao)(s x:V):Blk:=match cp P t with
 | some (zc,_)=>qF (jc P t M s) zc.length (aK M s++aK M x)
 | none=>⟨0,[]⟩
def dX (P:Program)(t:TypeId)(M:ao)(nm:Nat)(s x:V):ao:=(match s with | .own ns _ _=>M.put ns none | .ownc ns _ _ _=>M.put ns none|_=>M).put nm (some (dI P t M s x))
def ez (M:ao)(nm:Nat)(s x:V):V:=.own nm 0 ((aK M s).length+(aK M x).length)
def mR (M:ao)(x:V):V->Prop
 | .sl tt _ rows=>tt=true/\(rows=[]\/aK M x≠[])
 | .str _=>False
 | _=>True
def eG (P:Program)(t t2:TypeId)(M:ao)(s x:V):Prop:=bY P t2=true/\match cp P t with
 | some (zc,bytes)=>dW M zc.length s/\dW M zc.length x/\mR M x s /\
   ((aK M x).all fun r=>r.all V.one)=true/\(aK M s).length+(aK M x).length<=maxLen/\((aK M s).length+(aK M x).length)*bytes<=140737488355328
 | none=>False
def Rel.ghostK (h:Rel G X w0 I ρ M w){nm:Nat}(hM:M nm=none)(hρ:ρ nm=none)(k0:Blk)(h0:k0.rows=[]):Rel G X w0 I ρ (M.put nm (some k0)) w/\Moves ρ M w ρ (M.put nm (some k0)) w:=by
 have key:∀ x l,((M.put nm (some k0)) x).isSome=true->ρ x=some l->(M x).isSome=true:=fun x l hx hl=>by
  by_cases e:x=nm
  ·subst e;rw[hρ]at hl;cases hl
  ·rwa[ao.put_ne _ _ e]at hx
 have m:Moves ρ M w ρ (M.put nm (some k0)) w:=⟨fun _ _ h=>h,Nat.le_refl _,rfl,rfl,rfl,fun _ _ _=>rfl,fun x l h1 h2 _=>⟨x,l,key x l h1 h2,h2,rfl⟩⟩
 refine⟨h.move m (fun a b l l' a1 a2 a3 a4 a5=>h.inj a b l l' (key a l a1 a3) (key b l' a2 a4) a3 a4 a5) ?_,m⟩
 intro x k hx
 by_cases e:x=nm
 ·subst e;rw[ao.put_same]at hx;cases hx
  exact .inr (.inl ⟨h0,hρ⟩)
 ·rw[ao.put_ne _ _ e]at hx
  exact .inl ⟨hx,id,fun _ _=>rfl⟩
def Rel.ghost (h:Rel G X w0 I ρ M w){nm:Nat}(hM:M nm=none)(hρ:ρ nm=none)(s:Nat):Rel G X w0 I ρ (M.put nm (some ⟨s,[]⟩)) w/\Moves ρ M w ρ (M.put nm (some ⟨s,[]⟩)) w:=h.ghostK hM hρ ⟨s,[]⟩ rfl
end
section
variable {P:Program} {G:Nat->V} {X:Nat->Prop} {w0:World} {I:Nat->Prop} {ρ:Names} {M:ao} {w:World} {D:Nat->Prop}
def cI.append {s:Nat}{r1 r2:List (List V)}{c1 c2:Array Value}(h1:cI ρ D w s r1 c1)(h2:cI ρ D w s r2 c2)(hn:c1.size=r1.length*s):cI ρ D w s (r1++r2) (c1++c2):=by
 refine⟨by have:=h2.1;simp[Nat.add_mul];omega,?_,?_⟩
 ·intro i row hi
  rw[List.getElem?_append]at hi
  split at hi
  ·exact h1.2.1 _ _ hi
  ·exact h2.2.1 _ _ hi
 ·intro i j row u hi hj
  rw[List.getElem?_append]at hi
  split at hi
  ·rename_i hlt
   obtain⟨c,a1,a2⟩:=h1.2.2 i j row u hi hj
   have hj':j<s:=by rw[<- h1.2.1 i row hi];exact(List.getElem?_eq_some_iff.1 hj).1
   have:=nK hlt hj'
   exact⟨c,by rw[Array.getElem?_append_left (by omega)];exact a1,a2⟩
  ·rename_i hge
   obtain⟨c,a1,a2⟩:=h2.2.2 _ j row u hi hj
   refine⟨c,?_,a2⟩
   have e:i*s=r1.length*s+(i-r1.length)*s:=by rw[<- Nat.add_mul];congr 1;omega
   rw[Array.getElem?_append_right (by omega)]
   rw[<- a1];congr 1;omega
def cI.more {s:Nat}{r:List (List V)}{c1 c2:Array Value}(h:cI ρ D w s r c1):cI ρ D w s r (c1++c2):=by
 refine⟨by have:=h.1;simp;omega,h.2.1,fun i j row u hi hj=>?_⟩
 obtain⟨c,a1,a2⟩:=h.2.2 i j row u hi hj
 have hlt:=(Array.getElem?_eq_some_iff.1 a1).1
 exact⟨c,by rw[Array.getElem?_append_left hlt];exact a1,a2⟩
def FH {s:V}{cs:Value}(hs:Is ρ D w s cs){sz:Nat}{x:V}(hsrc:dW M sz s)(hd:mR M x s)(hno:s.lose=s) :
  ∃ A c,cs = .slice A (aK M s).length c/\(aK M s).length<=c/\(((aK M s).length+(aK M x).length<=c)->(c=0/\(∀ nm lo n,s = .own nm lo n->n=0)) \/ ∃ nm lo n l,s = .own nm lo n/\ρ nm=some l/\lo+c<=l.tot/\A=some ⟨l.b,l.o+lo*l.sz,none⟩):=by
 cases s<;>simp only[dW]at hsrc<;>try (first|exact hsrc.elim|(cases hno;done))
 case str=>exact hd.elim
 case nils =>
  cases hs
  exact⟨none,0,rfl,Nat.le_refl _,fun _=>.inl ⟨rfl,fun _ _ _ e=>by cases e⟩⟩
 case sl t sz' rows =>
  obtain⟨rfl,h2⟩:=hd
  cases hs with
  | sl0 ht=>exact⟨_,_,rfl,Nat.zero_le _,fun _=>.inl ⟨ht rfl,fun _ _ _ e=>by cases e⟩⟩
  | sl cv hc ht hD hb hr hxx hu =>
   refine⟨_,_,rfl,hc,fun hroom=>?_⟩
   have hc':=ht rfl
   have e:aK M (.sl true sz' rows)=rows:=rfl
   rcases h2 with rfl|h2
   ·exact .inl ⟨hc',fun _ _ _ e=>by cases e⟩
   ·exfalso
    have:0<(aK M x).length:=List.length_pos_iff.2 h2
    rw[e]at hroom
    omega
 case own nm lo n =>
  obtain⟨hM,hsz,hle⟩:=hsrc
  have hlen:(aK M (.own nm lo n)).length=n:=by simp only[aK];simp;omega
  rw[hlen]
  cases hs with
  | own0=>exact⟨_,0,rfl,Nat.le_refl _,fun _=>.inl ⟨rfl,fun _ _ _ e=>by cases e;rfl⟩⟩
  | own hl hlc hnc=>exact⟨_,_,rfl,hnc,fun _=>.inr ⟨_,_,_,_,rfl,hl,hlc,rfl⟩⟩
def tN (h:Rel G X w0 I ρ M w){nm:Nat}(hM:M nm=none)(hρ:ρ nm=none){t t2 ty:TypeId}{s x:V}{cs cx:Value}(hs:Is ρ (bP X ρ M) w s cs)(hx:Is ρ (bP X ρ M) w x cx)(hok:eG P t t2 M s x)(hno:s.lose=s) :
  ∃ c w',(Builtin.append_ #[t,t2] ty #[cs,cx]).run P w = .ok c w'/\cV G X w0 I ρ M w nm (ez M nm s x) (dX P t M nm s x) c w':=by
 obtain⟨hk,hok⟩:=hok
 cases hel:cp P t with
 | none=>rw[hel]at hok;exact hok.elim
 | some y =>
  obtain⟨zc,bytes⟩:=y
  rw[hel]at hok
  obtain⟨hs1,hx1,hd,hone,h63,hbytes⟩:=hok
  obtain⟨e,i,z,hu,hi,hz,hzs,hpos,hzc,hzl,hbi⟩:=eH hel
  subst hbi
  rw[hzl]at hs1 hx1
  have hK:dI P t M s x=qF (jc P t M s) i.size (aK M s++aK M x):=by simp only[dI,hel,hzl]
  have hTe:∀ e',jc P t M s=some e'->e=e':=fun e' he=>by
   have:=(tA he).1
   simp only[iv,hu,Option.some.injEq]at this
   exact this
  obtain⟨A,c,rfl,hnc,hform⟩:=FH hs hs1 hd hno
  obtain⟨xl,xarr,xf,xs,xr⟩:=j6 (P:=P) h hpos hx hx1
  have hM2:∀ y k,dX P t M nm s x y=some k->(M.put nm (some (dI P t M s x))) y=some k:=fun y k hy=>by
   unfold dX at hy
   by_cases e:y=nm
   ·subst e;rw[ao.put_same]at hy ⊢;exact hy
   ·rw[ao.put_ne _ _ e]at hy ⊢
    split at hy
    ·rename_i ns _ _
     by_cases e2:y=ns
     ·subst e2;rw[ao.put_same]at hy;cases hy
     ·rwa[ao.put_ne _ _ e2]at hy
    ·rename_i ns _ _ _
     by_cases e2:y=ns
     ·subst e2;rw[ao.put_same]at hy;cases hy
     ·rwa[ao.put_ne _ _ e2]at hy
    ·exact hy
  have hMnm:dX P t M nm s x nm=some (dI P t M s x):=by unfold dX;rw[ao.put_same]
  by_cases hroom:(aK M s).length+(aK M x).length<=c
  ·by_cases hc0:c=0
   ·-- nothing,onto nothing
    subst hc0
    have hm:aK M x=[]:=List.eq_nil_of_length_eq_zero (by omega)
    have hn:aK M s=[]:=List.eq_nil_of_length_eq_zero (by omega)
    have hxa:xarr = #[]:=by
     rw[hm]at xs;simp at xs;exact xs
    subst hxa
    have hrun:=run_append_room (P:=P) (t2:=t2) (ty:=ty) hu hi hk (A:=A) (n:=(aK M s).length) (c:=0) xl xf hroom (w':=w) (fun a _=>by simp[storeCells]) (fun _=>rfl)
    refine⟨_,w,hrun,ρ,?_⟩
    rw[hm,hn]at hK
    obtain⟨r1,r2⟩:=h.ghostK hM hρ (dI P t M s x) (by rw[hK,ej];rfl)
    obtain⟨r3,r4⟩:=r1.drop hM2
    refine⟨r3,r2.trans r4,?_,fun _ _=>rfl⟩
    simp only[ez,hm,hn,List.length_nil,Nat.add_zero]
    exact .own0
   ·-- there is room
    rcases hform hroom with ⟨h0,_⟩|⟨ns,lo,n,l,rfl,hl,hlc,rfl⟩
    ·exact absurd h0 hc0
    obtain⟨hMn,hsz,hle⟩:=hs1
    obtain⟨kb,hkb⟩:=Option.isSome_iff_exists.1 hMn
    have hro:bE M ns=kb.rows:=by rw[bE,hkb]
    have hrs:aK M (.own ns lo n)=(kb.rows.drop lo).take n:=by simp only[aK,hro]
    have hlen:(aK M (.own ns lo n)).length=n:=by simp only[aK];simp;omega
    have hls:=GH h hMn hl
    rw[hsz]at hls
    have hne:ns≠nm:=fun e=>by rw[e,hM]at hMn;cases hMn
    rcases h.live ns kb hkb with ⟨_,a2⟩|⟨l2,a1,a2,a3,⟨cs,e2,aok,a4,a5,a6,a7,a8,a9⟩|⟨_,_,_,_,_,_,_,_,_,_,a4,_⟩⟩
    ·rw[hl]at a2;cases a2
    rotate_right
    ·rw[hl]at a1;cases a1;rw[a4]at hlc;exact absurd (Nat.le_zero.1 (Nat.le_trans (Nat.le_add_left c lo) hlc)) hc0
    rw[hl]at a1;cases a1
    rw[hlen]at hroom hnc
    generalize hmm:(aK M x).length=m at *
    have hfit:l.o+lo*l.sz+n*i.size+xarr.size<=cs.size:=by
     have q1:(lo+(n+m))*l.sz<=l.tot*l.sz:=Nat.mul_le_mul_right _ (by omega)
     rw[Nat.add_mul,Nat.add_mul]at q1
     rw[xs,<- hls];omega
    have hcell1:∀ u∈xarr.toList,u.oneCell'=true:=fun u hu=>by
     obtain⟨k,hk,rfl⟩:=List.getElem_of_mem hu
     have hk':k<m*i.size:=by simpa [xs] using hk
     have q1:k / i.size<(aK M x).length:=by rw[hmm];exact Nat.div_lt_of_lt_mul (by rwa[Nat.mul_comm])
     have q2:=xr.2.1 _ _ (List.getElem?_eq_getElem q1)
     have q3:k % i.size<((aK M x)[k / i.size]).length:=by rw[q2];exact Nat.mod_lt _ hpos
     obtain⟨c',q4,q5⟩:=xr.2.2 _ _ _ _ (List.getElem?_eq_getElem q1) (List.getElem?_eq_getElem q3)
     have q6:k / i.size*i.size+k % i.size=k:=by rw[Nat.mul_comm];exact Nat.div_add_mod _ _
     rw[q6]at q4
     have q7:((aK M x)[k / i.size])[k % i.size].one=true:=by
      rw[List.all_eq_true]at hone
      have:=hone _ (List.getElem_mem q1)
      rw[List.all_eq_true]at this
      exact this _ (List.getElem_mem q3)
     have q8:=(q5.one q7).1
     have q9:xarr.toList[k]=c':=by
      have:=Array.getElem?_eq_getElem (xs:=xarr) (i:=k) (by rw[xs];exact hk')
      rw[q4]at this
      simpa using this.symm
     rw[q9];exact q8
    have hst:=eW P l.b (l.o+lo*l.sz+n*i.size) e2 _ xarr.toList 0 cs w a4 (fun p hp=>l.free (by
     have q1:(lo+(n+m))*l.sz<=l.tot*l.sz:=Nat.mul_le_mul_right _ (by omega)
     rw[Nat.add_mul,Nat.add_mul]at q1
     simp[xs,<- hls]at hp
     omega)) (by simpa using hfit) hcell1
    have hrun:=run_append_room (P:=P) (t2:=t2) (ty:=ty) hu hi hk (A:=some ⟨l.b,l.o+lo*l.sz,none⟩) (n:=n) (c:=c) xl xf hroom (fun a ha=>by cases ha;rw[Addr.add_mid];exact hst) (fun ha=>by cases ha)
    rw[hlen]
    refine⟨_,_,hrun,ρ.put nm (@Loc.mk l.b (l.o+lo*l.sz) l.sz c (fzTo l lo c)),?_⟩
    have hnr:∀ y q,ρ y=some q->y≠nm:=fun y q hy e=>by subst e;rw[hρ]at hy;cases hy
    have hMs:∀ y,y≠nm->(dX P t M nm (.own ns lo n) x y).isSome=true->(M y).isSome=true/\y≠ns:=fun y hy hs=>by
     simp only[dX,ao.put_ne _ _ hy]at hs
     by_cases e:y=ns
     ·subst e;rw[ao.put_same]at hs;cases hs
     ·rw[ao.put_ne _ _ e]at hs;exact⟨hs,e⟩
    have hm:Moves ρ M w (ρ.put nm (@Loc.mk l.b (l.o+lo*l.sz) l.sz c (fzTo l lo c))) (dX P t M nm (.own ns lo n) x) (w.setRow l.b (cs.toList.take (l.o+lo*l.sz+n*i.size+0)++xarr.toList++cs.toList.drop (l.o+lo*l.sz+n*i.size+0+xarr.toList.length)).toArray):=by
     refine⟨fun y q hy=>by rw[Names.put_ne _ _ (hnr y q hy)];exact hy,by simp,rfl,rfl,rfl,fun b _ hb=>setRow_other _ _ _ _ (fun e=>hb ns l hMn hl e.symm),fun y q b1 b2 _=>?_⟩
     by_cases e:y=nm
     ·subst e;rw[Names.put_same]at b2;cases b2
      exact⟨ns,l,hMn,hl,rfl⟩
     ·rw[Names.put_ne _ _ e]at b2
      exact⟨y,q,(hMs y e b1).1,b2,rfl⟩
    refine⟨h.move hm ?_ ?_,hm,?_,fun y hy=>Names.put_ne _ _ hy⟩
    ·intro y y' q q' b1 b2 b3 b4 b5
     by_cases ey:y=nm
     ·subst ey
      by_cases ey':y'=y
      ·exact ey'.symm
      ·rw[Names.put_same]at b3;cases b3
       rw[Names.put_ne _ _ ey']at b4
       exact absurd (h.inj ns y' l q' hMn (hMs y' ey' b2).1 hl b4 b5) (hMs y' ey' b2).2.symm
     ·rw[Names.put_ne _ _ ey]at b3
      by_cases ey':y'=nm
      ·subst ey'
       rw[Names.put_same]at b4;cases b4
       exact absurd (h.inj y ns q l (hMs y ey b1).1 hMn b3 hl b5) (hMs y ey b1).2
      ·rw[Names.put_ne _ _ ey']at b4
       exact h.inj y y' q q' (hMs y ey b1).1 (hMs y' ey' b2).1 b3 b4 b5
    ·intro y k hy
     by_cases ey:y=nm
     ·subst ey
      rw[hMnm,hK]at hy;cases hy
      refine .inr (.inr ⟨_,Names.put_same _ _ _,a2,a3,.inl ⟨_,e2,vL (fun e' he=>?_),(by rw[Mu (by omega)];exact setRow_heap w l.b cs _ e2 _ a4),by rw[ix];exact hls.symm,?_,?_,?_,?_⟩⟩)
      ·obtain⟨_,q0|⟨ns',n',k',q1,q2,q3⟩⟩:=tA he
       ·cases q0
       cases q1
       rw[hkb]at q2;cases q2
       rw[q3]at aok
       refine⟨aok.1,?_⟩
       show l.o+0*l.sz=0
       rw[aok.2,Nat.zero_mul]
      ·rw[ej,List.length_append,hlen,hmm];exact hroom
      ·have q1:(lo+c)*l.sz<=l.tot*l.sz:=Nat.mul_le_mul_right _ hlc
       rw[Nat.add_mul]at q1
       simp only[List.size_toArray,Nat.add_zero,List.length_append,List.length_take,List.length_drop,Array.length_toList];omega
      ·intro i' row hi'
       rw[ej,List.getElem?_append]at hi'
       split at hi'
       ·rw[hrs,List.getElem?_take]at hi'
        split at hi'
        ·rw[List.getElem?_drop]at hi';exact a8 _ row hi'
        ·cases hi'
       ·rw[hls];exact xr.2.1 _ row hi'
      ·intro i' j' row u hi' hj'
       have hget:=cC (row:=cs.toList) (j:=l.o+lo*l.sz+n*i.size) (cs:=xarr.toList) (by simpa using hfit)
       have hget':∀ q,(cs.toList.take (l.o+lo*l.sz+n*i.size+0)++xarr.toList++cs.toList.drop (l.o+lo*l.sz+n*i.size+0+xarr.toList.length)).toArray[q]? = if q<l.o+lo*l.sz+n*i.size then cs[q]? else if q<l.o+lo*l.sz+n*i.size+xarr.size then xarr[q-(l.o+lo*l.sz+n*i.size)]? else cs[q]?:=fun q=>by
        simpa [bv] using hget q
       rw[hget']
       rw[ej,List.getElem?_append]at hi'
       rw[hlen]at hi'
       split at hi'
       ·rename_i hin
        rw[hrs,List.getElem?_take,if_pos hin,List.getElem?_drop]at hi'
        have hj2:j'<l.sz:=by rw[<- a8 _ row hi'];exact(List.getElem?_eq_some_iff.1 hj').1
        obtain⟨cv,c1,c2⟩:=a9 _ j' row u hi' hj'
        refine⟨cv,?_,hm.is c2⟩
        have q1:=nK hin hj2
        have q2:(lo+i')*l.sz=lo*l.sz+i'*l.sz:=Nat.add_mul _ _ _
        show(if l.o+lo*l.sz+i'*l.sz+j'<_ then _ else _)=_
        rw[if_pos (show l.o+lo*l.sz+i'*l.sz+j'<l.o+lo*l.sz+n*i.size by rw[<- hls];omega),<- c1,q2]
        congr 1
        show l.o+lo*l.sz+i'*l.sz+j'=_
        omega
       ·rename_i hin
        have hj2:j'<i.size:=by rw[<- xr.2.1 _ row hi'];exact(List.getElem?_eq_some_iff.1 hj').1
        obtain⟨cv,c1,c2⟩:=xr.2.2 _ j' row u hi' hj'
        refine⟨cv,?_,hm.is c2⟩
        have hi2:i'-n<m:=by rw[<- hmm];exact(List.getElem?_eq_some_iff.1 hi').1
        have q1:=nK hi2 hj2
        have q2:i'*i.size=n*i.size+(i'-n)*i.size:=by rw[<- Nat.add_mul];congr 1;omega
        show(if l.o+lo*l.sz+i'*l.sz+j'<_ then _ else _)=_
        rw[if_neg (show ¬(l.o+lo*l.sz+i'*l.sz+j'<l.o+lo*l.sz+n*i.size) by rw[hls];omega),if_pos (show l.o+lo*l.sz+i'*l.sz+j'<l.o+lo*l.sz+n*i.size+xarr.size by rw[hls,xs];omega),<- c1]
        congr 1
        show l.o+lo*l.sz+i'*l.sz+j'-(l.o+lo*l.sz+n*i.size)=_
        rw[hls];omega
     ·have hy':=hM2 y k hy
      rw[ao.put_ne _ _ ey]at hy'
      have hns:=(hMs y ey (by rw[hy];rfl)).2
      refine .inl ⟨hy',fun hn=>by rw[Names.put_ne _ _ ey];exact hn,fun q hq=>setRow_other _ _ _ _ (fun e=>hns (h.inj y ns q l (by rw[hy'];rfl) hMn hq hl e))⟩
    ·simp only[ez,hlen,hmm]
     have:=Is.own (ρ:=ρ.put nm (@Loc.mk l.b (l.o+lo*l.sz) l.sz c (fzTo l lo c))) (D:=bP X (ρ.put nm (@Loc.mk l.b (l.o+lo*l.sz) l.sz c (fzTo l lo c))) (dX P t M nm (.own ns lo n) x)) (w:=w.setRow l.b (cs.toList.take (l.o+lo*l.sz+n*i.size+0)++xarr.toList++cs.toList.drop (l.o+lo*l.sz+n*i.size+0+xarr.toList.length)).toArray) (nm:=nm) (lo:=0) (n:=n+m) (c:=c) (Names.put_same _ _ _) (by simp) hroom
     simpa using this
  ·-- a new block
   obtain⟨d1,d2⟩:=h.draw (w.drawn+1)
   have hs':=d2.is hs
   have hx':=d2.is hx
   obtain⟨ol,oarr,of',os,or'⟩:=j6 (P:=P) d1 hpos hs' hs1
   obtain⟨nl,narr,nf,nss,nr⟩:=j6 (P:=P) d1 hpos hx' hx1
   have hrun:=qT (P:=P) (t2:=t2) (ty:=ty) hu hi hz hk (A:=A) (n:=(aK M s).length) (c:=c) xl of' nf (by omega) h63 hbytes
   have hge:=grownCap_ge w ((aK M s).length+(aK M x).length) c e
   have hrows:=((or'.append nr os).more (c2:=Builtin.zeroCells z.cells (grownCap w ((aK M s).length+(aK M x).length) c e-((aK M s).length+(aK M x).length))))
   obtain⟨r1,r2⟩:=d1.alloc hM hρ (oarr++narr++Builtin.zeroCells z.cells (grownCap w ((aK M s).length+(aK M x).length) c e-((aK M s).length+(aK M x).length))) e (qF (jc P t M s) i.size (aK M s++aK M x)) (grownCap w ((aK M s).length+(aK M x).length) c e)
    (by rw[ej];simpa using hge) (by
     rw[ix]
     simp only[Array.size_append,size_zeroCells,os,nss,hzs,<- Nat.add_mul]
     exact Nat.mul_le_mul_right _ (by omega)) (by rw[ej,ix];exact hrows.2.1) (by rw[ej,ix];exact hrows.2.2) (vL (fun e' he=>⟨hTe e' he,rfl⟩))
   rw[ix]at r1 r2
   rw[hK]at hM2
   obtain⟨r3,r4⟩:=r1.drop hM2
   refine⟨_,_,hrun,_,r3,(d2.trans r2).trans r4,?_,fun y hy=>Names.put_ne _ _ hy⟩
   simp only[ez]
   have:=Is.own (ρ:=ρ.put nm ⟨w.heap.size,0,i.size,grownCap w ((aK M s).length+(aK M x).length) c e⟩) (D:=bP X (ρ.put nm ⟨w.heap.size,0,i.size,grownCap w ((aK M s).length+(aK M x).length) c e⟩) (dX P t M nm s x))
    (w:=w.drew.alloc (.cells (oarr++narr++Builtin.zeroCells z.cells (grownCap w ((aK M s).length+(aK M x).length) c e-((aK M s).length+(aK M x).length))) e)) (nm:=nm) (lo:=0) (n:=(aK M s).length+(aK M x).length) (c:=grownCap w ((aK M s).length+(aK M x).length) c e) (Names.put_same _ _ _) (by simp) hge
   simpa using this
def vF (h:Rel G X w0 I ρ M w){nm:Nat}(hM:M nm=none)(hρ:ρ nm=none){t t2 ty:TypeId}{s x:V}{cs cx:Value}(hs:Is ρ (bP X ρ M) w s cs)(hx:Is ρ (bP X ρ M) w x cx)(hok:eG P t t2 M s x) :
  ∃ c w',(Builtin.append_ #[t,t2] ty #[cs,cx]).run P w = .ok c w'/\cV G X w0 I ρ M w nm (ez M nm s x) (dX P t M nm s x) c w':=by
 have e0:mR M x s.lose=mR M x s:=by cases s<;>rfl
 have e1:eG P t t2 M s.lose x=eG P t t2 M s x:=by simp only[eG,tl,kH,e0]
 have e2:ez M nm s.lose x=ez M nm s x:=by simp only[ez,kH]
 have e3:dX P t M nm s.lose x=dX P t M nm s x:=by
  have:dI P t M s.lose x=dI P t M s x:=by simp only[dI,kH,tz]
  simp only[dX,this]
  cases s<;>rfl
 have:=tN (P:=P) (ty:=ty) h hM hρ hs.lose hx (by rw[e1];exact hok) (uX s)
 rwa[e2,e3]at this
end
section
variable {P:Program} {G:Nat->V} {X:Nat->Prop} {w0:World} {I:Nat->Prop} {ρ:Names} {M:ao} {w:World} {D:Nat->Prop}
def ao.app (M:ao):List (Nat×Option Blk)->ao
 | []=>M
 |(x,k)::r=>(M.put x k).app r
def JL:V->Nat
 | .own _ _ n=>n
 | .ownc _ _ n _=>n
 | _=>0
def gV (M:ao)(d x:V):Nat:=min (aK M x).length (JL d)
def gf (M:ao)(nm:Nat):Bool:=match M nm with|some k=>k.ob.isRow|none=>false
def nY (M:ao)(nm lo:Nat)(d x:V):Blk:=match M nm with
 | some k=>@Blk.mk k.sz (bv k.rows lo ((aK M x).take (gV M d x))) k.ob
 | none=>⟨0,[]⟩
def kT (M:ao)(d x:V):List (Nat×Option Blk):=match d with
 | .own nm lo _=>[(nm,some (nY M nm lo d x))]
 | .ownc nm lo _ _=>[(nm,some (nY M nm lo d x))]
 | _=>[]
def gM (M:ao)(s:Nat)(d x:V):Prop:=match d with
 | .own nm lo n=>gf M nm=true/\dQ M nm=s/\lo+n<=(bE M nm).length/\(((aK M x).take (gV M d x)).all fun r=>r.all V.one)=true
 | .ownc nm lo n _=>gf M nm=true/\dQ M nm=s/\lo+n<=(bE M nm).length/\(((aK M x).take (gV M d x)).all fun r=>r.all V.one)=true
 | .nils=>True
 | _=>False
def lz (P:Program)(t:TypeId)(M:ao)(d x:V):Prop:=match cp P t with
 | some (zc,_)=>dW M zc.length x/\gM M zc.length d x
 | none=>False
def mT {nm:Nat}(h:gf M nm=true):∃ k,M nm=some k/\k.ob.isRow=true:=by
 unfold gf at h
 split at h
 ·rename_i k hk
  exact⟨k,hk,h⟩
 ·cases h
def s7 {t t2 ty e:TypeId}{i:TypeInfo}(hu:P.underlying t=some (.slice e))(hi:P.info? e=some i){A:Option Addr}{n c m:Nat}{cx:Value}(hlen:(Builtin.lenOf cx).run P w = .ok m w){new:Array Value}
  (hf:(Builtin.firstCells i.size (min m n) cx).run P w = .ok new w) {w':World} (hst:∀ a,A=some a->(storeCells a new.toList).run P w = .ok () w') (hno:A=none->w'=w) :
  (Builtin.copy_ #[t,t2] ty #[.slice A n c,cx]).run P w = .ok (.int .i64 (min m n:Nat)) w':=by
 cases A with
 | none =>
  have:=hno rfl;subst this
  simp[Builtin.copy_,run_underlying hu,sizeOf,typeInfo,hi,hlen,hf,goInt]
 | some a =>
  have hs:=hst a rfl
  simp[Builtin.copy_,run_underlying hu,sizeOf,typeInfo,hi,hlen,hf,hs,goInt]
def Kv {s:Nat}(hs:0<s){rows:List (List V)}{arr:Array Value}(hz:arr.size=rows.length*s)(hr:cI ρ D w s rows arr)(hone:(rows.all fun r=>r.all V.one)=true):∀ u∈arr.toList,u.oneCell'=true:=by
 intro u hu
 obtain⟨k,hk,rfl⟩:=List.getElem_of_mem hu
 have hk':k<rows.length*s:=by simpa [hz] using hk
 have q1:k / s<rows.length:=Nat.div_lt_of_lt_mul (by rwa[Nat.mul_comm])
 have q2:=hr.2.1 _ _ (List.getElem?_eq_getElem q1)
 have q3:k % s<(rows[k / s]).length:=by rw[q2];exact Nat.mod_lt _ hs
 obtain⟨c',q4,q5⟩:=hr.2.2 _ _ _ _ (List.getElem?_eq_getElem q1) (List.getElem?_eq_getElem q3)
 have q6:k / s*s+k % s=k:=by rw[Nat.mul_comm];exact Nat.div_add_mod _ _
 rw[q6]at q4
 have q7:(rows[k / s])[k % s].one=true:=by
  rw[List.all_eq_true]at hone
  have:=hone _ (List.getElem_mem q1)
  rw[List.all_eq_true]at this
  exact this _ (List.getElem_mem q3)
 have q8:=(q5.one q7).1
 have q9:arr.toList[k]=c':=by
  have:=Array.getElem?_eq_getElem (xs:=arr) (i:=k) (by rw[hz];exact hk')
  rw[q4]at this
  simpa using this.symm
 rw[q9];exact q8
def nZ (h:Rel G X w0 I ρ M w){nm lo n:Nat}{t t2 ty:TypeId}{x:V}{A:Option Addr}{c:Nat}{cx:Value}(hform:(A=none\/n=0) \/ ∃ l,ρ nm=some l/\lo+c<=l.tot/\n<=c/\A=some ⟨l.b,l.o+lo*l.sz,none⟩)(hA:A=none->n=0)(hx:Is ρ (bP X ρ M) w x cx){zc:List V}{bytes:Nat}(hel:cp P t=some (zc,bytes))(hs1:dW M zc.length x)
  (hc:gf M nm=true) (hsz:dQ M nm=zc.length) (hle:lo+n<=(bE M nm).length) (hone:(((aK M x).take (gV M (.own nm lo n) x)).all fun r=>r.all V.one)=true) :
  ∃ w',(Builtin.copy_ #[t,t2] ty #[.slice A n c,cx]).run P w = .ok (.int .i64 (gV M (.own nm lo n) x:Nat)) w'/\Rel G X w0 I ρ (M.put nm (some (nY M nm lo (.own nm lo n) x))) w'/\Moves ρ M w ρ (M.put nm (some (nY M nm lo (.own nm lo n) x))) w':=by
 obtain⟨e,i,z,hu,hi,hz,hzs,hpos,hzc,hzl,hbi⟩:=eH hel
 rw[hzl]at hs1 hsz
 obtain⟨xl,xk⟩:=l7 (P:=P) h hpos hx hs1
 obtain⟨k,hk,hob⟩:=mT hc
 have hro:bE M nm=k.rows:=by rw[bE,hk]
 have hks:k.sz=i.size:=by rw[<- hsz,dQ,hk]
 rw[hro]at hle
 obtain⟨arr,af,as,ar⟩:=xk (gV M (.own nm lo n) x) (Nat.min_le_left _ _)
 have hcl:gV M (.own nm lo n) x=min (aK M x).length n:=rfl
 have hK:nY M nm lo (.own nm lo n) x = @Blk.mk k.sz (bv k.rows lo ((aK M x).take (gV M (.own nm lo n) x))) k.ob:=by
  simp only[nY,hk]
 rw[hK]
 generalize hm:gV M (.own nm lo n) x=m at *
 have hmn:m<=n:=by omega
 have htl:((aK M x).take m).length=m:=by simp;omega
 by_cases hm0:m=0
 ·-- nothing
  have harr:arr = #[]:=by rw[hm0]at as;simpa using as
  subst harr
  have hrun:=s7 (P:=P) (t2:=t2) (ty:=ty) hu hi (A:=A) (n:=n) (c:=c) xl (by rw[<- hcl];exact af) (w':=w) (fun a _=>by simp[storeCells]) (fun _=>rfl)
  have hsame:(some (@Blk.mk k.sz (bv k.rows lo ((aK M x).take m)) k.ob))=M nm:=by
   rw[hk]
   congr 1
   obtain⟨sz,rows,ob⟩:=k
   simp[bv,hm0]
  have hput:M.put nm (some (@Blk.mk k.sz (bv k.rows lo ((aK M x).take m)) k.ob))=M:=by
   funext y
   unfold ao.put
   split
   ·rename_i e;subst e;exact hsame
   ·rfl
  rw[hput]
  refine⟨w,?_,h,.refl _ _ _⟩
  rw[hrun,<- hcl]
 ·rcases hform with (hA0|hn0)|⟨l,hl,hlc,hnc,rfl⟩
  ·have:=hA hA0;omega
  ·omega
  ·rcases h.live nm k hk with ⟨a1,a2⟩|⟨l2,a1,a2,a3,⟨cs,e2,aok,a4,a5,a6,a7,a8,a9⟩|⟨_,_,_,_,_,_,hch,_⟩⟩
   ·rw[hl]at a2;cases a2
   rotate_right
   ·exfalso
    generalize k.ob=ob at hob hch
    cases ob<;>first|exact hch|cases hob
   rw[hl]at a1;cases a1
   have hls:l.sz=i.size:=by rw[<- a5,hks]
   have hfit:l.o+lo*l.sz+arr.size<=cs.size:=by
    have q1:(lo+m)*l.sz<=l.tot*l.sz:=Nat.mul_le_mul_right _ (by omega)
    rw[Nat.add_mul]at q1
    rw[as,<- hls];omega
   have hcell1:=Kv (ρ:=ρ) (D:=bP X ρ M) (w:=w) hpos (by rw[as,htl]) ar hone
   have hst:=eW P l.b (l.o+lo*l.sz) e2 _ arr.toList 0 cs w a4 (fun p hp=>l.free (by
    have q1:(lo+m)*l.sz<=l.tot*l.sz:=Nat.mul_le_mul_right _ (by omega)
    rw[Nat.add_mul]at q1
    simp[as,<- hls]at hp
    omega)) (by simpa using hfit) hcell1
   have hrun:=s7 (P:=P) (t2:=t2) (ty:=ty) hu hi (A:=some ⟨l.b,l.o+lo*l.sz,none⟩) (n:=n) (c:=c) xl (by rw[<- hcl];exact af) (fun a ha=>by cases ha;exact hst) (fun ha=>by cases ha)
   refine⟨_,by rw[hrun,<- hcl],?_⟩
   have hspl:lo+((aK M x).take m).length<=k.rows.length:=by rw[htl];omega
   have hget:∀ q,(cs.toList.take (l.o+lo*l.sz+0)++arr.toList++cs.toList.drop (l.o+lo*l.sz+0+arr.toList.length)).toArray[q]? = if q<l.o+lo*l.sz then cs[q]? else if q<l.o+lo*l.sz+arr.size then arr[q-(l.o+lo*l.sz)]? else cs[q]?:=by
    intro q
    have:=cC (row:=cs.toList) (j:=l.o+lo*l.sz) (cs:=arr.toList) (by simpa using hfit) q
    simpa [bv] using this
   refine Rel.write h hk hl (by simp) rfl rfl rfl (fun b hb=>setRow_other _ _ _ _ hb) (setRow_heap w l.b cs _ e2 _ a4) a5 (by rw[dP hspl];exact a6) ?_ ?_ ?_ aok
   ·simp only[List.size_toArray,Nat.add_zero,List.length_append,List.length_take,List.length_drop,Array.length_toList];omega
   ·intro i' row hi'
    rw[cC hspl]at hi'
    split at hi'
    ·exact a8 _ row hi'
    ·split at hi'
     ·rw[hls];exact ar.2.1 _ row hi'
     ·exact a8 _ row hi'
   ·intro i' j' row u hi' hj'
    rw[hget]
    rw[cC hspl,htl]at hi'
    by_cases q1:i'<lo
    ·rw[if_pos q1]at hi'
     have hj2:j'<l.sz:=by rw[<- a8 _ row hi'];exact(List.getElem?_eq_some_iff.1 hj').1
     have:=nK q1 hj2
     rw[if_pos (by omega)]
     exact a9 i' j' row u hi' hj'
    ·rw[if_neg q1]at hi'
     by_cases q2:i'<lo+m
     ·rw[if_pos q2]at hi'
      have hj2:j'<i.size:=by rw[<- ar.2.1 _ row hi'];exact(List.getElem?_eq_some_iff.1 hj').1
      obtain⟨cv,c1,c2⟩:=ar.2.2 _ j' row u hi' hj'
      have hi2:i'-lo<m:=by omega
      have q3:=nK hi2 hj2
      have q4:i'*i.size=lo*i.size+(i'-lo)*i.size:=by rw[<- Nat.add_mul];congr 1;omega
      rw[hls]
      rw[if_neg (by omega),if_pos (by rw[as];omega)]
      refine⟨cv,?_,c2⟩
      rw[<- c1];congr 1;omega
     ·rw[if_neg q2]at hi'
      have q3:(lo+m)*l.sz<=i'*l.sz:=Nat.mul_le_mul_right _ (by omega)
      rw[Nat.add_mul]at q3
      rw[if_neg (by omega),if_neg (by rw[as,<- hls];omega)]
      exact a9 i' j' row u hi' hj'
def zY (h:Rel G X w0 I ρ M w){t t2 ty:TypeId}{d x:V}{cd cx:Value}(hd:Is ρ (bP X ρ M) w d cd)(hx:Is ρ (bP X ρ M) w x cx)(hok:lz P t M d x) :
  ∃ w',(Builtin.copy_ #[t,t2] ty #[cd,cx]).run P w = .ok (.int .i64 (gV M d x:Nat)) w'/\Rel G X w0 I ρ (M.app (kT M d x)) w'/\Moves ρ M w ρ (M.app (kT M d x)) w':=by
 unfold lz at hok
 cases hel:cp P t with
 | none=>rw[hel]at hok;exact hok.elim
 | some y =>
  obtain⟨zc,bytes⟩:=y
  rw[hel]at hok
  obtain⟨hs1,hok⟩:=hok
  cases d<;>simp only[gM]at hok<;>try (exact hok.elim)
  case nils =>
   cases hd
   obtain⟨e,i,z,hu,hi,hz,hzs,hpos,hzc,hzl,hbi⟩:=eH hel
   rw[hzl]at hs1
   obtain⟨xl,xk⟩:=l7 (P:=P) h hpos hx hs1
   obtain⟨arr,af,as,ar⟩:=xk (min (aK M x).length 0) (Nat.min_le_left _ _)
   have hrun:=s7 (P:=P) (t2:=t2) (ty:=ty) hu hi (A:=none) (n:=0) (c:=0) xl af (w':=w) (fun a ha=>by cases ha) (fun _=>rfl)
   exact⟨w,by rw[hrun];rfl,h,.refl _ _ _⟩
  case own nm lo n =>
   obtain⟨h1,h2,h3,h4⟩:=hok
   cases hd with
   | own0=>exact nZ h (.inl (.inr rfl)) (fun _=>rfl) hx hel hs1 h1 h2 h3 h4
   | own hl hlc hnc=>exact nZ h (.inr ⟨_,hl,hlc,hnc,rfl⟩) (fun hA=>by cases hA) hx hel hs1 h1 h2 h3 h4
  case ownc nm lo n c =>
   obtain⟨h1,h2,h3,h4⟩:=hok
   cases hd with
   | ownc0=>exact nZ (nm:=nm) (lo:=lo) h (.inl (.inr rfl)) (fun _=>rfl) hx hel hs1 h1 h2 h3 h4
   | ownc hl hlc hnc=>exact nZ (nm:=nm) (lo:=lo) h (.inr ⟨_,hl,hlc,hnc,rfl⟩) (fun hA=>by cases hA) hx hel hs1 h1 h2 h3 h4
def vN:V->Nat
 | .ownc _ _ _ c=>c
 | .sl true _ rows=>rows.length
 | _=>0
def pW (P:Program)(t:TypeId):Bool:=match P.underlying t with|some (.slice _)=>true|_=>false
def l6 {t:TypeId}(h:pW P t=true):∃ e,P.underlying t=some (.slice e):=by
 unfold pW at h
 split at h
 ·exact⟨_,‹_›⟩
 ·cases h
def qi (P:Program)(t:TypeId):V->Prop
 | .ownc _ _ _ _=>pW P t=true
 | .sl true _ _=>pW P t=true
 | .nils=>pW P t=true
 | _=>False
def CQ {t ty:TypeId}{x:V}{cx:Value}(hx:Is ρ D w x cx)(hok:qi P t x):(Builtin.cap_ #[t] ty #[cx]).run P w = .ok (.int .i64 (vN x)) w:=by
 cases x<;>simp only[qi]at hok<;>try (exact hok.elim)
 case nils=>obtain⟨e,hu⟩:=l6 hok;cases hx;simp[Builtin.cap_,run_underlying hu,goInt,vN]
 case ownc nm lo n c=>obtain⟨e,hu⟩:=l6 hok;cases hx<;>simp[Builtin.cap_,run_underlying hu,goInt,vN]
 case sl tt sz rows =>
  cases tt<;>simp only[qi]at hok
  ·obtain⟨e,hu⟩:=l6 hok
   cases hx with
   | sl0 ht=>have:=ht rfl;subst this;simp[Builtin.cap_,run_underlying hu,goInt,vN]
   | sl cv hc ht=>have:=ht rfl;subst this;simp[Builtin.cap_,run_underlying hu,goInt,vN]
def intKind (P:Program)(t:TypeId):Bool:=match P.underlying t with|some (.int _)=>true|_=>false
def mf (P:Program)(t:TypeId)(M:ao)(s:V)(m:Nat):Blk:=match cp P t with
 | some (zc,_)=>⟨zc.length,aK M s++List.replicate m zc⟩
 | none=>⟨0,[]⟩
def mH (P:Program)(t t2:TypeId)(M:ao)(s:V)(m:Int):Prop:=intKind P t2=true/\0<m/\match cp P t,s with
 | some (zc,bytes),.ownc nm lo n c=>dW M zc.length s/\c<n+m.toNat/\n+m.toNat<=maxLen/\(n+m.toNat)*bytes<=140737488355328
 | _,_=>False
def E7 {z:Value}{s n:Nat}(hz:z.cells.size=s)(hs:0<s):cI ρ D w s (List.replicate n (z.cells.toList.map lh)) (Builtin.zeroCells z.cells n)/\(Builtin.zeroCells z.cells n).size=n*s:=by
 have h1:(Builtin.zeroCells z.cells n).size=n*s:=by simp[Builtin.zeroCells,hz]
 refine⟨tH hz hs rfl n _ h1 (fun k hk=>?_),h1⟩
 simp[Builtin.zeroCells,hz,hk]
def zx (h:Rel G X w0 I ρ M w){nm:Nat}(hM:M nm=none)(hρ:ρ nm=none){t t2 ty:TypeId}{s:V}{k:IntKind}{m:Int}{cs:Value}(hs:Is ρ (bP X ρ M) w s cs)(hok:mH P t t2 M s m) :
  ∃ c w',(Builtin.append_ #[t,t2] ty #[cs,.int k m]).run P w = .ok c w'/\cV G X w0 I ρ M w nm (.own nm 0 ((aK M s).length+m.toNat)) (M.put nm (some (mf P t M s m.toNat))) c w':=by
 obtain⟨hk,hm,hok⟩:=hok
 cases hel:cp P t with
 | none=>rw[hel]at hok;exact hok.elim
 | some y =>
  obtain⟨zc,bytes⟩:=y
  rw[hel]at hok
  cases s<;>simp only at hok<;>try (exact hok.elim)
  rename_i ns lo n c
  obtain⟨hs1,hroom,h63,hbytes⟩:=hok
  obtain⟨e,i,z,hu,hi,hz,hzs,hpos,hzc,hzl,hbi⟩:=eH hel
  subst hbi
  rw[hzl]at hs1
  have hlen:(aK M (.ownc ns lo n c)).length=n:=by
   have:=hs1.2.2
   simp only[aK];simp;omega
  obtain⟨kn,hkn⟩:∃ kn,P.underlying t2=some (.int kn):=by
   unfold intKind at hk
   split at hk
   ·exact⟨_,‹_›⟩
   ·cases hk
  obtain⟨m',rfl⟩:∃ m':Nat,m=m':=⟨m.toNat,by omega⟩
  simp only[Int.toNat_natCast]at *
  obtain⟨A,rfl,hcn⟩:∃ A,cs = .slice A n c/\n<=c:=by
   cases hs with
   | ownc0=>exact⟨_,rfl,Nat.le_refl _⟩
   | ownc _ _ hc _=>exact⟨_,rfl,hc⟩
  obtain⟨d1,d2⟩:=h.draw (w.drawn+1)
  have hs':=d2.is hs
  obtain⟨ol,oarr,of',os,or'⟩:=j6 (P:=P) d1 hpos hs' hs1
  rw[hlen]at of' os
  have hfit:=growslice_fits (old:=c) (need:=n+m') (bytes:=i.bytes) hroom hbytes
  have h63':n+m'<=9223372036854775807:=by simp only[maxLen]at h63;omega
  have hmb:m'*i.bytes<=(n+m')*i.bytes:=Nat.mul_le_mul_right _ (by omega)
  have hrun:=Lib.run_append_grow_zeros (P:=P) w t t2 ty e i z k kn hu hkn hi hz A n c oarr.toList (by simpa using of') m' (by omega) hpos hroom (by omega) (by omega) (by omega)
  have hge:=grownCap_ge w (n+m') c e
  obtain⟨zr,zs⟩:=E7 (ρ:=ρ) (D:=bP X ρ M) (w:={ w with drawn:=w.drawn+1 }) (z:=z) (n:=m') hzs hpos
  have hrows:=((or'.append zr (by rw[os,hlen])).more (c2:=Builtin.zeroCells z.cells (grownCap w (n+m') c e-(n+m'))))
  rw[<- hzc]at hrows
  obtain⟨r1,r2⟩:=d1.alloc hM hρ (oarr++Builtin.zeroCells z.cells m'++Builtin.zeroCells z.cells (grownCap w (n+m') c e-(n+m'))) e ⟨i.size,aK M (.ownc ns lo n c)++List.replicate m' zc⟩ (grownCap w (n+m') c e)
   (by simp only[List.length_append,List.length_replicate,hlen];exact hge) (by
    simp only[Array.size_append,size_zeroCells,os,hzs,<- Nat.add_mul]
    exact Nat.mul_le_mul_right _ (by omega)) hrows.2.1 hrows.2.2
  have hK:mf P t M (.ownc ns lo n c) m'=⟨i.size,aK M (.ownc ns lo n c)++List.replicate m' zc⟩:=by simp only[mf,hel,hzl]
  rw[hK,hlen]
  refine⟨_,_,hrun,_,r1,d2.trans r2,?_,fun y hy=>Names.put_ne _ _ hy⟩
  have:=Is.own (ρ:=ρ.put nm ⟨w.heap.size,0,i.size,grownCap w (n+m') c e⟩) (D:=bP X (ρ.put nm ⟨w.heap.size,0,i.size,grownCap w (n+m') c e⟩) (M.put nm (some ⟨i.size,aK M (.ownc ns lo n c)++List.replicate m' zc⟩)))
   (w:=w.drew.alloc (.cells (oarr++Builtin.zeroCells z.cells m'++Builtin.zeroCells z.cells (grownCap w (n+m') c e-(n+m'))) e)) (nm:=nm) (lo:=0) (n:=n+m') (c:=grownCap w (n+m') c e) (Names.put_same _ _ _) (by simp) hge
  simpa using this
end
end Go.Proofs.YtjonibipieofcaaGreatDoor.Vm
