/-
 Texts joined: XVF,XVJ,XVL,XVM,XVN,XVO,XVP,XVQ,XVR,XVS,XVT,XVW,XVY,XVZ,XVH.
-/
import Derived.Lib.Overlaps
import Derived.Conc.LoneSelect
import Derived.Lib.ConvBytes
import Derived.Laws.BytesString
import Derived.Laws.MakeOwn
import Derived.Laws.RangeAny
import Derived.Lib.Bytealg
import Derived.Lib.Builder
import Derived.Lib.UnsafeStr
import Derived.Laws.Externs
import Derived.Laws.Entries
import Derived.Laws.NewFold
import Derived.Lib.MakeNoZero
import Derived.Recover
import Derived.Test.YtlnlopnpcmahgaaGreatDoorQd
set_option linter.all false
namespace Go.Proofs.YtlnlopnpcmahgaaGreatDoor.Vm
open Go Go.RowKit
def KZ (O:List (Nat×Nat))(sz:Nat)(rows:List (List V)):Blk.ren O ⟨sz,rows⟩=⟨sz,gW O rows⟩:=rfl
def AP (O:List (Nat×Nat))(sz:Nat)(rows:List (List V)):Blk.renOk O ⟨sz,rows⟩=fH O rows:=by
 show(fH O rows&&true)=_
 rw[Bool.and_true]
def tgt (nm:Nat)(p:Nat×Option Nat):Nat:=match p.2 with|none=>p.1|some j=>nm+j
def aP (nm:Nat)(g:List (Nat×Option Nat)):List (Nat×Nat):=g.map (fun p=>(p.1,tgt nm p))
def qO (nm b0:Nat)(M0 M:am)(O:List (Nat×Nat)):List (Nat×Option Nat)->Prop
 | []=>True
 |(x,o)::r=>(match o with|none=>(M0 x).isSome=true|some j=>j<16/\(b0<=x\/(M0 x).isSome=true))/\(match M x with|some k=>k.renOk O=true|none=>False)/\(∀ p∈r,p.1≠x/\tgt nm p≠tgt nm (x,o))/\qO nm b0 M0 M O r
def tT {nm b0:Nat}{M0 M:am}{O:List (Nat×Nat)} : ∀ {g:List (Nat×Option Nat)},qO nm b0 M0 M O g->((aP nm g).map (·.1)).Nodup/\((aP nm g).map (·.2)).Nodup /\ ∀ p∈aP nm g,((p.1=p.2/\(M0 p.2).isSome=true)\/(b7 nm p.2/\(b0<=p.1\/(M0 p.1).isSome=true))) /\ ∃ k,M p.1=some k/\k.renOk O=true
  | [],_=>⟨List.nodup_nil,List.nodup_nil,fun p hp=>by cases hp⟩
  |(x,o)::r,h=>by
    obtain⟨h1,h2,h3,h4⟩:=h
    obtain⟨a,b,c⟩:=tT h4
    refine⟨List.nodup_cons.2 ⟨fun hm=>?_,a⟩,List.nodup_cons.2 ⟨fun hm=>?_,b⟩,fun p hp=>?_⟩
    · simp only[aP,List.map_map,List.mem_map,Function.comp_apply]at hm
      obtain⟨p,hp,e⟩:=hm
      exact(h3 p hp).1 e
    · simp only[aP,List.map_map,List.mem_map,Function.comp_apply]at hm
      obtain⟨p,hp,e⟩:=hm
      exact(h3 p hp).2 e
    · rcases List.mem_cons.1 hp with rfl|hp
      · refine⟨?_,?_⟩
        · cases o with
          | none=>exact .inl ⟨rfl,h1⟩
          | some j=>exact .inr ⟨⟨Nat.le_add_right _ _,by simp only[tgt];have:=h1.1;omega⟩,h1.2⟩
        · split at h2
          · rename_i k hk;exact⟨k,hk,h2⟩
          · exact h2.elim
      · exact c p hp
def Ji (nm:Nat)(M:am)(O:List (Nat×Nat))(g:List (Nat×Option Nat)):List (Nat×Option Blk):=g.map (fun p=>(tgt nm p,(M p.1).map (Blk.ren O)))
def IF (δ:List Nat):List (Nat×Option Blk):=δ.map (fun x=>(x,none))
def Fin.give {cx:Cx}{N:Nat}{rs:List ResultVar}{nm:Nat}{M0:am}{v:V}{eff:List (Nat×Option Blk)}{b0 n:Nat}{e:Env}{M:am}(g:List (Nat×Option Nat))(δ:List Nat)(h1:mf cx.P N rs e M)(h2:(mj cx.P rs e M).finOk (aP nm g) M)(h3:((mj cx.P rs e M).fin (aP nm g) M).le v)
  (h4:IF δ++Ji nm M (aP nm g) g=eff) (h5:qO nm b0 M0 M (aP nm g) g) (h6:∀ x,(M0 x).isSome=true->x∈(aP nm g).map (·.2)\/x∈δ):po cx N rs nm M0 v eff b0 n e M:=by
 obtain⟨a,b,c⟩:=tT h5
 exact⟨[],h1,aP nm g,δ,h2,h3,by rw[<- h4];simp[IF,Ji,aP,am.ghosts],a,b,c,h6⟩
def aL {M:am}{nm:Nat}{g:List (Nat×Option Nat)}{dl L:List Nat}(ho:∀ z,(M z).isSome=true->z∈L)(h:∀ z∈L,z∈(aP nm g).map (fun x=>x.2)\/z∈dl):∀ z,(M z).isSome=true->z∈(aP nm g).map (fun x=>x.2)\/z∈dl:=fun z hz=>h z (ho z hz)
end Go.Proofs.YtlnlopnpcmahgaaGreatDoor.Vm
namespace Go.Proofs.YtlnlopnpcmahgaaGreatDoor.Vm
open Go Go.RowKit Go.Conc
def D5 (cap:Nat)(closed:Bool)(ms:List V):Blk:=@Blk.mk 0 [] (.chan cap closed ms)
section
variable {cx:Cx} {P:Program} {G:Nat->V} {X:Nat->Prop} {w0:World} {I:Nat->Prop} {Y:Names} {M:am} {w w':World} {D:Nat->Prop}
def Rel.grow (h:Rel G X w0 I Y M w)(hs:w.heap.size<=w'.heap.size)(hos:w'.os=w.os)(htp:w'.tape=w.tape)(hout:w'.output=w.output)(hk:∀ b,b<w.heap.size->w'.heap[b]? = w.heap[b]?):Rel G X w0 I Y M w'/\Moves Y M w Y M w':=by
 have m:Moves Y M w Y M w':=⟨fun _ _ h=>h,hs,hos,htp,hout,fun b hb _=>hk b hb,fun nm l h1 h2 _=>⟨nm,l,h1,h2,rfl⟩⟩
 exact⟨h.move m h.inj (fun nm k hM=>.inl ⟨hM,id,fun l hl=>hk l.b (h.block_lt (by rw[hM];rfl) hl).1⟩),m⟩
def Rel.chan (h:Rel G X w0 I Y M w){y:Nat}{k:Blk}{l:Loc}(hM:M y=some k)(hl:Y y=some l)(hz:l.sz=0)(ht:l.tot=0){cap s r:Nat}{closed:Bool}{buf:Array Value}{ms:List V}(hlt:l.b<w.heap.size)
  (hn:buf.size=ms.length) (hm:∀(i:Nat) (u:V),ms[i]? = some u -> ∃ cv,buf[i]? = some cv/\Is Y (bH X Y M) w u cv) :
  Rel G X w0 I Y (M.put y (some (D5 cap closed ms))) (w.setChan l.b cap buf closed s r false)/\Moves Y M w Y (M.put y (some (D5 cap closed ms))) (w.setChan l.b cap buf closed s r false):=by
 have hk:∀ b,b≠l.b->(w.setChan l.b cap buf closed s r false).heap[b]? = w.heap[b]?:=fun b hb=>by
  simp only[World.setChan];rw[Array.getElem?_setIfInBounds_ne (Ne.symm hb)]
 have hs:∀ x,((M.put y (some (D5 cap closed ms))) x).isSome=true->(M x).isSome=true:=fun x hx=>by
  by_cases e:x=y
  ·subst e;rw[hM];rfl
  ·rwa[am.put_ne _ _ e]at hx
 have m:Moves Y M w Y (M.put y (some (D5 cap closed ms))) (w.setChan l.b cap buf closed s r false) :=
  ⟨fun _ _ h=>h,by simp[World.setChan],rfl,rfl,rfl,fun b _ hn=>hk b (fun e=>hn y l (by rw[hM];rfl) hl e.symm),fun n l' a1 a2 _=>⟨n,l',hs n a1,a2,rfl⟩⟩
 refine⟨h.move m (fun a b l1 l2 a1 a2 a3 a4 a5=>h.inj a b l1 l2 (hs a a1) (hs b a2) a3 a4 a5) ?_,m⟩
 intro x kx hx
 by_cases e:x=y
 ·subst e
  rw[am.put_same]at hx
  cases hx
  obtain⟨b1,b2,b3⟩:=h.block_lt (by rw[hM];rfl) hl
  refine .inr (.inr ⟨l,hl,b3,b2,.inr ⟨_,(),ms,buf,(),(),⟨rfl,s,r,rfl⟩,heap_setChan w l.b cap buf closed s r false hlt,hz.symm,rfl,ht,hn,fun i u hi=>?_⟩⟩)
  obtain⟨cv,c1,c2⟩:=hm i u hi
  exact⟨cv,c1,m.is c2⟩
 ·rw[am.put_ne _ _ e]at hx
  exact .inl ⟨hx,id,fun lx hlx=>hk _ (fun e2=>e (h.inj x y lx l (by rw[hx];rfl) (by rw[hM];rfl) hlx hl e2))⟩
end
def ij {P:Program}{o:Oper}{a:Act}{w:World}{s:Sem Value}{cv:Value}{w':World}(h1:execOp a.eval o=(do pure (.value (<- s))))(h2:s.run P w = .ok cv w'):∀(K:Act->World->Prop) (Q:Exit->Act->World->Prop),K (a.put o.dst cv) w'->o.wp P a w K Q:=by
 intro K Q h3
 unfold Oper.wp
 rw[h1,Sem.run_bind,h2]
 exact h3
def l9 {P:Program}{b:Builtin}{as:Array Operand}{ts:Array TypeId}{dst:Option Tmp}{t:TypeId}{pos:String}{af:Array Edge}{gd:Option (Nat×Bool)}{a:Act}{w:World}{s:Sem Value}{cv:Value}{w':World}
  (h1:∀ consts,builtin b ts t consts (as.map a.eval)=(do pure (.value (<- s)))) (h2:s.run P w = .ok cv w'):∀(K:Act->World->Prop) (Q:Exit->Act->World->Prop),K (a.put dst cv) w'->(⟨dst,.call ⟨.builtin b,as,ts⟩,t,pos,af,gd⟩:Oper).wp P a w K Q:=by
 intro K Q h3
 unfold Oper.wp execOp
 simp only[resolve,Sem.run_bind,Sem.run_pure,Result.andThen_ok,invoke,h1,h2]
 exact h3
section
variable {cx:Cx} {Q:Post} {st:List Frm} {nm:Nat} {e:Env} {M:am} {d:Bool} {fs:List (List Nat)} {ops r:List Oper} {dst:Option Tmp} {t:TypeId} {pos:String} {af:Array Edge} {gd:Option (Nat×Bool)} {i:Nat}
def Gu {Y:Names}{D:Nat->Prop}{w:World}{u v z:V}{c1 c2 c3:Value}(h1:Is Y D w u c1)(h2:Is Y D w v c2)(h3:Is Y D w z c3):Is Y D w (.tup [u,v,z]) (.tuple #[c1,c2,c3]) :=
 .tup rfl (fun i q cv hi hc=>by
  rcases i with _|_|_|i
  ·simp at hi hc;subst hi;subst hc;exact h1
  ·simp at hi hc;subst hi;subst hc;exact h2
  ·simp at hi hc;subst hi;subst hc;exact h3
  ·simp at hi)
end
end Go.Proofs.YtlnlopnpcmahgaaGreatDoor.Vm
namespace Go.Proofs.YtlnlopnpcmahgaaGreatDoor.Vm
open Go Go.RowKit
def mz (P:Program)(t:TypeId):Bool:=match P.underlying t with
 | some (.slice e)=>(match P.underlying e with|some (.int .u8)=>true|_=>false)
 | _=>false
def rL {P:Program}{t:TypeId}(h:mz P t=true):∃ e,P.underlying t=some (.slice e)/\P.underlying e=some (.int .u8):=by
 unfold mz at h
 split at h
 ·rename_i e he
  split at h
  ·rename_i he2;exact⟨e,he,he2⟩
  ·cases h
 ·cases h
def V.isStr:V->Bool
 | .str _=>true
 | _=>false
def tS:∀(l:List UInt8) (s:ByteArray),(l.map fun b=>(b.toNat:Int)).foldl (fun r n=>r.push (UInt8.ofNat n.toNat)) s=⟨s.data++l.toArray⟩
 | [],s=>by simp
 | b::l,s=>by
  simp only[List.map_cons,List.foldl_cons]
  rw[tS l]
  apply ByteArray.ext
  simp[ByteArray.push]
section
variable {cx:Cx} {X:Nat->Prop} {w0:World} {I:Nat->Prop} {Y:Names} {M:am} {w:World}
def xy {P:Program}{G:Nat->V}(h:Rel G X w0 I Y M w){x:V}{cv:Value}{bs:List UInt8}(hx:Is Y (bH X Y M) w x cv)(hok:eQ M 1 x)(hns:x.isStr=false)(hr:aO M x=bs.map aI){s d:TypeId}(hs:mz P s=true)(hd:P.underlying d=some .string) :
  (convert s d cv).run P w = .ok (.string ⟨bs.toArray⟩) w:=by
 obtain⟨e,hs,he⟩:=rL hs
 obtain⟨h1,arr,h2,h3,h4⟩:=lf (P:=P) h (by decide:0<1) hx hok
 have form:∃ A n c,cv = .slice A n c:=by
  cases x<;>first|exact hok.elim|(simp[V.isStr]at hns;done)|skip
  all_goals cases hx<;>exact⟨_,_,_,rfl⟩
 obtain⟨A,n,c,rfl⟩:=form
 have hn:n=bs.length:=by
  have:(Builtin.lenOf (.slice A n c)).run P w = .ok n w:=rfl
  rw[this]at h1
  have h1':n=(aO M x).length:=by injection h1
  rw[h1',hr,List.length_map]
 subst hn
 rw[run_convert_bytes_string w s d e A _ c hs he hd]
 cases A with
 | none =>
  have hz:bs=[]:=by
   cases bs with
   | nil=>rfl
   | cons b bs =>
    exfalso
    have:(Builtin.firstCells 1 (aO M x).length (.slice none (b::bs).length c)).run P w = .ok #[] w:=rfl
    rw[this]at h2
    have h2':(#[]:Array Value)=arr:=by injection h2
    rw[<- h2',hr]at h3
    simp at h3
  subst hz
  rfl
 | some a =>
  have hl:(loadCells a (bs.length*1)).run P w = .ok arr w:=by
   have:=h2
   rw[hr,List.length_map]at this
   exact this
  rw[Nat.mul_one]at hl
  have harr:arr=((bs.map fun b=>(b.toNat:Int)).map (Value.int .u8)).toArray:=by
   rw[hr,List.length_map,Nat.mul_one]at h3
   apply Array.ext
   ·simp[h3]
   ·intro i hi1 hi2
    have hib:i<bs.length:=by omega
    obtain⟨cc,c1,c2⟩:=h4.2.2 i 0 (aI bs[i]) (.int .u8 bs[i].toNat) (by rw[hr,List.getElem?_map,List.getElem?_eq_getElem hib];rfl) rfl
    cases c2
    simp only[Nat.mul_one,Nat.add_zero]at c1
    rw[Array.getElem?_eq_getElem hi1]at c1
    simp only[Option.some.injEq]at c1
    rw[c1]
    simp
  have:=run_bytesToString (P:=P) w a bs.length c (bs.map fun b=>(b.toNat:Int)) (by rw[<- harr];exact hl)
  rw[this,tS]
  have h0:ByteArray.empty.data = #[]:=rfl
  simp[h0]
variable {Q:Post} {st:List Frm} {nm:Nat} {e:Env} {d:Bool} {fs:List (List Nat)} {ops r:List Oper} {dst:Option Tmp} {t:TypeId} {pos:String} {af:Array Edge} {gd:Option (Nat×Bool)} {i:Nat}
def B0 {s dt:TypeId}{x:Operand}{v:V}{bs:List UInt8}{n:Nat}(hs:mz cx.P s=true)(hd:cx.P.underlying dt=some .string)(hx:aw cx.G true e x=v)(hns:v.isStr=false)(hok:eQ M 1 v)(hr:aO M v=bs.map aI) :
  ExtDoes cx ⟨dst,.convert s dt x,t,pos,af,gd⟩ n e M (.str bs) [] (bq v):=by
 refine⟨fun x hx=>by simp[ao]at hx,fun x hx=>by simp[ao]at hx,fun h=>absurd rfl h,fun _=>rfl,?_⟩
 intro N X w0 I Y e' M' a w hr' he hin hev hM _
 have hxi:=he.eval hr' (c:=true) rfl (hin x (by simp[Op.operands]))
 rw[hev x (by simp[Op.operands]),hx]at hxi
 have hrun:=xy (P:=cx.P) hr' hxi (by rw[iN hM];exact hok) hns (bs:=bs) (by rw[dm hM];exact hr) hs hd
 exact⟨_,w,(dc.still (nm:=n) hr' (.str bs)).n,ij rfl hrun⟩
def wb {s dt:TypeId}{x:Operand}{v:V}{bs:List UInt8}(hs:mz cx.P s=true)(hd:cx.P.underlying dt=some .string)(hx:aw cx.G true e x=v)(hns:v.isStr=false)(hok:eQ M 1 v)(hr:aO M v=bs.map aI)
  (h:aK cx Q st nm (e.putD dst (.str bs)) M d (fs++[bq v]) ops r (i+1)):cp cx Q st nm e M d fs ops ⟨dst,.convert s dt x,t,pos,af,gd⟩ r i :=
 ⟨_,[],_,B0 hs hd hx hns hok hr,h⟩
def xD {s dt:TypeId}{x:Operand}{bs:List UInt8}{n:Nat}(hs:cx.P.underlying s=some .string)(hd:mz cx.P dt=true)(hx:aw cx.G true e x = .str bs) :
    ExtDoes cx ⟨dst,.convert s dt x,t,pos,af,gd⟩ n e M (.sl false 1 (bs.map aI)) [] []:=by
  refine⟨fun x hx=>by simp[ao]at hx,fun x hx=>by simp[ao]at hx,fun h=>absurd rfl h,fun h=>absurd rfl h,?_⟩
  intro N X w0 I Y e' M' a w hr' he hin hev hM _
  have hxi:=he.eval hr' (c:=true) rfl (hin x (by simp[Op.operands]))
  rw[hev x (by simp[Op.operands]),hx]at hxi
  obtain⟨el,hd,hel⟩:=rL hd
  have hrun:=Lib.run_convert_string_bytes (P:=cx.P) w s dt el ⟨bs.toArray⟩ hs hd hel
  have hsz:(⟨bs.toArray⟩:ByteArray).size=bs.length:=by simp[ByteArray.size]
  rw[hsz]at hrun
  obtain⟨g1,g2⟩:=hr'.grow (w':=Lib.bytesWorld w el ⟨bs.toArray⟩) (by rw[Lib.bytesWorld_size];omega) rfl rfl rfl (fun b hb=>Lib.bytesWorld_at_old w el _ b hb)
  have hv:Is Y (bH X Y M') (Lib.bytesWorld w el ⟨bs.toArray⟩) (.sl false 1 (bs.map aI)) (.slice (some ⟨w.heap.size,0,none⟩) bs.length (grownCap w bs.length 0 el)):=by
    have:=Is.sl (Y:=Y) (D:=bH X Y M') (w:=Lib.bytesWorld w el ⟨bs.toArray⟩) (t:=false) (sz:=1) (rows:=bs.map aI) (b:=w.heap.size) (o:=0) (c:=grownCap w bs.length 0 el)
      (fun i _=>.int .u8 (bs.getD i 0).toNat) (by rw[List.length_map];exact grownCap_ge _ _ _ _) (fun h=>by cases h) (by
        rintro (hX|⟨nm,l,k1,k2,k3⟩)
        · have:=(hr'.hX _ hX).1;have:=hr'.size;omega
        · have:=(hr'.block_lt k1 k2).1;omega) (by rw[Lib.bytesWorld_size];omega) (fun i row hi=>by
        rw[List.getElem?_map]at hi
        obtain⟨b,_,rfl⟩:=Option.map_eq_some_iff.1 hi
        rfl) (fun i j row u hi hj=>by
        rw[List.getElem?_map]at hi
        obtain⟨b,hb,rfl⟩:=Option.map_eq_some_iff.1 hi
        have hj0:j=0:=by
          have:=(List.getElem?_eq_some_iff.1 hj).1
          simp[aI]at this;exact this
        subst hj0
        have hlt:=(List.getElem?_eq_some_iff.1 hb).1
        have:=Lib.bytesWorld_cell w el ⟨bs.toArray⟩ i (by rw[hsz];exact hlt)
        simpa using this) (fun i j row u hi hj=>by
        rw[List.getElem?_map]at hi
        obtain⟨b,hb,rfl⟩:=Option.map_eq_some_iff.1 hi
        have hj0:j=0:=by
          have:=(List.getElem?_eq_some_iff.1 hj).1
          simp[aI]at this;exact this
        subst hj0
        simp only[aI,List.getElem?_cons_zero,Option.some.injEq]at hj
        subst hj
        have:bs.getD i 0=b:=by rw[List.getD_eq_getElem?_getD,hb];rfl
        rw[this]
        exact .int _ _)
    rwa[List.length_map]at this
  refine⟨_,_,⟨Y,g1,g2,hv,fun _ _=>rfl⟩,ij (s:=convert s dt (a.eval x)) rfl ?_⟩
  generalize hcv:a.eval x=cv at hxi
  cases hxi
  exact hrun
def mQ {s dt:TypeId}{x:Operand}{bs:List UInt8}(hs:cx.P.underlying s=some .string)(hd:mz cx.P dt=true)(hx:aw cx.G true e x = .str bs)
  (h:aK cx Q st nm (e.putD dst (.sl false 1 (bs.map aI))) M d (fs++[[]]) ops r (i+1)):cp cx Q st nm e M d fs ops ⟨dst,.convert s dt x,t,pos,af,gd⟩ r i :=
 ⟨_,[],_,xD hs hd hx,h⟩
def vu (gs hs:List Nat):∀(M:am) (n:Nat),(M.ghosts n gs).ghosts (n+gs.length) hs=M.ghosts n (gs++hs):=by
 induction gs with
 | nil=>intro M n;rfl
 | cons g gs ih =>
  intro M n
  simp only[am.ghosts,List.cons_append,List.length_cons]
  rw[<- ih]
  congr 1
  omega
def Fin.more {N:Nat}{rs:List ResultVar}{M0:am}{v:V}{eff:List (Nat×Option Blk)}{b0 n:Nat}(gs:List Nat)(h:po cx N rs nm M0 v eff b0 (n+gs.length) e (M.ghosts n gs)):po cx N rs nm M0 v eff b0 n e M:=by
 obtain⟨hs,h⟩:=h
 rw[vu]at h
 exact⟨_,h⟩
def ba {o:Oper}(h:cp cx Q st nm e M d fs ops o r i):qP cx Q st nm e M d fs true ops o r i:=.inr ⟨fun _=>h,fun h=>by cases h⟩
def aU {o:Oper}(h:aK cx Q st nm (e.putD o.dst .any) M d (fs++[[]]) ops r (i+1)):qP cx Q st nm e M d fs false ops o r i:=.inr ⟨fun h=>(by cases h),fun _=>h⟩
def wz (P:Program)(ty:TypeId)(n:Nat):Blk:=match cG P ty with
 | some (zc,_)=>⟨zc.length,List.replicate n zc⟩
 | none=>⟨0,[]⟩
def un (P:Program)(ty:TypeId)(n:Nat):Prop:=match cG P ty with
 | some (zc,b)=>n*zc.length<=16777216/\b*n<=281474976710656
 | none=>False
def FS {ty:TypeId}{x y:Operand}{kx ky:IntKind}{n c:Nat}(hx:aw cx.G true e x = .int kx n)(hy:aw cx.G true e y = .int ky c)(hn:n<=c)(hok:un cx.P ty c)
  (h:aK cx Q st nm (e.putD dst (.own (nm+16*i) 0 n)) (M.app [(nm+16*i,some (wz cx.P ty c))]) d (fs++[[nm+16*i]]) ops r (i+1)):cp cx Q st nm e M d fs ops ⟨dst,.makeSlice ty x y,t,pos,af,gd⟩ r i:=by
 refine⟨_,_,_,⟨fun x hx=>hx,fun x hx=>?_,fun _=>rfl,fun _=>rfl,?_⟩,h⟩
 ·simp only[ao,List.map_cons,List.map_nil,List.mem_singleton]at hx
  subst hx;exact .inr ⟨Nat.le_refl _,by omega⟩
 ·intro N X w0 I Y e' M' a w hr he hin hev _ hf
  obtain⟨f1,f2⟩:=hf (nm+16*i) ⟨Nat.le_refl _,by omega⟩
  have hxi:=he.eval hr (c:=true) rfl (hin x (by simp[Op.operands]))
  rw[hev x (by simp[Op.operands]),hx]at hxi
  have hyi:=he.eval hr (c:=true) rfl (hin y (by simp[Op.operands]))
  rw[hev y (by simp[Op.operands]),hy]at hyi
  unfold un at hok
  cases hel:cG cx.P ty with
  | none=>rw[hel]at hok;exact hok.elim
  | some q =>
   obtain⟨zc,b⟩:=q
   rw[hel]at hok
   obtain⟨el,inf,z,hu,hi,hz,hzs,hpos,hzc,hzl,hb⟩:=fq hel
   obtain⟨ho1,ho2⟩:=hok
   have hc63:c<=16777216:=by
    have:c*1<=c*zc.length:=Nat.mul_le_mul_left _ (by omega)
    omega
   have hrun:=run_makeSlice (P:=cx.P) w ty el inf z hu hi hz kx ky n c (by omega) (by omega) (by simp only[Int.toNat_natCast];rw[<- hzl];exact ho1) (by rw[hb,<- Int.natCast_mul];exact Int.ofNat_le.2 ho2) (by omega)
   simp only[Int.toNat_natCast]at hrun
   have hrows:cS Y (bH X Y M') w inf.size (List.replicate c zc) (madeCells z.cells (c*inf.size)):=u9 hzs hpos hzc c _ (size_madeCells _ _) (fun k hk=>by simp[madeCells,hzs,hk])
   obtain⟨g1,g2⟩:=hr.alloc f1 f2 (madeCells z.cells (c*inf.size)) el ⟨inf.size,List.replicate c zc⟩ c (by simp) (by simp[size_madeCells]) hrows.2.1 hrows.2.2
   have hK:wz cx.P ty c=⟨inf.size,List.replicate c zc⟩:=by simp only[wz,hel,hzl]
   rw[hK]
   refine⟨_,_,(show dc _ _ _ _ _ _ _ _ _ _ _ _ from ⟨_,g1,g2,.own (c:=c) (Names.put_same _ _ _) (by simp) hn,fun x hx=>Names.put_ne _ _ hx⟩).n,ij (s:=Instr.makeSlice ty (a.eval x) (a.eval y)) rfl ?_⟩
   generalize hcv:a.eval x=cv at hxi
   generalize hcw:a.eval y=cw at hyi
   cases hxi
   cases hyi
   simpa using hrun
def zN {ty:TypeId}{x y:Operand}{kx ky:IntKind}{n c:Int}(hx:aw cx.G true e x = .int kx n)(hy:aw cx.G true e y = .int ky c)(h0:0<=n)(hn:n<=c)(hok:un cx.P ty c.toNat)
  (h:aK cx Q st nm (e.putD dst (.own (nm+16*i) 0 n.toNat)) (M.app [(nm+16*i,some (wz cx.P ty c.toNat))]) d (fs++[[nm+16*i]]) ops r (i+1)):cp cx Q st nm e M d fs ops ⟨dst,.makeSlice ty x y,t,pos,af,gd⟩ r i :=
 FS (n:=n.toNat) (c:=c.toNat) (by rw[Int.toNat_of_nonneg h0];exact hx) (by rw[Int.toNat_of_nonneg (by omega)];exact hy) (by omega) hok h
end
def lB:List (Nat×V)->Env
 | [],_=>.any
 |(t,v)::r,x=>if x=t then v else lB r x
def iI:List (Nat×Blk)->am
 | [],_=>none
 |(y,k)::r,x=>if x=y then some k else iI r x
def nH (t:Nat)(v:V)(r:List (Nat×V))(x:Nat):lB ((t,v)::r) x=if x=t then v else lB r x:=rfl
def pH (x:Nat):lB [] x = .any:=rfl
def hZ (y:Nat)(k:Blk)(r:List (Nat×Blk))(x:Nat):iI ((y,k)::r) x=if x=y then some k else iI r x:=rfl
def jL (x:Nat):iI [] x=none:=rfl
def gR:List (List V)->List (List V)->Prop
 | [],[]=>True
 | x::xs,y::ys=>leL x y/\gR xs ys
 | _,_=>False
def nQ:∀(l:List (List V)),gR l l
 | []=>trivial
 | x::l=>⟨leL_refl x,nQ l⟩
def cM (l:List (List V)):gR l l=True:=eq_true (nQ l)
def m9:∀ {a b:List (List V)},gR a b->a.length=b.length /\ ∀(i:Nat) (y:List V),b[i]? = some y -> ∃ x,a[i]? = some x/\leL x y
 | [],[],_=>⟨rfl,fun i y h=>by simp at h⟩
 | x::xs,y::ys,h=>by
  obtain⟨h1,h2⟩:=m9 h.2
  refine⟨by simp[h1],fun i u hu=>?_⟩
  cases i with
  | zero=>simp at hu;subst hu;exact⟨x,rfl,h.1⟩
  | succ i=>exact h2 i u (by simpa using hu)
 | [],_::_,h=>h.elim
 | _::_,[],h=>h.elim
def Ob.le (a b:Ob):Prop:=a=b\/(b = .cells/\a.isRow=true)
def Ob.le_ok {a b:Ob}{e:TypeId}{l:Loc}(h:a.okCells e l)(hl:a.le b):b.okCells e l:=by
 rcases hl with rfl|⟨rfl,_⟩
 ·exact h
 ·trivial
def Ob.le_lies {a b:Ob}{x:Obj}{ms:List V}{buf:Array Value}{off:Nat}(h:a.lies x ms buf off)(hl:a.le b):b.lies x ms buf off:=by
 rcases hl with rfl|⟨rfl,hr⟩
 ·exact h
 ·cases a<;>first|exact h.elim|cases hr
def rT (a b:Blk):Prop:=a.sz=b.sz/\a.ob.le b.ob/\gR a.rows b.rows
def pY (o:Ob)(s s':Nat)(r r':List (List V)):rT (@Blk.mk s r o) (@Blk.mk s' r' o)=(s=s'/\gR r r'):=propext ⟨fun h=>⟨h.1,h.2.2⟩,fun h=>⟨h.1,.inl rfl,h.2⟩⟩
def uh (k:Blk):rT k k=True:=eq_true ⟨rfl,.inl rfl,nQ _⟩
def kH.le {Y:Names}{D:Nat->Prop}{w:World}{l:Loc}{a b:Blk}(h:kH Y D w l a)(hle:rT a b):kH Y D w l b:=by
 obtain⟨e1,e2,e3⟩:=hle
 obtain⟨f1,f2⟩:=m9 e3
 rcases h with ⟨cs,e,h1,h2,h3,h4,h5,h6,h7⟩|⟨cap,closed,msgs,buf,s,r,h1,h2,h3,h4,h5,h6,h7⟩
 ·refine .inl ⟨cs,e,Ob.le_ok h1 e2,h2,by rw[<- e1];exact h3,by rw[<- f1];exact h4,h5,fun i row hi=>?_,fun i j row u hi hj=>?_⟩
  ·obtain⟨x,g1,g2⟩:=f2 i row hi
   rw[<-(gK g2).1];exact h6 i x g1
  ·obtain⟨x,g1,g2⟩:=f2 i row hi
   obtain⟨v,g3,g4⟩:=(gK g2).2 j u hj
   obtain⟨cv,c1,c2⟩:=h7 i j x v g1 g3
   exact⟨cv,c1,c2.le u g4⟩
 ·refine .inr ⟨cap,closed,msgs,buf,s,r,Ob.le_lies h1 e2,h2,by rw[<- e1];exact h3,?_,h5,h6,h7⟩
  rw[h4]at f1
  cases hb:b.rows with
  | nil=>rfl
  | cons x y=>rw[hb]at f1;simp at f1
def dv:List (Nat×Blk)->List (Option Nat)->List (Nat×Option Nat×Blk)
 |(y,k)::r,o::s=>(y,o,k)::dv r s
 |(y,k)::r,[]=>(y,none,k)::dv r []
 | [],_=>[]
def eY:List (Nat×Option Nat×Blk)->List (Nat×Nat)
 | []=>[]
 |(y,some x,_)::r=>(x,y)::eY r
 |(_,none,_)::r=>eY r
def yy (O:List (Nat×Nat))(k0 k:Blk):Prop:=k0.renOk O=true/\rT (k0.ren O) k
def kA (R:Blk->Blk->Prop)(b0 nm':Nat)(M:am):List (Nat×Option Nat×Blk)->Prop
  | []=>True
  |(y,o,k)::r=>y<nm'/\(match o with
    | some x=>(b0<=y\/x=y)/\(match M x with|some k0=>R k0 k|none=>False)
    | none=>b0<=y/\k.rows=[]/\k.ob.isRow=true)/\(∀ p∈r,p.1≠y/\(o≠none->p.2.1≠o))/\kA R b0 nm' M r
def mC (M:am)(O:List (Nat×Nat))(e:Env):List (Nat×V)->Prop
 | []=>True
 |(t,v)::r=>((e t).finOk O M/\((e t).fin O M).le v)/\mC M O e r
def mD {R:Blk->Blk->Prop}{b0 nm':Nat}{M:am} : ∀ {C:List (Nat×Option Nat×Blk)},kA R b0 nm' M C -> ∀ {y:Nat} {o:Option Nat} {k:Blk},(y,o,k)∈C->y<nm'/\(match o with
    | some x=>(b0<=y\/x=y)/\(match M x with|some k0=>R k0 k|none=>False)
    | none=>b0<=y/\k.rows=[]/\k.ob.isRow=true)
  |(y',o',k')::C,h,y,o,k,hm=>by
    rcases List.mem_cons.1 hm with e|hm
    · cases e;exact⟨h.1,h.2.1⟩
    · exact mD h.2.2.2 hm
def iM:∀ {C:List (Nat×Option Nat×Blk)} {x y:Nat},(x,y)∈eY C ↔ ∃ k,(y,some x,k)∈C
  | [],x,y=>by simp[eY]
  |(y',none,k')::C,x,y=>by
    simp only[eY,iM (C:=C),List.mem_cons,Prod.mk.injEq,reduceCtorEq,false_and,and_false,false_or]
  |(y',some x',k')::C,x,y=>by
    simp only[eY,List.mem_cons,iM (C:=C),Prod.mk.injEq,Option.some.injEq]
    constructor
    · rintro (⟨rfl,rfl⟩|⟨k,h⟩)
      · exact⟨k',.inl ⟨rfl,rfl,rfl⟩⟩
      · exact⟨k,.inr h⟩
    · rintro ⟨k,⟨rfl,rfl,_⟩|h⟩
      · exact .inl ⟨rfl,rfl⟩
      · exact .inr ⟨k,h⟩
def oJ {R:Blk->Blk->Prop}{b0 nm':Nat}{M:am} : ∀ {C:List (Nat×Option Nat×Blk)},kA R b0 nm' M C->((eY C).map (·.1)).Nodup/\((eY C).map (·.2)).Nodup
  | [],_=>⟨List.nodup_nil,List.nodup_nil⟩
  |(y,none,k)::C,h=>by
    obtain⟨a,b⟩:=oJ (C:=C) h.2.2.2
    exact⟨a,b⟩
  |(y,some x,k)::C,h=>by
    obtain⟨a,b⟩:=oJ h.2.2.2
    refine⟨List.nodup_cons.2 ⟨fun hm=>?_,a⟩,List.nodup_cons.2 ⟨fun hm=>?_,b⟩⟩
    · obtain⟨⟨x',y'⟩,hp,he⟩:=List.mem_map.1 hm
      simp only at he;subst he
      obtain⟨k',hk⟩:=iM.1 hp
      exact(h.2.2.1 _ hk).2 (by simp) rfl
    · obtain⟨⟨x',y'⟩,hp,he⟩:=List.mem_map.1 hm
      simp only at he;subst he
      obtain⟨k',hk⟩:=iM.1 hp
      exact(h.2.2.1 _ hk).1 rfl
def zj {R:Blk->Blk->Prop}{b0 nm':Nat}{M:am} : ∀ {C:List (Nat×Option Nat×Blk)},kA R b0 nm' M C -> ∀ {y:Nat} {o o':Option Nat} {k k':Blk},(y,o,k)∈C->(y,o',k')∈C->o=o'
  | [],_,_,_,_,_,_,h1,_=>by simp at h1
  |(y',o'',k'')::C,h,y,o,o',k,k',h1,h2=>by
    have h3:=h.2.2.1
    have h4:=h.2.2.2
    clear h
    rcases List.mem_cons.1 h1 with e1|g1<;>rcases List.mem_cons.1 h2 with e2|g2
    · cases e1;cases e2;rfl
    · cases e1;exact absurd rfl (h3 _ g2).1
    · cases e2;exact absurd rfl (h3 _ g1).1
    · exact zj h4 g1 g2
def pZ:∀ {Ms:List (Nat×Blk)} {src:List (Option Nat)} {y:Nat} {k:Blk},iI Ms y=some k -> ∃ o,(y,o,k)∈dv Ms src
  |(y',k')::Ms,src,y,k,h=>by
    simp only[iI]at h
    split at h
    · rename_i he;subst he;cases h
      cases src with
      | nil=>exact⟨none,by simp[dv]⟩
      | cons o s=>exact⟨o,by simp[dv]⟩
    · cases src with
      | nil =>
        obtain⟨o,ho⟩:=pZ (src:=[]) h
        exact⟨o,by simp[dv,ho]⟩
      | cons o' s =>
        obtain⟨o,ho⟩:=pZ (src:=s) h
        exact⟨o,by simp[dv,ho]⟩
def GH {R:Blk->Blk->Prop}{b0 nm':Nat}{M:am}{Ms:List (Nat×Blk)}{src:List (Option Nat)}(h:kA R b0 nm' M (dv Ms src)){y:Nat}(hy:nm'<=y):iI Ms y=none:=by
 cases hm:iI Ms y with
 | none=>rfl
 | some k =>
  obtain⟨o,ho⟩:=pZ (src:=src) hm
  have:=(mD h ho).1
  omega
def CZ {O:List (Nat×Nat)}(hn:(O.map (·.1)).Nodup){x y:Nat}(h:(x,y)∈O):aT O x=some y:=by
 induction O with
 | nil=>cases h
 | cons p r ih =>
  simp only[List.map_cons,List.nodup_cons]at hn
  obtain⟨x',y'⟩:=p
  rw[fG]
  rcases List.mem_cons.1 h with e|h
  ·cases e;rw[if_pos rfl]
  ·have hne:x'≠x:=fun e=>hn.1 (List.mem_map.2 ⟨(x,y),h,e.symm⟩)
   rw[if_neg hne]
   exact ih hn.2 h
section
variable {cx:Cx}
def HW (R:Blk->Blk->Prop)(O:List (Nat×Nat))(M:am)(cx:Cx):Prop:=∀(X:Nat->Prop) (w0:World) (I:Nat->Prop) (Y Y':Names) (D':Nat->Prop) (w:World),Rel cx.G X w0 I Y M w->(∀ x y,aT O x=some y->Y' y=Y x)->(∀ b,D' b->bH X Y M b)->(∀ x l,aT O x=none->(M x).isSome=true->Y x=some l -> ¬ D' l.b) ->
 ∀ k0 k,R k0 k->(∀ l,kH Y (bH X Y M) w l k0->kH Y' D' w l k)/\(k0.rows=[]->k.rows=[])
def wr (O:List (Nat×Nat))(M:am):HW (yy O) O M cx:=fun X w0 I Y Y' D' w hr hnew hdom hout k0 k h=>by
 obtain⟨g3,g4⟩:=h
 refine⟨fun l a4=>(a4.ren hnew hdom g3).le g4,fun a1=>?_⟩
 have hz:(k0.ren O).rows=[]:=by simp[Blk.ren,gW,a1,plainLL]
 have:=(m9 g4.2.2).1
 rw[hz]at this
 cases hb:k.rows with
 | nil=>rfl
 | cons x y=>rw[hb]at this;simp at this
def lh {R:Blk->Blk->Prop}(hG:∀ g,(cx.G g).plain=true){b0 nm nm':Nat}{e:Env}{M:am}{Es:List (Nat×V)}{Ms:List (Nat×Blk)}(src:List (Option Nat))(hK:HW R (eY (dv Ms src)) M cx)(hn:b0<=nm')(hM:kA R b0 nm' M (dv Ms src))(hE:mC M (eY (dv Ms src)) e Es):oG cx b0 nm e M nm' (lB Es) (iI Ms):=by
  intro N X w0 I Y0 Y a w h
  generalize hC:dv Ms src=C at hM hE
  rw[hC]at hK
  generalize hO:eY C=O at hM hE hK
  obtain⟨nd1,nd2⟩:=oJ hM
  rw[hO]at nd1 nd2
  let Y':Names:=fun y=>if y<b0 then Y0 y else match bw O y with|some x=>Y x|none=>none
  have hnew:∀ x y,aT O x=some y->Y' y=Y x:=fun x y hxy=>by
    have hmem:=ji hxy
    rw[<- hO,iM]at hmem
    obtain⟨k,hk⟩:=hmem
    obtain⟨g1,g2,g3⟩:=mD hM hk
    show(if y<b0 then Y0 y else match bw O y with|some x=>Y x|none=>none)=Y x
    by_cases hy:y<b0
    · rw[if_pos hy]
      rcases g2 with g2|rfl
      · omega
      · exact(h.low x hy).symm
    · rw[if_neg hy,o9 nd2 (ji hxy)]
  have src':∀ y k,iI Ms y=some k->(∃ x k0,(y,some x,k)∈C/\M x=some k0/\R k0 k/\Y' y=Y x/\aT O x=some y)\/(k.rows=[]/\Y' y=none):=fun y k hk=>by
    obtain⟨o,ho⟩:=pZ (src:=src) hk
    rw[hC]at ho
    obtain⟨g1,g2⟩:=mD hM ho
    cases o with
    | some x =>
      simp only at g2
      obtain⟨g2,g3⟩:=g2
      cases hx:M x with
      | none=>rw[hx]at g3;exact g3.elim
      | some k0 =>
        rw[hx]at g3
        have hin:(x,y)∈O:=by rw[<- hO,iM];exact⟨k,ho⟩
        have hnn:aT O x=some y:=CZ nd1 hin
        exact .inl ⟨x,k0,ho,hx,g3,hnew x y hnn,hnn⟩
    | none =>
      simp only at g2
      refine .inr ⟨g2.2.1,?_⟩
      show(if y<b0 then Y0 y else match bw O y with|some x=>Y x|none=>none)=none
      rw[if_neg (by omega)]
      cases hon:bw O y with
      | none=>rfl
      | some x =>
        have hin:=db hon
        rw[<- hO,iM]at hin
        obtain⟨k',hk'⟩:=hin
        cases zj hM ho hk'
  have hdom:∀ b,bH X Y' (iI Ms) b->bH X Y M b:=by
    rintro b (hx|⟨y,l,h1,h2,h3⟩)
    · exact .inl hx
    · obtain⟨k,hk⟩:=Option.isSome_iff_exists.1 h1
      rcases src' y k hk with ⟨x,k0,_,g1,_,g2,_⟩|⟨_,g⟩
      · exact .inr ⟨x,l,by rw[g1];rfl,by rw[<- g2];exact h2,h3⟩
      · rw[h2]at g;cases g
  have hinj:∀ x y y',aT O x=some y->aT O x=some y'->y=y':=fun x y y' h1 h2=>by rw[h1]at h2;exact Option.some.inj h2
  have hout:∀ x l,aT O x=none->(M x).isSome=true->Y x=some l -> ¬ bH X Y' (iI Ms) l.b:=by
    rintro x l hn hMx hl (hX|⟨y,l',h1,h2,h3⟩)
    · exact(h.rel.block_lt hMx hl).2.1 hX
    · obtain⟨k,hk⟩:=Option.isSome_iff_exists.1 h1
      rcases src' y k hk with ⟨x',k0,_,g1,_,g2,g5⟩|⟨_,g⟩
      · have:=h.rel.inj x' x l' l (by rw[g1];rfl) hMx (by rw[<- g2];exact h2) hl h3
        subst this
        rw[hn]at g5;cases g5
      · rw[h2]at g;cases g
  refine⟨Y',⟨?_,⟨h.env.size,h.env.defers,fun t ht=>?_⟩,fun x hx=>⟨GH (src:=src) (by rw[hC];exact hM) hx,?_⟩,fun x l hx=>?_,hn,fun x hx=>?_,h.top⟩⟩
  · exact
    { size:=h.rel.size,os:=h.rel.os,tape:=h.rel.tape,output:=h.rel.output,old:=h.rel.old
      live:=fun y k hk=>by
        rcases src' y k hk with ⟨x,k0,_,g1,g3,g2,_⟩|⟨g1,g2⟩
        · obtain⟨q1,q2⟩:=hK X w0 I Y Y' (bH X Y' (iI Ms)) w h.rel hnew hdom hout k0 k g3
          rcases h.rel.live x k0 g1 with ⟨a1,a2⟩|⟨l,a1,a2,a3,a4⟩
          · exact .inl ⟨q2 a1,by rw[g2];exact a2⟩
          · exact .inr ⟨l,by rw[g2];exact a1,a2,a3,q1 l a4⟩
        · exact .inl ⟨g1,g2⟩
      inj:=fun y y' l l' h1 h2 h3 h4 h5=>by
        obtain⟨k,hk⟩:=Option.isSome_iff_exists.1 h1
        obtain⟨k',hk'⟩:=Option.isSome_iff_exists.1 h2
        rcases src' y k hk with ⟨x,k0,_,g1,_,g2,g5⟩|⟨_,g⟩
        · rcases src' y' k' hk' with ⟨x',k0',_,g1',_,g2',g5'⟩|⟨_,g⟩
          · have:=h.rel.inj x x' l l' (by rw[g1];rfl) (by rw[g1'];rfl) (by rw[<- g2];exact h3) (by rw[<- g2'];exact h4) h5
            subst this
            exact hinj x y y' g5 g5'
          · rw[h4]at g;cases g
        · rw[h3]at g;cases g
      hX:=h.rel.hX
      glob:=fun g=>(h.rel.glob g).plain (Nat.le_refl _) (fun _ _ _=>rfl) (fun b _ hb=>hdom b hb) (hG g) }
  · have key:∀ {L:List (Nat×V)},mC M O e L->Is Y' (bH X Y' (iI Ms)) w (lB L t) (a.tmps.getD t undef):=by
      intro L
      induction L with
      | nil=>intro _;exact .any _
      | cons p r ih =>
        obtain⟨t',v⟩:=p
        intro hc
        simp only[lB]
        split
        · rename_i he
          subst he
          exact(lE (cx:=cx) h.rel hnew hdom hout (h.env.is t ht) hc.1.1).le _ hc.1.2
        · exact ih hc.2
    exact key hE
  · show(if x<b0 then Y0 x else match bw O x with|some x=>Y x|none=>none)=none
    rw[if_neg (by omega)]
    cases hon:bw O x with
    | none=>rfl
    | some z =>
      have hin:=db hon
      rw[<- hO,iM]at hin
      obtain⟨k',hk'⟩:=hin
      have:=(mD hM hk').1
      omega
  · show(if x<b0 then Y0 x else match bw O x with|some x=>Y x|none=>none)=some l
    by_cases hxb:x<b0
    · rw[if_pos hxb];exact hx
    · rw[h.top x (by omega)]at hx;cases hx
  · show(if x<b0 then Y0 x else match bw O x with|some x=>Y x|none=>none)=Y0 x
    rw[if_pos hx]
def u3 (hG:∀ g,(cx.G g).plain=true){b0 nm nm':Nat}{e:Env}{M:am}{Es:List (Nat×V)}{Ms:List (Nat×Blk)}(src:List (Option Nat))(hn:b0<=nm')(hM:kA (yy (eY (dv Ms src))) b0 nm' M (dv Ms src))(hE:mC M (eY (dv Ms src)) e Es):oG cx b0 nm e M nm' (lB Es) (iI Ms) :=
 lh hG src (wr _ _) hn hM hE
def vn {α:Type}(μ:α->Nat)(P:α->Prop)(nmS:Nat)(Es:α->List (Nat×V))(Ms:α->List (Nat×Blk))(g nm:Nat)(e:Env)(M:am):Prop:=∃ x,μ x=g/\P x/\nm=nmS/\e=lB (Es x)/\M=iI (Ms x)
variable {Q:Post} {st:List Frm} {nm:Nat} {e:Env} {M:am}
def JM {c:Code}(hG:∀ g,(cx.G g).plain=true){α:Type}(μ:α->Nat)(P:α->Prop)(nmS:Nat)(Es:α->List (Nat×V))(Ms:α->List (Nat×Blk))(x0:α)(src:List (Option Nat))(h0:P x0)(hb:Q.b0<=nmS)
  (hM:kA (yy (eY (dv (Ms x0) src))) Q.b0 nmS M (dv (Ms x0) src)) (hE:mC M (eY (dv (Ms x0) src)) e (Es x0))
  (hr:∀ x,P x->go cx Q (.again (vn μ P nmS Es Ms) (μ x)::st) nmS (lB (Es x)) (iI (Ms x)) c):qS cx Q st nm e M c :=
 ED (vn μ P nmS Es Ms) (μ x0) (u3 hG src hb hM hE) ⟨x0,rfl,h0,rfl,rfl,rfl⟩ (by rintro g nm e M ⟨x,rfl,hP,rfl,rfl,rfl⟩;exact hr x hP)
def E9 (hG:∀ g,(cx.G g).plain=true){α:Type}{μ:α->Nat}{P:α->Prop}{nmS:Nat}{Es:α->List (Nat×V)}{Ms:α->List (Nat×Blk)}{g:Nat}(x:α)(src:List (Option Nat))(hg:μ x<g)(h0:P x)(hb:Q.b0<=nmS)
  (hM:kA (yy (eY (dv (Ms x) src))) Q.b0 nmS M (dv (Ms x) src)) (hE:mC M (eY (dv (Ms x) src)) e (Es x)):dY cx Q (.again (vn μ P nmS Es Ms) g::st) nm e M .normal :=
 yY (μ x) hg (u3 hG src hb hM hE) ⟨x,rfl,h0,rfl,rfl,rfl⟩
end
def vH (o:Obj):Blk:=@Blk.mk 0 [] (.obj o)
section
variable {G:Nat->V} {X:Nat->Prop} {w0:World} {I:Nat->Prop} {Y:Names} {M:am} {w w':World} {D:Nat->Prop}
def rm (h:Rel G X w0 I Y M w){y:Nat}{o:Obj}(hM:M y=some (vH o)){l:Loc}(hl:Y y=some l):w.heap[l.b]? = some o/\l.sz=0/\l.tot=0/\l.o=0:=by
 rcases h.live y _ hM with ⟨_,a⟩|⟨l',a1,_,_,⟨cs,e,a2,_⟩|⟨o',_,ms',buf,_,_,a2,a3,a4,_,a5,a6,a7⟩⟩
 ·rw[hl]at a;cases a
 ·exact a2.elim
 ·rw[hl]at a1;cases a1
  obtain⟨rfl,_,h0⟩:=a2
  exact⟨a3,a4.symm,a5,h0⟩
def setAt (w:World)(b:Nat)(o:Obj):World:={ w with heap:=w.heap.setIfInBounds b o }
def Dy {b:Nat}{o:Obj}(h:b<w.heap.size):(setAt w b o).heap[b]? = some o:=by simp[setAt,h]
def Rel.setObj (h:Rel G X w0 I Y M w){y:Nat}{o o':Obj}(hM:M y=some (vH o)){l:Loc}(hl:Y y=some l) :
  Rel G X w0 I Y (M.put y (some (vH o'))) (setAt w l.b o')/\Moves Y M w Y (M.put y (some (vH o'))) (setAt w l.b o'):=by
 obtain⟨hh,hz,ht,h0⟩:=rm h hM hl
 have hk:∀ b,b≠l.b->(setAt w l.b o').heap[b]? = w.heap[b]?:=fun b hb=>by
  simp only[setAt];rw[Array.getElem?_setIfInBounds_ne (Ne.symm hb)]
 have hs:∀ x,((M.put y (some (vH o'))) x).isSome=true->(M x).isSome=true:=fun x hx=>by
  by_cases e:x=y
  ·subst e;rw[hM];rfl
  ·rwa[am.put_ne _ _ e]at hx
 have m:Moves Y M w Y (M.put y (some (vH o'))) (setAt w l.b o') :=
  ⟨fun _ _ h=>h,by simp[setAt],rfl,rfl,rfl,fun b _ hn=>hk b (fun e=>hn y l (by rw[hM];rfl) hl e.symm),fun n l' a1 a2 _=>⟨n,l',hs n a1,a2,rfl⟩⟩
 refine⟨h.move m (fun a b l1 l2 a1 a2 a3 a4 a5=>h.inj a b l1 l2 (hs a a1) (hs b a2) a3 a4 a5) ?_,m⟩
 intro x kx hx
 by_cases e:x=y
 ·subst e
  rw[am.put_same]at hx
  cases hx
  obtain⟨b1,b2,b3⟩:=h.block_lt (by rw[hM];rfl) hl
  exact .inr (.inr ⟨l,hl,b3,b2,.inr ⟨_,(),[],#[],(),(),⟨rfl,rfl,h0⟩,Dy b1,hz.symm,rfl,ht,rfl,fun i u hi=>by simp at hi⟩⟩)
 ·rw[am.put_ne _ _ e]at hx
  exact .inl ⟨hx,id,fun lx hlx=>hk _ (fun e2=>e (h.inj x y lx l (by rw[hx];rfl) (by rw[hM];rfl) hlx hl e2))⟩
def Rel.newObj (h:Rel G X w0 I Y M w){nm:Nat}(hM:M nm=none)(hY:Y nm=none)(o:Obj){v:V}{cv:Value}(hv:∀ Y D w',Y nm=some ⟨w.heap.size,0,0,0⟩->Is Y D w' v cv) :
  dc G X w0 I Y M w nm v (M.put nm (some (vH o))) cv (w.alloc o):=by
 have hne:∀ x,(M x).isSome=true->x≠nm:=fun x hx e=>by subst e;rw[hM]at hx;cases hx
 have hlt:∀ x l,(M x).isSome=true->Y x=some l->l.b<w.heap.size:=fun x l hx hl=>(h.block_lt hx hl).1
 have m:Moves Y M w (Y.put nm ⟨w.heap.size,0,0,0⟩) (M.put nm (some (vH o))) (w.alloc o):=by
  refine⟨fun x l hx=>by rw[Names.put_ne _ _ (fun e=>by subst e;rw[hY]at hx;cases hx)];exact hx,by simp,rfl,rfl,rfl,fun b hb _=>Below.heap_alloc _ _ _ hb,fun x l a1 a2 a3=>?_⟩
  by_cases e:x=nm
  ·subst e;rw[Names.put_same]at a2;cases a2;simp at a3
  ·rw[Names.put_ne _ _ e]at a2;rw[am.put_ne _ _ e]at a1
   exact⟨x,l,a1,a2,rfl⟩
 refine⟨Y.put nm ⟨w.heap.size,0,0,0⟩,h.move m ?_ ?_,m,hv _ _ _ (Names.put_same _ _ _),fun x hx=>Names.put_ne _ _ hx⟩
 ·intro x y l l' a1 a2 a3 a4 a5
  by_cases ex:x=nm
  ·subst ex
   rw[Names.put_same]at a3;cases a3
   by_cases ey:y=x
   ·exact ey.symm
   ·rw[Names.put_ne _ _ ey]at a4;rw[am.put_ne _ _ ey]at a2
    have:=hlt y l' a2 a4
    simp at a5;omega
  ·rw[Names.put_ne _ _ ex]at a3;rw[am.put_ne _ _ ex]at a1
   have:=hlt x l a1 a3
   by_cases ey:y=nm
   ·subst ey
    rw[Names.put_same]at a4;cases a4
    simp at a5;omega
   ·rw[Names.put_ne _ _ ey]at a4;rw[am.put_ne _ _ ey]at a2
    exact h.inj x y l l' a1 a2 a3 a4 a5
 ·intro x kx hx
  by_cases ex:x=nm
  ·subst ex
   rw[am.put_same]at hx;cases hx
   refine .inr (.inr ⟨_,Names.put_same _ _ _,.inr h.size,fun hX=>?_,.inr ⟨_,(),[],#[],(),(),⟨rfl,rfl,rfl⟩,heap_alloc_new w _,rfl,rfl,rfl,rfl,fun i u hi=>by simp at hi⟩⟩)
   have:=(h.hX _ hX).1
   have:=h.size
   simp at *;omega
  ·rw[am.put_ne _ _ ex]at hx
   exact .inl ⟨hx,fun hn=>by rw[Names.put_ne _ _ ex];exact hn,fun lx hlx=>Below.heap_alloc _ _ _ (hlt x lx (by rw[hx];rfl) hlx)⟩
end
def kQ (s:List UInt8)(pos:Nat):Blk:=vH (.stringIter ⟨s.toArray⟩ pos)
def fT (O:List (Nat×Nat))(s:List UInt8)(p:Nat):Blk.ren O (kQ s p)=kQ s p:=rfl
def ei (O:List (Nat×Nat))(s:List UInt8)(p:Nat):Blk.renOk O (kQ s p)=true:=rfl
def bn (s:List UInt8)(pos:Nat):Nat×Nat:=Utf8.decode ⟨s.toArray⟩ pos
section
variable {cx:Cx} {Q:Post} {st:List Frm} {nm:Nat} {e:Env} {M:am} {d:Bool} {fs:List (List Nat)} {ops r:List Oper} {dst:Option Tmp} {t:TypeId} {pos:String} {af:Array Edge} {gd:Option (Nat×Bool)} {i:Nat}
def nJ {ty:TypeId}{x:Operand}{s:List UInt8}(hx:aw cx.G true e x = .str s)(ht:cx.P.underlying ty=some .string)
  (h:aK cx Q st nm (e.putD dst (.ptr (nm+16*i) 0 0)) (M.app [(nm+16*i,some (kQ s 0))]) d (fs++[[nm+16*i]]) ops r (i+1)):cp cx Q st nm e M d fs ops ⟨dst,.range ty x,t,pos,af,gd⟩ r i:=by
 refine⟨_,_,_,⟨fun x hx=>hx,fun x hx=>?_,fun _=>rfl,fun _=>rfl,?_⟩,h⟩
 ·simp only[ao,List.map_cons,List.map_nil,List.mem_singleton]at hx
  subst hx;exact .inr ⟨Nat.le_refl _,by omega⟩
 ·intro N X w0 I Y e' M' a w hr he hin hev _ hf
  obtain⟨f1,f2⟩:=hf (nm+16*i) ⟨Nat.le_refl _,by omega⟩
  have hxi:=he.eval hr (c:=true) rfl (hin x (by simp[Op.operands]))
  rw[hev x (by simp[Op.operands]),hx]at hxi
  generalize hcv:a.eval x=cv at hxi
  cases hxi
  refine⟨_,_,(Rel.newObj (v:=.ptr (nm+16*i) 0 0) hr f1 f2 (.stringIter ⟨s.toArray⟩ 0) (cv:=.pointer (some ⟨w.heap.size,0,none⟩)) (fun Y D w' hl=>?_)).n,ij (s:=Instr.range ty (a.eval x)) rfl ?_⟩
  ·have:=Is.ptr (D:=D) (w:=w') (i:=0) (j:=0) hl
   simpa using this
  ·rw[hcv];exact run_range_string w ty _ ht
def run_next_at {P:Program}{w:World}{b:Nat}{s:ByteArray}{p:Nat}(ty:TypeId)(hb:w.heap[b]? = some (.stringIter s p))(h:p<s.size) :
  (Instr.next (.pointer (some ⟨b,0,none⟩)) true ty).run P w = .ok (.tuple #[.bool true,.int .i64 p,.int .i32 (Utf8.decode s p).1]) (setAt w b (.stringIter s (p+(Utf8.decode s p).2))):=by
 simp only[Instr.next,getObj,Go.setObj,Sem.run_bind,Sem.run,hb,Result.andThen,h,if_true]
 simp[goInt,setAt]
def vK {P:Program}{w:World}{b:Nat}{s:ByteArray}{p:Nat}(ty:TypeId)(hb:w.heap[b]? = some (.stringIter s p))(h:¬ p<s.size) :
  (Instr.next (.pointer (some ⟨b,0,none⟩)) true ty).run P w = .ok (.tuple #[.bool false]) w:=by
 simp[Instr.next,getObj,Sem.run,hb,h]
def iB {x:Operand}{s:List UInt8}{y p:Nat}(hx:aw cx.G true e x = .ptr y 0 0)(hM:M y=some (kQ s p))(hp:p<s.length)
  (h:aK cx Q st nm (e.putD dst (.tup [.bool true,.int .i64 p,.int .i32 (bn s p).1])) (M.app [(y,some (kQ s (p+(bn s p).2)))]) d (fs++[[y]]) ops r (i+1)):cp cx Q st nm e M d fs ops ⟨dst,.next x true,t,pos,af,gd⟩ r i:=by
 refine⟨_,_,_,⟨fun x hx=>hx,fun x hx=>?_,fun _=>rfl,fun _=>rfl,?_⟩,h⟩
 ·simp only[ao,List.map_cons,List.map_nil,List.mem_singleton]at hx
  subst hx;exact .inl (by rw[hM];rfl)
 ·intro N X w0 I Y e' M' a w hr he hin hev hMM hf
  have hxi:=he.eval hr (c:=true) rfl (hin x (by simp[Op.operands]))
  rw[hev x (by simp[Op.operands]),hx]at hxi
  have hM':M' y=some (kQ s p):=by rw[hMM y (List.mem_singleton.2 rfl)];exact hM
  generalize hcv:a.eval x=cv at hxi
  cases hxi with
  | ptr hl =>
   rename_i l
   obtain⟨hh,hz,ht,h0⟩:=rm hr hM' hl
   obtain⟨g1,g2⟩:=Rel.setObj hr hM' hl (o':=.stringIter ⟨s.toArray⟩ (p+(bn s p).2))
   refine⟨_,_,⟨Y,g1,g2,Gu (.bool _) (.int _ _) (.int _ _),fun _ _=>rfl⟩,ij (s:=Instr.next (a.eval x) true t) rfl ?_⟩
   rw[hcv,h0,hz]
   exact run_next_at t hh (by simpa [ByteArray.size] using hp)
def pJ {x:Operand}{s:List UInt8}{y p:Nat}(hx:aw cx.G true e x = .ptr y 0 0)(hM:M y=some (kQ s p))(hp:¬ p<s.length)
  (h:aK cx Q st nm (e.putD dst (.tup [.bool false])) M d (fs++[[y]]) ops r (i+1)):cp cx Q st nm e M d fs ops ⟨dst,.next x true,t,pos,af,gd⟩ r i:=by
 refine⟨_,[],_,⟨fun x hx=>by simp[ao]at hx,fun x hx=>by simp[ao]at hx,fun _=>rfl,fun _=>rfl,?_⟩,h⟩
 intro N X w0 I Y e' M' a w hr he hin hev hMM hf
 have hxi:=he.eval hr (c:=true) rfl (hin x (by simp[Op.operands]))
 rw[hev x (by simp[Op.operands]),hx]at hxi
 have hM':M' y=some (kQ s p):=by rw[hMM y (List.mem_singleton.2 rfl)];exact hM
 generalize hcv:a.eval x=cv at hxi
 cases hxi with
 | ptr hl =>
  rename_i l
  obtain⟨hh,hz,ht,h0⟩:=rm hr hM' hl
  refine⟨.tuple #[.bool false],w,(dc.still (nm:=nm+16*i) hr (.tup rfl (fun i u cv hi hc=>?_))).n,ij (s:=Instr.next (a.eval x) true t) rfl ?_⟩
  ·cases i with
   | zero=>simp at hi hc;subst hi;subst hc;exact .bool _
   | succ i=>simp at hi
  ·rw[hcv,h0,hz]
   exact vK t hh (by simpa [ByteArray.size] using hp)
end
def Ev.extern {cx : Cx} {f : FuncId} {fn : Func} {g : Array Value -> Sem Value} (hf : cx.P.funcs[f]? = some fn) (hname : (fn.name == "runtime.NumGoroutine") = false) (hb : fn.body.isNone = true) (hn : Extern.findNext fn = none)
  (he:Extern.find fn=some g) (args:List V) (M:am) (v:V) (nm:Nat)
  (hrun:∀(Y:Names) (D:Nat->Prop) (w:World) (cargs:Array Value),args.length=cargs.size->(∀(i:Nat) (u:V) (cv:Value),args[i]? = some u->cargs[i]? = some cv->Is Y D w u cv) -> ∃ cv,(g cargs).run cx.P w = .ok cv w/\Is Y D w v cv) :
  Ev cx f nm args M v []:=by
 refine⟨trivial,fun X w Y cargs B hr hfr hB hlen hargs=>?_⟩
 obtain⟨cv,h1,h2⟩:=hrun Y _ w cargs hlen hargs
 refine .inr ⟨cv,w,?_,cv,rfl,Y,hr,.refl _ _ _,h2,fun _ _=>rfl⟩
 rw[run_callFunc_extern hf hname hb hn he,h1];rfl
def Ev.indexByte {cx : Cx} {f : FuncId} {fn : Func} (hf : cx.P.funcs[f]? = some fn) (hname : (fn.name == "runtime.NumGoroutine") = false) (hb : fn.body.isNone = true) (hn : Extern.findNext fn = none)
  (he:Extern.find fn=some Extern.BytealgIndexByte.indexByte) (s:List UInt8) (c:UInt8) (M:am) (nm:Nat):Ev cx f nm [.str s,.int .u8 c.toNat] M (.int .i64 (Lib.indexByte s c)) []:=by
 refine Ev.extern hf hname hb hn he _ _ _ _ (fun Y D w cargs hlen hargs=>?_)
 match cargs,hlen,hargs with
 |⟨[v0,v1]⟩,_,hargs =>
 have h0:=hargs 0 _ v0 rfl rfl
 have h1:=hargs 1 _ v1 rfl rfl
 cases h0;cases h1
 refine⟨_,Lib.run_indexByteString _ _ _,?_⟩
 simp only[Int.toNat_natCast]
 have:(c.toNat).toUInt8=c:=by simp
 rw[this]
 exact .int _ _
def Ev.noEscape {cx : Cx} {f : FuncId} {fn : Func} (hf : cx.P.funcs[f]? = some fn) (hname : (fn.name == "runtime.NumGoroutine") = false) (hb : fn.body.isNone = true) (hn : Extern.findNext fn = none)
  (he:Extern.find fn=some Extern.AbiNoEscape.same) (v:V) (M:am) (nm:Nat):Ev cx f nm [v] M v []:=by
 refine Ev.extern hf hname hb hn he _ _ _ _ (fun Y D w cargs hlen hargs=>?_)
 match cargs,hlen,hargs with
 |⟨[v0]⟩,_,hargs=>exact⟨v0,Lib.run_noEscape _ v0,hargs 0 _ v0 rfl rfl⟩
def Az {P:Program}{e:TypeId}{s:Nat}(hs:0<s)(hc:P.cellsOf e=s)(count n:Nat)(hn:n<=count):liesAt P P.depth e count 0 e n=true:=by
 have hd:P.depth=(2*(P.types.size+Made.depth)+1)+1:=rfl
 have h0:¬ s=0:=by omega
 rw[hd]
 simp only[liesAt,Bool.or_eq_true]
 left
 rw[hd]
 simp[rowAt,hc,hn,sameLayout,h0]
def Et (P:Program)(t:TypeId):Bool:=match P.info? t with
 | some j=>decide (j.size≠0)
 | none=>false
section
variable {cx:Cx} {Q:Post} {st:List Frm} {nm:Nat} {e:Env} {M:am} {d:Bool} {fs:List (List Nat)} {ops r:List Oper} {dst:Option Tmp} {t:TypeId} {pos:String} {af:Array Edge} {gd:Option (Nat×Bool)} {i:Nat}
def qj {G:Nat->V}{X:Nat->Prop}{w0:World}{I:Nat->Prop}{Y:Names}{w:World}(h:Rel G X w0 I Y M w){y:Nat}{k:Blk}(hM:M y=some k)(hk:k.ob.isRow=true){l:Loc}(hl:Y y=some l) :
  ∃ cs el,k.ob.okCells el l/\w.heap[l.b]? = some (.cells cs el l.frz)/\k.sz=l.sz/\k.rows.length<=l.tot/\l.o+l.tot*l.sz<=cs.size/\(∀(i:Nat) (row:List V),k.rows[i]? = some row->row.length=l.sz) /\
   ∀(i j:Nat) (row:List V) (u:V),k.rows[i]? = some row->row[j]? = some u -> ∃ cv,cs[l.o+i*l.sz+j]? = some cv/\Is Y (bH X Y M) w u cv:=by
 rcases h.live y k hM with ⟨_,a⟩|⟨l',a1,_,_,⟨cs,el,a2⟩|⟨o',_,ms',buf,_,_,a2,_⟩⟩
 ·rw[hl]at a;cases a
 ·rw[hl]at a1;cases a1
  exact⟨cs,el,a2⟩
 ·exfalso
  cases ho:k.ob with
  | cells=>rw[ho]at a2;exact a2
  | typed t=>rw[ho]at a2;exact a2
  | chan a b c=>rw[ho]at hk;cases hk
  | obj o=>rw[ho]at hk;cases hk
def uM {w:World}{b:Nat}{cs:Array Value}{el:TypeId}{fz:Nat×Nat}(h:w.heap[b]? = some (.cells cs el fz)):w.shape? b=some (el,cs.size):=by simp[World.shape?,h]
def pL {s dt te:TypeId}{x:Operand}{y sz:Nat}{row:List V}{rows:List (List V)}{o:Ob}(hx:aw cx.G true e x = .ptr y 0 0)(hM:M y=some (@Blk.mk sz (row::rows) o))(ho:o.isRow=true)(hz:0<sz)
  (hs:cx.P.underlying s=some (.pointer te)) (hd:cx.P.underlying dt=some .unsafePointer) (hinf:Et cx.P te=true)
  (h:aK cx Q st nm (e.putD dst (.ptr y 0 0)) M d (fs++[[y]]) ops r (i+1)):cp cx Q st nm e M d fs ops ⟨dst,.convert s dt x,t,pos,af,gd⟩ r i:=by
 obtain⟨j,ht,hj⟩:∃ j,cx.P.info? te=some j/\j.size≠0:=by
  unfold Et at hinf
  split at hinf
  ·rename_i j hj;exact⟨j,hj,by simpa using hinf⟩
  ·cases hinf
 refine⟨_,[],_,⟨fun x hx=>by simp[ao]at hx,fun x hx=>by simp[ao]at hx,fun h=>absurd rfl h,fun _=>rfl,?_⟩,h⟩
 intro N X w0 I Y e' M' a w hr he hin hev hMM hf
 have hxi:=he.eval hr (c:=true) rfl (hin x (by simp[Op.operands]))
 rw[hev x (by simp[Op.operands]),hx]at hxi
 have hM':M' y=some (@Blk.mk sz (row::rows) o):=by rw[hMM y (List.mem_singleton.2 rfl)];exact hM
 generalize hcv:a.eval x=cv at hxi
 cases hxi with
 | ptr hl =>
  rename_i l
  obtain⟨cs,el,_,hh,h1,h2,h3,_⟩:=qj hr hM' ho hl
  simp only[List.length_cons]at h1 h2
  refine⟨_,w,(dc.still (nm:=nm+16*i) hr (.ptr (i:=0) (j:=0) hl)).n,ij (s:=convert s dt (a.eval x)) rfl ?_⟩
  rw[hcv]
  refine Lib.run_to_unsafe w ⟨l.b,l.o+0*l.sz+0,none⟩ hs hd ht hj (uM hh) ?_
  have:=Nat.le_mul_of_pos_left l.sz (show 0<l.tot by omega)
  show l.o+0*l.sz+0<cs.size
  omega
def mP {s dt u:TypeId}{x:Operand}{y sz:Nat}{row:List V}{rows:List (List V)}(hx:aw cx.G true e x = .ptr y 0 0)(hM:M y=some (@Blk.mk sz (row::rows) (.typed u)))(hz:0<sz)
  (hs:cx.P.underlying s=some .unsafePointer) (hd:cx.P.underlying dt=some (.pointer u)) (hu:(cx.P.info? u).isSome=true) (hc:cx.P.cellsOf u=sz)
  (h:aK cx Q st nm (e.putD dst (.ptr y 0 0)) M d (fs++[[y]]) ops r (i+1)):cp cx Q st nm e M d fs ops ⟨dst,.convert s dt x,t,pos,af,gd⟩ r i:=by
 obtain⟨j,hu⟩:=Option.isSome_iff_exists.1 hu
 refine⟨_,[],_,⟨fun x hx=>by simp[ao]at hx,fun x hx=>by simp[ao]at hx,fun h=>absurd rfl h,fun _=>rfl,?_⟩,h⟩
 intro N X w0 I Y e' M' a w hr he hin hev hMM hf
 have hxi:=he.eval hr (c:=true) rfl (hin x (by simp[Op.operands]))
 rw[hev x (by simp[Op.operands]),hx]at hxi
 have hM':M' y=some (@Blk.mk sz (row::rows) (.typed u)):=by rw[hMM y (List.mem_singleton.2 rfl)];exact hM
 generalize hcv:a.eval x=cv at hxi
 cases hxi with
 | ptr hl =>
  rename_i l
  obtain⟨cs,el,hok,hh,h1,h2,h3,_⟩:=qj hr hM' rfl hl
  obtain⟨rfl,h0⟩:=hok
  simp only[List.length_cons]at h1 h2
  refine⟨_,w,(dc.still (nm:=nm+16*i) hr (.ptr (i:=0) (j:=0) hl)).n,ij (s:=convert s dt (a.eval x)) rfl ?_⟩
  rw[hcv]
  refine Lib.run_from_unsafe w ⟨l.b,l.o+0*l.sz+0,none⟩ hs hd hu (uM hh) ?_
  show liesAt cx.P cx.P.depth el (cs.size / cx.P.cellsOf el) (l.o+0*l.sz+0) el 1=true
  rw[h0,Nat.zero_mul]
  refine Az hz hc _ _ ?_
  rw[hc,Nat.le_div_iff_mul_le hz,Nat.one_mul,h1]
  have:=Nat.le_mul_of_pos_left l.sz (show 0<l.tot by omega)
  omega
def vr {as:Array Operand}{ts:Array TypeId}{x:Operand}(has:as.toList=[x]){y n:Nat}(hx:aw cx.G true e x = .own y 0 n)(hn:0<n)
  (h:aK cx Q st nm (e.putD dst (.ptr y 0 0)) M d (fs++[[]]) ops r (i+1)):cp cx Q st nm e M d fs ops ⟨dst,.call ⟨.builtin .unsafeSliceData,as,ts⟩,t,pos,af,gd⟩ r i:=by
 obtain rfl:as = #[x]:=by cases as;simp at has;rw[has]
 refine⟨_,[],_,⟨fun x hx=>by simp[ao]at hx,fun x hx=>by simp[ao]at hx,fun h=>absurd rfl h,fun h=>absurd rfl h,?_⟩,h⟩
 intro N X w0 I Y e' M' a w hr he hin hev _ hf
 have hxi:=he.eval hr (c:=true) rfl (hin x (by simp[Op.operands,Call.operands]))
 rw[hev x (by simp[Op.operands,Call.operands]),hx]at hxi
 generalize hcv:a.eval x=cv at hxi
 cases hxi with
 | own0=>omega
 | own hl hlc hnc =>
  rename_i c l
  refine⟨.pointer (some ⟨l.b,l.o+0*l.sz,none⟩),w,(dc.still (nm:=nm+16*i) hr ?_).n,l9 (s:=Builtin.unsafeSliceData_ ts t (#[x].map a.eval)) (fun _=>rfl) ?_⟩
  ·have:=Is.ptr (D:=bH X Y M') (w:=w) (i:=0) (j:=0) hl
   simpa using this
  ·rw[show #[x].map a.eval = #[a.eval x] by simp,hcv]
   exact Lib.run_unsafeSliceData_row w ts t _ _ _ (by omega)
def pK {as:Array Operand}{ts:Array TypeId}{x:Operand}(has:as.toList=[x])(hx:aw cx.G true e x = .nils)
  (h:aK cx Q st nm (e.putD dst .nilp) M d (fs++[[]]) ops r (i+1)):cp cx Q st nm e M d fs ops ⟨dst,.call ⟨.builtin .unsafeSliceData,as,ts⟩,t,pos,af,gd⟩ r i:=by
 obtain rfl:as = #[x]:=by cases as;simp at has;rw[has]
 refine⟨_,[],_,⟨fun x hx=>by simp[ao]at hx,fun x hx=>by simp[ao]at hx,fun h=>absurd rfl h,fun h=>absurd rfl h,?_⟩,h⟩
 intro N X w0 I Y e' M' a w hr he hin hev _ hf
 have hxi:=he.eval hr (c:=true) rfl (hin x (by simp[Op.operands,Call.operands]))
 rw[hev x (by simp[Op.operands,Call.operands]),hx]at hxi
 generalize hcv:a.eval x=cv at hxi
 cases hxi
 refine⟨.pointer none,w,(dc.still (nm:=nm+16*i) hr .nilp).n,l9 (s:=Builtin.unsafeSliceData_ ts t (#[x].map a.eval)) (fun _=>rfl) ?_⟩
 rw[show #[x].map a.eval = #[a.eval x] by simp,hcv]
 exact Lib.run_unsafeSliceData_nil w ts t 0 0
def xP {w:World}{a:Addr}{n b:Nat}(hb:b≠a.block):(w.freeze a n).heap[b]? = w.heap[b]?:=by
 unfold World.freeze
 split
 ·rfl
 ·simp only[Array.getElem?_modify,if_neg (Ne.symm hb)]
def xO (w:World)(a:Addr)(n:Nat):(w.freeze a n).heap.size=w.heap.size/\(w.freeze a n).os=w.os/\(w.freeze a n).tape=w.tape/\(w.freeze a n).output=w.output:=by
 unfold World.freeze
 split
 ·exact⟨rfl,rfl,rfl,rfl⟩
 ·exact⟨by simp,rfl,rfl,rfl⟩
def Rel.lost {G:Nat->V}{X:Nat->Prop}{w0:World}{I:Nat->Prop}{Y:Names}{w w':World}(h:Rel G X w0 I Y M w){y:Nat}{l:Loc}(hM:(M y).isSome=true)(hl:Y y=some l)(hs:w'.heap.size=w.heap.size)(hos:w'.os=w.os)(htp:w'.tape=w.tape)(hout:w'.output=w.output)
  (hk:∀ b,b≠l.b->w'.heap[b]? = w.heap[b]?):Rel G X w0 I Y (M.put y none) w'/\Moves Y M w Y (M.put y none) w':=by
 have hne:∀ x,((M.put y none) x).isSome=true->x≠y/\(M x).isSome=true:=fun x hx=>by
  by_cases e:x=y
  ·subst e;rw[am.put_same]at hx;cases hx
  ·rw[am.put_ne _ _ e]at hx;exact⟨e,hx⟩
 have m:Moves Y M w Y (M.put y none) w':=⟨fun _ _ h=>h,Nat.le_of_eq hs.symm,hos,htp,hout,fun b _ hn=>hk b (fun e=>hn y l hM hl e.symm),fun n l' a1 a2 _=>⟨n,l',(hne n a1).2,a2,rfl⟩⟩
 refine⟨h.move m (fun a b l1 l2 a1 a2 a3 a4 a5=>h.inj a b l1 l2 (hne a a1).2 (hne b a2).2 a3 a4 a5) ?_,m⟩
 intro x kx hx
 obtain⟨e,hs'⟩:=hne x (by rw[hx];rfl)
 rw[am.put_ne _ _ e]at hx
 exact .inl ⟨hx,id,fun lx hlx=>hk _ (fun e2=>e (h.inj x y lx l hs' hM hlx hl e2))⟩
def qG {as:Array Operand}{pt it u:TypeId}{x z:Operand}(has:as.toList=[x,z]){y:Nat}{bs:List UInt8}(hx:aw cx.G true e x = .ptr y 0 0)(hz:aw cx.G true e z = .int .i64 bs.length)
  (hM:M y=some (@Blk.mk 1 (bs.map aI) (.typed u))) (h0:bs≠[]) (h63:bs.length<=9223372036854775807) (hp:cx.P.underlying pt=some (.pointer u)) (hc:cx.P.cellsOf u=1)
  (h:aK cx Q st nm (e.putD dst (.str bs)) (M.app [(y,none)]) d (fs++[[y]]) ops r (i+1)):cp cx Q st nm e M d fs ops ⟨dst,.call ⟨.builtin .unsafeString,as,#[pt,it]⟩,t,pos,af,gd⟩ r i:=by
 obtain rfl:as = #[x,z]:=by cases as;simp at has;rw[has]
 refine⟨_,_,_,⟨fun x hx=>hx,fun x hx=>?_,fun _=>rfl,fun _=>rfl,?_⟩,h⟩
 ·simp only[ao,List.map_cons,List.map_nil,List.mem_singleton]at hx
  subst hx;exact .inl (by rw[hM];rfl)
 ·intro N X w0 I Y e' M' a w hr he hin hev hMM hf
  have hxi:=he.eval hr (c:=true) rfl (hin x (by simp[Op.operands,Call.operands]))
  rw[hev x (by simp[Op.operands,Call.operands]),hx]at hxi
  have hzi:=he.eval hr (c:=true) rfl (hin z (by simp[Op.operands,Call.operands]))
  rw[hev z (by simp[Op.operands,Call.operands]),hz]at hzi
  have hM':M' y=some (@Blk.mk 1 (bs.map aI) (.typed u)):=by rw[hMM y (List.mem_singleton.2 rfl)];exact hM
  generalize hcv:a.eval x=cv at hxi
  generalize hcz:a.eval z=cz at hzi
  cases hzi
  cases hxi with
  | ptr hl =>
   rename_i l
   obtain⟨cs,el,hok,hh,h1,h2,h3,_,h5⟩:=qj hr hM' rfl hl
   obtain⟨rfl,ho⟩:=hok
   simp only[List.length_map]at h1 h2
   obtain⟨f1,f2,f3,f4⟩:=xO w ⟨l.b,0,none⟩ bs.length
   obtain⟨g1,g2⟩:=Rel.lost hr (by rw[hM'];rfl) hl f1 f2 f3 f4 (fun b hb=>xP hb)
   refine⟨.string ⟨bs.toArray⟩,_,⟨Y,g1,g2,.str _,fun _ _=>rfl⟩,l9 (s:=Builtin.unsafeString_ #[pt,it] t (#[x,z].map a.eval)) (fun _=>rfl) ?_⟩
   rw[show #[x,z].map a.eval = #[a.eval x,a.eval z] by simp,hcv,hcz,ho,Nat.zero_mul]
   refine Lib.run_unsafeString_row w pt it t el hp hc l.b cs.size (uM hh) bs h0 (by rw[<- h1]at h3;omega) h63 (fun j b hj=>?_)
   obtain⟨cv,c1,c2⟩:=h5 j 0 (aI b) (.int .u8 b.toNat) (by rw[List.getElem?_map,hj];rfl) rfl
   cases c2
   rw[<- h1,ho]at c1
   have:(⟨l.b,0,none⟩:Addr).add j=⟨l.b,j,none⟩:=by
    unfold Addr.add
    split
    ·rename_i h;subst h;rfl
    ·simp
   rw[this]
   simp only[World.cell?,hh]
   simpa using c1
def mR {as:Array Operand}{pt it:TypeId}{x z:Operand}(has:as.toList=[x,z])(hx:aw cx.G true e x = .nilp)(hz:aw cx.G true e z = .int .i64 0)
  (h:aK cx Q st nm (e.putD dst (.str [])) M d (fs++[[]]) ops r (i+1)):cp cx Q st nm e M d fs ops ⟨dst,.call ⟨.builtin .unsafeString,as,#[pt,it]⟩,t,pos,af,gd⟩ r i:=by
 obtain rfl:as = #[x,z]:=by cases as;simp at has;rw[has]
 refine⟨_,[],_,⟨fun x hx=>by simp[ao]at hx,fun x hx=>by simp[ao]at hx,fun h=>absurd rfl h,fun h=>absurd rfl h,?_⟩,h⟩
 intro N X w0 I Y e' M' a w hr he hin hev _ hf
 have hxi:=he.eval hr (c:=true) rfl (hin x (by simp[Op.operands,Call.operands]))
 rw[hev x (by simp[Op.operands,Call.operands]),hx]at hxi
 have hzi:=he.eval hr (c:=true) rfl (hin z (by simp[Op.operands,Call.operands]))
 rw[hev z (by simp[Op.operands,Call.operands]),hz]at hzi
 generalize hcv:a.eval x=cv at hxi
 generalize hcz:a.eval z=cz at hzi
 cases hxi;cases hzi
 refine⟨.string .empty,w,(dc.still (nm:=nm+16*i) hr (.str [])).n,l9 (s:=Builtin.unsafeString_ #[pt,it] t (#[x,z].map a.eval)) (fun _=>rfl) ?_⟩
 rw[show #[x,z].map a.eval = #[a.eval x,a.eval z] by simp,hcv,hcz]
 exact Lib.run_unsafeString_none w pt it t none
end
def nx:V->Value
 | .bool b=>.bool b
 | .int k n=>.int k n
 | .str s=>.string ⟨s.toArray⟩
 | .nilp=>.pointer none
 | .nils=>.slice none 0 0
 | .val v=>v
 | _=>undef
def oZ:V->Bool
 | .bool _ | .int _ _ | .str _ | .nilp | .nils | .val _=>true
 | _=>false
def valOf:V->Value
 | .agg cells=>.agg (cells.map nx).toArray
 | v=>nx v
def known:V->Bool
 | .agg cells=>cells.all oZ
 | v=>oZ v
def wZ {Y:Names}{D:Nat->Prop}{w:World}{v:V}{cv:Value}(hk:oZ v=true)(h:Is Y D w v cv):cv=nx v:=by
 cases h<;>first|rfl|(simp[oZ]at hk;done)
def wo (Y:Names)(D:Nat->Prop)(w:World){v:V}(hk:oZ v=true):Is Y D w v (nx v):=by
 cases v<;>first|(simp[oZ]at hk;done)|constructor
def As {v:V}(ha:¬ ∃ cells,v = .agg cells):known v=oZ v:=by
 cases v<;>first|rfl|exact absurd ⟨_,rfl⟩ ha
def Bg {v:V}(ha:¬ ∃ cells,v = .agg cells):valOf v=nx v:=by
 cases v<;>first|rfl|exact absurd ⟨_,rfl⟩ ha
def uZ {Y:Names}{D:Nat->Prop}{w:World}{v:V}{cv:Value}(hk:known v=true)(h:Is Y D w v cv):cv=valOf v:=by
 by_cases ha:∃ cells,v = .agg cells
 ·obtain⟨cells,rfl⟩:=ha
  cases h with
  | agg hn hu =>
   rename_i cvs
   simp only[known]at hk
   show Value.agg cvs = .agg _
   congr 1
   apply Array.ext
   ·simp[hn]
   ·intro i h1 h2
    have hi:i<cells.length:=by omega
    have:=hu i cells[i] cvs[i] (by simp[hi]) (by simp[h1])
    simp only[List.getElem_toArray,List.getElem_map]
    exact wZ (List.all_eq_true.1 hk _ (List.getElem_mem hi)) this
 ·rw[As ha]at hk;rw[Bg ha];exact wZ hk h
def Jz (Y:Names)(D:Nat->Prop)(w:World){v:V}(hk:known v=true):Is Y D w v (valOf v):=by
 by_cases ha:∃ cells,v = .agg cells
 ·obtain⟨cells,rfl⟩:=ha
  refine .agg (by simp) (fun i u cv h1 h2=>?_)
  simp only[known]at hk
  simp only[List.getElem?_toArray,List.getElem?_map,h1,Option.map_some,Option.some.injEq]at h2
  subst h2
  exact wo _ _ _ (List.all_eq_true.1 hk _ (List.mem_of_getElem? h1))
 ·rw[As ha]at hk;rw[Bg ha];exact wo _ _ _ hk
def iz (kvs:List (V×V)):Array MapEntry:=(kvs.mapIdx fun i p=>({ key:=valOf p.1,val:=valOf p.2,born:=i } : MapEntry)).toArray
def eT (kvs:List (V×V)):Blk:=vH (.map (iz kvs) kvs.length)
def cC (O:List (Nat×Nat))(kvs:List (V×V)):Blk.ren O (eT kvs)=eT kvs:=rfl
def bv (O:List (Nat×Nat))(kvs:List (V×V)):Blk.renOk O (eT kvs)=true:=rfl
def FM (kvs:List (V×V))(p:V×V):iz (kvs++[p])=(iz kvs).push { key:=valOf p.1,val:=valOf p.2,born:=kvs.length }:=by
 apply Array.ext'
 simp[iz]
def kq:V->V->Option Bool
 | .int k a,.int k' b=>if k=k' then some (a==b) else none
 | .str a,.str b=>some (a==b)
 | _,_=>none
def dH (k:V):List (V×V)->Option (Option V)
 | []=>some none
 | p::r=>match kq k p.1 with
  | some true=>some (some p.2)
  | some false=>dH k r
  | none=>none
def nd:TypeDesc->V->Bool
 | .int _,.int _ _=>true
 | .string,.str _=>true
 | _,_=>false
def gJ (P:Program)(t:TypeId)(k:V):Bool:=match P.underlying t with
 | some d=>nd d k
 | none=>false
def uI {d:TypeDesc}{k q:V}{b:Bool}(hd:nd d k=true)(h:kq k q=some b):Instr.sameNow d (valOf k) (valOf q)=some b:=by
 cases k<;>cases q<;>simp only[kq]at h<;>try (cases h;done)
 ·cases d<;>simp[nd]at hd
  simpa [Instr.sameNow,valOf,nx] using h
 ·cases d<;>simp[nd]at hd
  rename_i a c
  simp only[Instr.sameNow,valOf,nx]
  rw[<- h]
  congr 1
  show(a.toArray==c.toArray)=(a==c)
  simp
def Cl {d:TypeDesc}{k:V}(hd:nd d k=true):∀ {kvs:List (V×V)} {r:Option V} (f:Nat->Nat) (i:Nat),dH k kvs=some r ->
  ∃ q,Instr.findNow d (valOf k) (kvs.mapIdx fun i p=>({ key:=valOf p.1,val:=valOf p.2,born:=f i } : MapEntry)) i=some q/\q.map (·.2)=r.map valOf:=by
 intro kvs
 induction kvs with
 | nil=>intro r f i h;simp only[dH,Option.some.injEq]at h;subst h;exact⟨none,rfl,rfl⟩
 | cons p l ih =>
  intro r f i h
  simp only[dH]at h
  rw[List.mapIdx_cons]
  cases hs:kq k p.1 with
  | none=>rw[hs]at h;cases h
  | some b =>
   rw[hs]at h
   simp only[Instr.findNow,uI hd hs]
   cases b with
   | true=>cases h;exact⟨_,rfl,rfl⟩
   | false=>exact ih (fun i=>f (i+1)) (i+1) h
def pe (k x:V):List (V×V)->List (V×V)
 | []=>[(k,x)]
 | p::r=>match kq k p.1 with
  | some true=>(k,x)::r
  | _=>p::pe k x r
def nU {k x:V} : ∀ {kvs:List (V×V)},dH k kvs=some none->pe k x kvs=kvs++[(k,x)]
 | [],_=>rfl
 | p::r,h=>by
  simp only[dH]at h
  cases hs:kq k p.1 with
  | none=>rw[hs]at h;cases h
  | some b =>
   cases b with
   | true=>rw[hs]at h;cases h
   | false=>rw[hs]at h;simp only[pe,hs,nU h,List.cons_append]
def Oi {k q:V}(h:kq k q=some true):q=k:=by
 cases k<;>cases q<;>simp only[kq]at h<;>try (cases h;done)
 ·split at h
  ·rename_i e;subst e;simp at h;rw[h]
  ·cases h
 ·simp at h;rw[h]
def zQ {d:TypeDesc}{k x:V}(hd:nd d k=true):∀ {kvs:List (V×V)} {v:V} (f:Nat->Nat) (i:Nat),dH k kvs=some (some v) ->
  ∃ j p,kvs[j]? = some p/\p.1=k/\Instr.findNow d (valOf k) (kvs.mapIdx fun i p=>({ key:=valOf p.1,val:=valOf p.2,born:=f i } : MapEntry)) i=some (some (i+j,valOf v))/\pe k x kvs=kvs.set j (k,x):=by
 intro kvs
 induction kvs with
 | nil=>intro v f i h;cases h
 | cons p l ih =>
  intro v f i h
  simp only[dH]at h
  rw[List.mapIdx_cons]
  cases hs:kq k p.1 with
  | none=>rw[hs]at h;cases h
  | some b =>
   rw[hs]at h
   simp only[Instr.findNow,uI hd hs,pe,hs]
   cases b with
   | true=>cases h;exact⟨0,p,rfl,Oi hs,rfl,rfl⟩
   | false =>
    obtain⟨j,q,h1,h2,h3,h4⟩:=ih (fun i=>f (i+1)) (i+1) h
    exact⟨j+1,q,by simpa using h1,h2,by simp only;rw[h3];congr 3;omega,by simp only[h4,List.set_cons_succ]⟩
def sameBits_self {d:TypeDesc}{k:V}(hd:nd d k=true):Instr.sameBits 10000 (valOf k) (valOf k)=true:=by
 cases k<;>cases d<;>simp[nd]at hd<;>simp[valOf,nx,Instr.sameBits]
 rename_i s
 show(s.toArray==s.toArray)=true
 simp
def IP {kvs:List (V×V)}{j:Nat}{k x:V}{p:V×V}(hp:kvs[j]? = some p):((iz kvs).modify j fun e=>{ e with key:=valOf k,val:=valOf x })=iz (kvs.set j (k,x)):=by
 have hj:=(List.getElem?_eq_some_iff.1 hp).1
 apply Array.ext'
 refine List.ext_getElem? fun i=>?_
 by_cases e:j=i
 ·subst e;simp[iz,List.getElem?_modify,hp,hj]
 ·simp[iz,List.getElem?_modify,e]
def oX {P:Program}{t:TypeId}{k:V}(h:gJ P t k=true):∃ d,P.underlying t=some d/\nd d k=true:=by
 unfold gJ at h
 split at h
 ·rename_i d hu;exact⟨d,hu,h⟩
 ·cases h
def vF (P:Program)(t:TypeId):Option (TypeId×TypeId):=match P.underlying t with
 | some (.map k e)=>some (k,e)
 | _=>none
def EG {P:Program}{t k e:TypeId}(h:vF P t=some (k,e)):P.underlying t=some (.map k e):=by
 unfold vF at h
 split at h
 ·rename_i hu;cases h;exact hu
 ·cases h
def run_checkKey {P:Program}{w:World}{t:TypeId}{d:TypeDesc}{k:V}{em:Bool}(hu:P.underlying t=some d)(hd:nd d k=true){n:Nat} :
  (Instr.checkKey em (n+1) t (valOf k)).run P w = .ok () w:=by
 unfold Instr.checkKey
 have:=run_underlying hu w
 simp only[Sem.run_bind,this,Result.andThen_ok]
 cases d<;>cases k<;>simp[nd]at hd<;>rfl
def run_findKey {P:Program}{w:World}{t:TypeId}{k:V}{kvs:List (V×V)}{r:Option V}(hk:gJ P t k=true)(hf:dH k kvs=some r) :
  ∃ q,(Instr.findKey t (valOf k) (iz kvs).toList).run P w = .ok q w/\q.map (·.2)=r.map valOf:=by
 obtain⟨d,hu,hd⟩:=oX hk
 obtain⟨q,h1,h2⟩:=Cl hd (fun i=>i) 0 hf
 refine⟨q,?_,h2⟩
 unfold Instr.findKey
 have:=run_underlying hu w
 simp only[Sem.run_bind,this,Result.andThen_ok]
 rw[show(iz kvs).toList=kvs.mapIdx fun i p=>({ key:=valOf p.1,val:=valOf p.2,born:=i } : MapEntry) from rfl,h1]
 rfl
section
variable {cx:Cx} {Q:Post} {st:List Frm} {nm:Nat} {e:Env} {M:am} {d:Bool} {fs:List (List Nat)} {ops r:List Oper} {dst:Option Tmp} {t:TypeId} {pos:String} {af:Array Edge} {gd:Option (Nat×Bool)} {i:Nat}
def run_makeMap {P:Program}{w:World}(t:TypeId):(Instr.makeMap t none).run P w = .ok (.map (some w.heap.size)) (w.alloc (.map #[] 0)):=by
 simp[Instr.makeMap,Sem.run_bind]
def Dw {P:Program}{w:World}{t kt et:TypeId}{b:Nat}{k x:V}{kvs:List (V×V)}{q:Option V}(ht:P.underlying t=some (.map kt et))(hk:gJ P kt k=true)(hf:dH k kvs=some q)(hh:w.heap[b]? = some (.map (iz kvs) kvs.length)) :
  (Instr.mapUpdate t (.map (some b)) (valOf k) (valOf x)).run P w = .ok () (setAt w b (.map (iz (pe k x kvs)) (pe k x kvs).length)):=by
 obtain⟨d,hu,hd⟩:=oX hk
 have hc:=run_checkKey (w:=w) (em:=false) hu hd (n:=9999)
 have hg:(getObj b).run P w = .ok (.map (iz kvs) kvs.length) w:=by simp[getObj,Sem.run,hh,Result.andThen]
 cases q with
 | none =>
  obtain⟨q,h1,h2⟩:=run_findKey (w:=w) hk hf
  have hq:q=none:=by cases q<;>simp at h2 ⊢
  subst hq
  rw[nU hf]
  simp only[Instr.mapUpdate,Sem.run_bind,run_underlying ht w,Result.andThen_ok,hg,hc,h1]
  simp[Go.setObj,setAt,FM,Sem.run,hh]
 | some v =>
  obtain⟨j,p,hp,hpk,h1,h2⟩:=zQ (x:=x) hd (fun i=>i) 0 hf
  have h3:(Instr.findKey kt (valOf k) (iz kvs).toList).run P w = .ok (some (j,valOf v)) w:=by
   unfold Instr.findKey
   simp only[Sem.run_bind,run_underlying hu w,Result.andThen_ok]
   rw[show(iz kvs).toList=kvs.mapIdx fun i p=>({ key:=valOf p.1,val:=valOf p.2,born:=i } : MapEntry) from rfl,h1]
   simp
  have h4:(((iz kvs)[j]?).map (·.key)).getD (valOf k)=valOf k:=by
   have:(iz kvs)[j]? = some { key:=valOf p.1,val:=valOf p.2,born:=j }:=by simp[iz,hp]
   rw[this,<- hpk];rfl
  have h5:(Instr.keyThatStays (valOf k) (valOf k)).run P w = .ok (valOf k) w:=by
   unfold Instr.keyThatStays
   rw[if_pos (sameBits_self hd)];rfl
  rw[h2,List.length_set]
  simp only[Instr.mapUpdate,Sem.run_bind,run_underlying ht w,Result.andThen_ok,hg,hc,h3,h4,h5,IP hp]
  simp[Go.setObj,setAt,Sem.run,hh]
def Dv {P:Program}{w:World}{t kt et:TypeId}{b:Nat}{k:V}{kvs:List (V×V)}{q:Option V}{z:Value}(ht:P.underlying t=some (.map kt et))(hk:gJ P kt k=true)(hf:dH k kvs=some q)(hh:w.heap[b]? = some (.map (iz kvs) kvs.length))
  (hz:((P.info? et).bind (·.zero))=some z) (ok:Bool) :
  (Instr.lookup t (.map (some b)) (valOf k) ok).run P w = .ok (if ok then .tuple #[(q.map valOf).getD z,.bool q.isSome] else (q.map valOf).getD z) w:=by
 obtain⟨d,hu,hd⟩:=oX hk
 obtain⟨q',h1,h2⟩:=run_findKey (w:=w) hk hf
 have hc:=run_checkKey (w:=w) (em:=(iz kvs).isEmpty) hu hd (n:=9999)
 have hg:(getObj b).run P w = .ok (.map (iz kvs) kvs.length) w:=by simp[getObj,Sem.run,hh,Result.andThen]
 have hzz:(zeroValue et).run P w = .ok z w:=by
  obtain⟨inf,a1,a2⟩:=Option.bind_eq_some_iff.1 hz
  simp[zeroValue,typeInfo,a1,a2]
 simp only[Instr.lookup,Sem.run_bind,run_underlying ht w,Result.andThen_ok,hg,Sem.run_pure,hc,h1]
 cases q' with
 | none =>
  cases q with
  | none=>simp[hzz,Sem.run_bind]
  | some v=>simp at h2
 | some p =>
  cases q with
  | none=>simp at h2
  | some v =>
   simp only[Option.map_some,Option.some.injEq]at h2
   simp[<- h2]
def iA {ty:TypeId}(h:aK cx Q st nm (e.putD dst (.mp (nm+16*i))) (M.app [(nm+16*i,some (eT []))]) d (fs++[[nm+16*i]]) ops r (i+1)):cp cx Q st nm e M d fs ops ⟨dst,.makeMap ty none,t,pos,af,gd⟩ r i:=by
 refine⟨_,_,_,⟨fun x hx=>hx,fun x hx=>?_,fun _=>rfl,fun _=>rfl,?_⟩,h⟩
 ·simp only[ao,List.map_cons,List.map_nil,List.mem_singleton]at hx
  subst hx;exact .inr ⟨Nat.le_refl _,by omega⟩
 ·intro N X w0 I Y e' M' a w hr he hin hev _ hf
  obtain⟨f1,f2⟩:=hf (nm+16*i) ⟨Nat.le_refl _,by omega⟩
  refine⟨_,_,(Rel.newObj (v:=.mp (nm+16*i)) hr f1 f2 (.map #[] 0) (cv:=.map (some w.heap.size)) (fun Y D w' hl=>.mp hl)).n,ij (s:=Instr.makeMap ty none) rfl ?_⟩
  exact run_makeMap ty
def JV {Y:Names}{D:Nat->Prop}{w:World}{y:Nat}{cv:Value}(h:Is Y D w (.mp y) cv):∃ l,Y y=some l/\cv = .map (some l.b):=by
 cases h with
 | mp hl=>exact⟨_,hl,rfl⟩
def mJ {o:Oper}{ty:TypeId}{m k x:Operand}(ho:o.op = .mapUpdate ty m k x\/o.op = .insert ty m k x){y:Nat}{kv xv:V}{kvs:List (V×V)}{kt et:TypeId}{n:Nat}{q:Option V}(hm:aw cx.G true e m = .mp y)(hM:M y=some (eT kvs))(hk:aw cx.G true e k=kv)(hx:aw cx.G true e x=xv)
  (ht:vF cx.P ty=some (kt,et)) (hkk:gJ cx.P kt kv=true) (kk:known kv=true) (kx:known xv=true) (hf:dH kv kvs=some q) :
  ExtDoes cx o n e M .any [(y,some (eT (pe kv xv kvs)))] [y]:=by
 have hops:o.op.operands.toList=[m,k,x]:=by rcases ho with h|h<;>rw[h]<;>rfl
 refine⟨fun x hx=>hx,fun x hx=>?_,fun _=>by rcases ho with h|h<;>rw[h]<;>rfl,fun _=>by rcases ho with h|h<;>rw[h]<;>rfl,?_⟩
 ·simp only[ao,List.map_cons,List.map_nil,List.mem_singleton]at hx
  subst hx;exact .inl (by rw[hM];rfl)
 ·intro N X w0 I Y e' M' a w hr he hin hev hMM hfr
  have hM':M' y=some (eT kvs):=by rw[hMM y (List.mem_singleton.2 rfl)];exact hM
  have e1:=he.eval hr (c:=true) rfl (hin m (by rw[hops];simp))
  rw[hev m (by rw[hops];simp),hm]at e1
  obtain⟨l,hl,hcv⟩:=JV e1
  have e2:=he.eval hr (c:=true) rfl (hin k (by rw[hops];simp))
  rw[hev k (by rw[hops];simp),hk]at e2
  have e3:=he.eval hr (c:=true) rfl (hin x (by rw[hops];simp))
  rw[hev x (by rw[hops];simp),hx]at e3
  obtain⟨hh,hz,htt,h0⟩:=rm hr hM' hl
  obtain⟨g1,g2⟩:=Rel.setObj hr hM' hl (o':=.map (iz (pe kv xv kvs)) (pe kv xv kvs).length)
  refine⟨undef,setAt w l.b (.map (iz (pe kv xv kvs)) (pe kv xv kvs).length),⟨Y,g1,g2,.any _,fun _ _=>rfl⟩,?_⟩
  have hrun:=Dw (x:=xv) (EG ht) hkk hf hh
  have hex:execOp a.eval o=(do (Instr.mapUpdate ty (a.eval m) (a.eval k) (a.eval x));pure .skip):=by
   obtain⟨dst,op,ty',pos,af,gd⟩:=o
   rcases ho with h|h<;>(simp only at h;subst h;rfl)
  intro K Q hK
  unfold Oper.wp
  rw[hex,hcv,uZ kk e2,uZ kx e3]
  simp only[Sem.run_bind,hrun,Result.andThen_ok,Sem.run_pure]
  exact hK
def jB {ty:TypeId}{m k x:Operand}{y:Nat}{kv xv:V}{kvs:List (V×V)}{kt et:TypeId}(hm:aw cx.G true e m = .mp y)(hM:M y=some (eT kvs))(hk:aw cx.G true e k=kv)(hx:aw cx.G true e x=xv)
  (ht:vF cx.P ty=some (kt,et)) (hkk:gJ cx.P kt kv=true) (kk:known kv=true) (kx:known xv=true) (hf:dH kv kvs=some none)
  (h:aK cx Q st nm (e.putD dst .any) (M.app [(y,some (eT (kvs++[(kv,xv)])))]) d (fs++[[y]]) ops r (i+1)):cp cx Q st nm e M d fs ops ⟨dst,.insert ty m k x,t,pos,af,gd⟩ r i :=
 ⟨_,_,_,mJ (.inr rfl) hm hM hk hx ht hkk kk kx hf,by rw[nU hf];exact h⟩
def ov {ty:TypeId}{m k x:Operand}{y:Nat}{kv xv:V}{kvs:List (V×V)}{kt et:TypeId}(hm:aw cx.G true e m = .mp y)(hM:M y=some (eT kvs))(hk:aw cx.G true e k=kv)(hx:aw cx.G true e x=xv)
  (ht:vF cx.P ty=some (kt,et)) (hkk:gJ cx.P kt kv=true) (kk:known kv=true) (kx:known xv=true) (hf:dH kv kvs=some none)
  (h:aK cx Q st nm (e.putD dst .any) (M.app [(y,some (eT (kvs++[(kv,xv)])))]) d (fs++[[y]]) ops r (i+1)):cp cx Q st nm e M d fs ops ⟨dst,.mapUpdate ty m k x,t,pos,af,gd⟩ r i :=
 ⟨_,_,_,mJ (.inl rfl) hm hM hk hx ht hkk kk kx hf,by rw[nU hf];exact h⟩
def Ci {ty:TypeId}{m k x:Operand}{y:Nat}{kv xv:V}{kvs:List (V×V)}{kt et:TypeId}{q:Option V}(hm:aw cx.G true e m = .mp y)(hM:M y=some (eT kvs))(hk:aw cx.G true e k=kv)(hx:aw cx.G true e x=xv)
  (ht:vF cx.P ty=some (kt,et)) (hkk:gJ cx.P kt kv=true) (kk:known kv=true) (kx:known xv=true) (hf:dH kv kvs=some q)
  (h:aK cx Q st nm (e.putD dst .any) (M.app [(y,some (eT (pe kv xv kvs)))]) d (fs++[[y]]) ops r (i+1)):cp cx Q st nm e M d fs ops ⟨dst,.mapUpdate ty m k x,t,pos,af,gd⟩ r i :=
 ⟨_,_,_,mJ (.inl rfl) hm hM hk hx ht hkk kk kx hf,h⟩
def zeroOf (P:Program)(t:TypeId):Option Value:=(P.info? t).bind (·.zero)
def PX (z:Value)(q:Option V)(ok:Bool):V:=if ok then .tup [q.getD (N2 z),.bool q.isSome] else q.getD (N2 z)
def jC {ty:TypeId}{m k:Operand}{ok:Bool}{y:Nat}{kv:V}{kvs:List (V×V)}{kt et:TypeId}{q:Option V}{z:Value}(hm:aw cx.G true e m = .mp y)(hM:M y=some (eT kvs))(hk:aw cx.G true e k=kv)
  (ht:vF cx.P ty=some (kt,et)) (hkk:gJ cx.P kt kv=true) (kk:known kv=true) (hz:zeroOf cx.P et=some z) (hf:dH kv kvs=some q) (hq:∀ v,q=some v->known v=true)
  (h:aK cx Q st nm (e.putD dst (PX z q ok)) M d (fs++[[y]]) ops r (i+1)):cp cx Q st nm e M d fs ops ⟨dst,.lookup ty m k ok,t,pos,af,gd⟩ r i:=by
 refine⟨_,[],_,⟨fun x hx=>by simp[ao]at hx,fun x hx=>by simp[ao]at hx,fun h=>absurd rfl h,fun _=>rfl,?_⟩,h⟩
 intro N X w0 I Y e' M' a w hr he hin hev hMM hfr
 have hops:(Op.lookup ty m k ok).operands.toList=[m,k]:=rfl
 have hM':M' y=some (eT kvs):=by rw[hMM y (List.mem_singleton.2 rfl)];exact hM
 have e1:=he.eval hr (c:=true) rfl (hin m (by rw[hops];simp))
 rw[hev m (by rw[hops];simp),hm]at e1
 obtain⟨l,hl,hcv⟩:=JV e1
 have e2:=he.eval hr (c:=true) rfl (hin k (by rw[hops];simp))
 rw[hev k (by rw[hops];simp),hk]at e2
 obtain⟨hh,_,_,_⟩:=rm hr hM' hl
 have hrun:=Dv (EG ht) hkk hf hh hz ok
 have hv:∀ D,Is Y D w (q.getD (N2 z)) ((q.map valOf).getD z):=fun D=>by
  cases q with
  | none=>exact Jx _ _ _ _
  | some v=>exact Jz _ _ _ (hq v rfl)
 refine⟨_,w,(dc.still (nm:=nm+16*i) (cv:=if ok then .tuple #[(q.map valOf).getD z,.bool q.isSome] else (q.map valOf).getD z) hr ?_).n,ij (s:=Instr.lookup ty (a.eval m) (a.eval k) ok) rfl ?_⟩
 ·unfold PX
  cases ok with
  | false=>exact hv _
  | true =>
   refine .tup rfl (fun i u cv hi hc=>?_)
   match i with
   | 0=>simp at hi hc;subst hi;subst hc;exact hv _
   | 1=>simp at hi hc;subst hi;subst hc;exact .bool _
   | i+2=>simp at hi
 ·rw[hcv,uZ kk e2];exact hrun
end
section
variable {cx:Cx} {f:FuncId} {nm:Nat} {args:List V} {M:am} {v:V} {eff:List (Nat×Option Blk)}
def Ev.frame (l:List Nat)(h:Ev cx f nm args (M.only l) v eff)(heff:∀ x∈ao eff,x∈l\/b7 nm x)(hfr:∀ x,b7 nm x->M x=none):Ev cx f nm args M v eff:=by
 refine⟨h.1,fun X w Y cargs B hr hf hB hn hargs=>(h.2 (FX X Y M l) w Y cargs B (hr.focus l) hf (fun x hx=>⟨by unfold am.only;simp[(hB x hx).1],(hB x hx).2⟩) hn (fun i u cv hi hc=>(hargs i u cv hi hc).focus)).mono ?_⟩
 rintro e w' ⟨cv,rfl,hs⟩
 exact⟨cv,rfl,hr.unfocus hfr heff hs⟩
def am.app_drop {y:Nat} : ∀ {eff:List (Nat×Option Blk)} {M:am},∀ x k,(M.app ((y,none)::eff)) x=some k->(M.app eff) x=some k:=by
 intro eff
 induction eff with
 | nil =>
  intro M x k h
  simp only[am.app]at h ⊢
  by_cases e:x=y
  ·subst e;rw[am.put_same]at h;cases h
  ·rwa[am.put_ne _ _ e]at h
 | cons p r ih =>
  intro M x k h
  obtain⟨z,kz⟩:=p
  simp only[am.app]at h ⊢
  by_cases hx:x∈ao r
  ·rw[<- h];exact am.app_congr (fun hn=>absurd hx hn)
  ·rw[am.app_of_notin hx]at h ⊢
   by_cases e:x=z
   ·subst e;rw[am.put_same]at h ⊢;exact h
   ·rw[am.put_ne _ _ e]at h ⊢
    by_cases e2:x=y
    ·subst e2;rw[am.put_same]at h;cases h
    ·rwa[am.put_ne _ _ e2]at h
def Ev.dropM (y:Nat)(h:Ev cx f nm args M v eff):Ev cx f nm args M v ((y,none)::eff):=by
 refine⟨h.1,fun X w Y cargs B hr hf hB hn hargs=>(h.2 X w Y cargs B hr hf hB hn hargs).mono ?_⟩
 rintro e w' ⟨cv,rfl,Y',r,m,hv,hnn⟩
 obtain⟨r1,m1⟩:=r.drop (M':=M.app ((y,none)::eff)) (fun x k hk=>am.app_drop x k hk)
 exact⟨cv,rfl,Y',r1,m.trans m1,m1.is hv,hnn⟩
def Ev.eff_eq {eff':List (Nat×Option Blk)}(h:Ev cx f nm args M v eff)(he:M.app eff=M.app eff'):Ev cx f nm args M v eff':=by
 refine⟨h.1,fun X w Y cargs B hr hf hB hn hargs=>?_⟩
 have:=h.2 X w Y cargs B hr hf hB hn hargs
 rw[he]at this
 exact this
end
def cZ (z:Value)(q:Option V):PX z q true = .tup [q.getD (N2 z),.bool q.isSome]:=rfl
mutual
def qJ (O:List (Nat×Nat))(M:am):∀ v:V,v.plain=true->v.fin O M=v/\v.finOk O M
 | .agg cs,h=>by
  simp only[V.plain]at h
  obtain⟨h1,h2⟩:=finL_plain O M cs h
  simp only[V.fin,V.finOk,h1];exact⟨trivial,h2⟩
 | .tup cs,h=>by
  simp only[V.plain]at h
  obtain⟨h1,h2⟩:=finL_plain O M cs h
  simp only[V.fin,V.finOk,h1];exact⟨trivial,h2⟩
 | .fn f cs,h=>by
  simp only[V.plain]at h
  obtain⟨h1,h2⟩:=finL_plain O M cs h
  simp only[V.fin,V.finOk,h1];exact⟨trivial,h2⟩
 | .fnb f cs,h=>by
  simp only[V.plain]at h
  obtain⟨h1,h2⟩:=finL_plain O M cs h
  simp only[V.fin,V.finOk,h1];exact⟨trivial,h2⟩
 | .gd b v,h=>by
  simp only[V.plain]at h
  obtain⟨h1,h2⟩:=qJ O M v h
  simp only[V.fin,V.finOk,h1];exact⟨trivial,h2⟩
 | .iface t v,h=>by
  simp only[V.plain]at h
  obtain⟨h1,h2⟩:=qJ O M v h
  simp only[V.fin,V.finOk,h1];exact⟨trivial,h2⟩
 | .rp cs,h=>by simp only[V.plain]at h;simp only[V.fin,V.finOk];exact⟨trivial,h⟩
 | .sl t s rows,h=>by simp only[V.plain]at h;simp only[V.fin,V.finOk];exact⟨trivial,h⟩
 | .own _ _ _,h | .ownc _ _ _ _,h | .ptr _ _ _,h | .chan _,h | .mp _,h=>by simp[V.plain]at h
 | .any,_ | .bool _,_ | .bit _ _,_ | .int _ _,_ | .str _,_ | .nilp,_ | .upt,_ | .nils,_ | .val _,_=>⟨by simp only[V.fin],by simp only[V.finOk]⟩
def finL_plain (O:List (Nat×Nat))(M:am):∀ cs:List V,plainL cs=true->finL O M cs=cs/\finLOk O M cs
 | [],_=>⟨by simp only[finL],by simp only[finLOk]⟩
 | v::r,h=>by
  simp only[plainL,Bool.and_eq_true]at h
  obtain⟨h1,h2⟩:=qJ O M v h.1
  obtain⟨h3,h4⟩:=finL_plain O M r h.2
  simp only[finL,finLOk,h1,h3]
  exact⟨trivial,h2,h4⟩
end
def gk (O:List (Nat×Nat))(M:am)(rows:List (List V)):List (List V):=rows.map (finL O M)
def fh (O:List (Nat×Nat))(M:am)(rows:List (List V)):Prop:=∀ r∈rows,finLOk O M r
def qH (O:List (Nat×Nat))(M:am):gk O M []=[]:=rfl
def oP (O:List (Nat×Nat))(M:am)(r:List V)(rows:List (List V)):gk O M (r::rows)=finL O M r::gk O M rows:=rfl
def je (O:List (Nat×Nat))(M:am)(a b:List (List V)):gk O M (a++b)=gk O M a++gk O M b:=List.map_append
def gn (O:List (Nat×Nat))(M:am){rows:List (List V)}(h:plainLL rows=true):gk O M rows=rows:=by
 unfold gk
 rw[dF,List.all_eq_true]at h
 conv=>rhs;rw[<- List.map_id rows]
 exact List.map_congr_left (fun r hr=>(finL_plain O M r (h r hr)).1)
def mU (O:List (Nat×Nat))(M:am):fh O M []=True:=eq_true (fun r hr=>by simp at hr)
def lD (O:List (Nat×Nat))(M:am)(r:List V)(rows:List (List V)):fh O M (r::rows)=(finLOk O M r/\fh O M rows):=by
 unfold fh;simp
def gH (O:List (Nat×Nat))(M:am)(a b:List (List V)):fh O M (a++b)=(fh O M a/\fh O M b):=by
 unfold fh
 simp only[List.mem_append,eq_iff_iff]
 exact⟨fun h=>⟨fun r hr=>h r (.inl hr),fun r hr=>h r (.inr hr)⟩,fun h r hr=>hr.elim (h.1 r) (h.2 r)⟩
def fQ (O:List (Nat×Nat))(M:am){rows:List (List V)}(h:plainLL rows=true):fh O M rows=True:=by
 rw[dF,List.all_eq_true]at h
 exact eq_true (fun r hr=>(finL_plain O M r (h r hr)).2)
def GU (o:Ob):Ob.le o o=True:=eq_true (.inl rfl)
def gw (x y:List V)(xs ys:List (List V)):gR (x::xs) (y::ys)=(leL x y/\gR xs ys):=rfl
def m8 {a b c:List (List V)}(h:gR b c):gR (a++b) (a++c):=by
 induction a with
 | nil=>exact h
 | cons x a ih=>exact⟨leL_refl x,ih⟩
def zP (O:List (Nat×Nat))(M:am)(k0 k:Blk):Prop:=yy O k0 k\/(k0.ob.isRow=true/\fh O M k0.rows/\k0.sz=k.sz/\k0.ob.le k.ob/\gR (gk O M k0.rows) k.rows)
def nP {cx:Cx}(O:List (Nat×Nat))(M:am):HW (zP O M) O M cx:=fun X w0 I Y Y' D' w hr hnew hdom hout k0 k h=>by
 rcases h with h|⟨h1,h2,h3,h4,h5⟩
 ·exact wr O M X w0 I Y Y' D' w hr hnew hdom hout k0 k h
 ·obtain⟨f1,f2⟩:=m9 h5
  have hlen:k.rows.length=k0.rows.length:=by rw[<- f1];simp[gk]
  refine⟨fun l hb=>?_,fun hz=>by rw[hz]at hlen;exact List.eq_nil_of_length_eq_zero (by simpa using hlen)⟩
  rcases hb with ⟨cs,e,g1,g2,g3,g4,g5,g6,g7⟩|⟨o,_,msgs,buf,_,_,g1,_⟩
  ·refine .inl ⟨cs,e,Ob.le_ok g1 h4,g2,by rw[<- h3];exact g3,by rw[hlen];exact g4,g5,fun i row hi=>?_,fun i j row u hi hj=>?_⟩
   ·obtain⟨x,q1,q2⟩:=f2 i row hi
    unfold gk at q1
    rw[List.getElem?_map]at q1
    obtain⟨row',q3,rfl⟩:=Option.map_eq_some_iff.1 q1
    rw[<-(gK q2).1,df];exact g6 i row' q3
   ·obtain⟨x,q1,q2⟩:=f2 i row hi
    unfold gk at q1
    rw[List.getElem?_map]at q1
    obtain⟨row',q3,rfl⟩:=Option.map_eq_some_iff.1 q1
    obtain⟨v,q4,q5⟩:=(gK q2).2 j u hj
    rw[fu]at q4
    obtain⟨v',q6,rfl⟩:=Option.map_eq_some_iff.1 q4
    obtain⟨cv,c1,c2⟩:=g7 i j row' v' q3 q6
    exact⟨cv,c1,(lE (cx:=cx) hr hnew hdom hout c2 (dG (h2 row' (List.mem_of_getElem? q3)) q6)).le u q5⟩
  ·exfalso
   cases ho:k0.ob with
   | cells=>rw[ho]at g1;exact g1
   | typed t=>rw[ho]at g1;exact g1
   | chan a b c=>rw[ho]at h1;cases h1
   | obj o=>rw[ho]at h1;cases h1
section
variable {cx:Cx} {Q:Post} {st:List Frm} {nm:Nat} {e:Env} {M:am}
def Bz (hG:∀ g,(cx.G g).plain=true){α:Type}{μ:α->Nat}{P:α->Prop}{nmS:Nat}{Es:α->List (Nat×V)}{Ms:α->List (Nat×Blk)}{g:Nat}(x:α)(src:List (Option Nat))(hg:μ x<g)(h0:P x)(hb:Q.b0<=nmS)
  (hM:kA (zP (eY (dv (Ms x) src)) M) Q.b0 nmS M (dv (Ms x) src)) (hE:mC M (eY (dv (Ms x) src)) e (Es x)):dY cx Q (.again (vn μ P nmS Es Ms) g::st) nm e M .normal :=
 yY (μ x) hg (lh hG src (nP _ _) hb hM hE) ⟨x,rfl,h0,rfl,rfl,rfl⟩
def Gz {c:Code}(hG:∀ g,(cx.G g).plain=true){α:Type}(μ:α->Nat)(P:α->Prop)(nmS:Nat)(Es:α->List (Nat×V))(Ms:α->List (Nat×Blk))(x0:α)(src:List (Option Nat))(h0:P x0)(hb:Q.b0<=nmS)
  (hM:kA (zP (eY (dv (Ms x0) src)) M) Q.b0 nmS M (dv (Ms x0) src)) (hE:mC M (eY (dv (Ms x0) src)) e (Es x0))
  (hr:∀ x,P x->go cx Q (.again (vn μ P nmS Es Ms) (μ x)::st) nmS (lB (Es x)) (iI (Ms x)) c):qS cx Q st nm e M c :=
 ED (vn μ P nmS Es Ms) (μ x0) (lh hG src (nP _ _) hb hM hE) ⟨x0,rfl,h0,rfl,rfl,rfl⟩ (by rintro g nm e M ⟨x,rfl,hP,rfl,rfl,rfl⟩;exact hr x hP)
end
end Go.Proofs.YtlnlopnpcmahgaaGreatDoor.Vm
namespace Go.Proofs.YtlnlopnpcmahgaaGreatDoor.Vm
open And renaming intro->Ai
open Go Go.RowKit
set_option linter.defProp false
def SM :=
 (Ai (Ai (Ai (Ai @nH @pH) (Ai @hZ (Ai @jL @Go.maxLen.eq_1))) (Ai (Ai @forall_eq'.{1} (Ai @forall_eq'.{0} @exists_eq'.{1})) (Ai @exists_eq'.{0} (Ai @Prod.mk.injEq.{0,0} @Bool.true_or)))) (Ai (Ai (Ai @Bool.false_or @Bool.or_true) (Ai @Bool.or_false (Ai @Bool.true_and @Bool.false_and))) (Ai (Ai @Bool.and_false (Ai @De @G6)) (Ai @z5 (Ai @Option.bind_some.{0,0} @Option.bind_none.{0,0})))))
def al:=SM
def Ra :=
 (Ai (Ai (Ai (Ai @kA.eq_1 (Ai @kA.eq_2 @kA.eq_3)) (Ai @yy.eq_1 (Ai @mC.eq_1 @mC.eq_2))) (Ai (Ai @Nat.lt_add_right_iff_pos (Ai @Nat.add_lt_add_iff_left @pY)) (Ai @uh (Ai @cM @gR.eq_1)))) (Ai (Ai (Ai @gR.eq_2 (Ai @dv.eq_1 @dv.eq_2)) (Ai @dv.eq_3 (Ai @eY.eq_1 @eY.eq_2))) (Ai (Ai @eY.eq_3 (Ai @Ee @nH)) (Ai @pH (Ai @hZ @jL)))))
def Rb :=
 (Ai (Ai (Ai (Ai @KZ (Ai @AP @gW.eq_1)) (Ai @fH.eq_1 (Ai @renL.eq_1 @renL.eq_2))) (Ai (Ai @renOkL.eq_1 (Ai @renOkL.eq_2 @V.ren.eq_1)) (Ai @V.ren.eq_2 (Ai @V.ren.eq_3 @V.ren.eq_4)))) (Ai (Ai (Ai @V.ren.eq_5 (Ai @V.ren.eq_6 @V.ren.eq_7)) (Ai @V.ren.eq_8 (Ai @V.ren.eq_9 @V.ren.eq_10))) (Ai (Ai @V.ren.eq_11 (Ai @V.ren.eq_12 @V.renOk.eq_1)) (Ai @V.renOk.eq_2 (Ai @V.renOk.eq_3 @V.renOk.eq_4)))))
def Rc :=
 (Ai (Ai (Ai (Ai @V.renOk.eq_5 (Ai @V.renOk.eq_6 @V.renOk.eq_7)) (Ai @V.renOk.eq_8 (Ai @V.renOk.eq_9 @V.renOk.eq_10))) (Ai (Ai @V.renOk.eq_11 (Ai @V.renOk.eq_12 @V.renOk.eq_13)) (Ai @V.renOk.eq_14 (Ai @V.fin.eq_1 @V.fin.eq_2)))) (Ai (Ai (Ai @V.fin.eq_3 (Ai @V.fin.eq_4 @V.fin.eq_5)) (Ai @V.fin.eq_6 (Ai @V.fin.eq_7 @V.fin.eq_8))) (Ai (Ai @V.fin.eq_9 (Ai @V.fin.eq_10 @V.fin.eq_11)) (Ai @V.fin.eq_12 (Ai @V.finOk.eq_1 @V.finOk.eq_2)))))
def Rd :=
 (Ai (Ai (Ai (Ai @V.finOk.eq_3 (Ai @V.finOk.eq_4 @V.finOk.eq_5)) (Ai @V.finOk.eq_6 (Ai @V.finOk.eq_7 @V.finOk.eq_8))) (Ai (Ai @V.finOk.eq_9 (Ai @V.finOk.eq_10 @V.finOk.eq_11)) (Ai @V.finOk.eq_12 (Ai @finL.eq_1 @finL.eq_2)))) (Ai (Ai (Ai @finLOk.eq_1 (Ai @finLOk.eq_2 @ec)) (Ai @fG (Ai @List.mem_cons.{0} @List.not_mem_nil.{0}))) (Ai (Ai @forall_eq.{1} (Ai @forall_eq.{0} @forall_eq_or_imp.{1})) (Ai @forall_eq_or_imp.{0} (Ai @ne_eq.{1} @ne_eq.{0})))))
def Re :=
 (Ai (Ai (Ai @not_false_eq_true @not_true_eq_false) (Ai @Bool.or_true @Bool.true_or)) (Ai (Ai @Bool.false_or @Bool.or_false) (Ai @pW (Ai @Option.some.injEq.{0} @Nat.le_add_right))))
def aX:=(Ai (Ai Ra Rb) (Ai Rc (Ai Rd Re)))
def Py :=
 (Ai (Ai (Ai (Ai @zP.eq_1 @qH) (Ai @oP @je)) (Ai (Ai @mU @lD) (Ai @gH @GU))) (Ai (Ai (Ai @gw @true_or) (Ai @or_true @false_or)) (Ai (Ai @or_false @eq_self.{1}) (Ai @eq_self.{0} (Ai @and_true @true_and)))))
def iW:=Py
def Sh :=
 (Ai (Ai (Ai (Ai @tgt.eq_1 (Ai @aP.eq_1 @qO.eq_1)) (Ai @qO.eq_2 (Ai @qO.eq_3 @Ji.eq_1))) (Ai (Ai @IF.eq_1 (Ai @KZ @AP)) (Ai @gW.eq_1 (Ai @fH.eq_1 @renL.eq_1)))) (Ai (Ai (Ai @renL.eq_2 (Ai @renOkL.eq_1 @renOkL.eq_2)) (Ai @V.ren.eq_1 (Ai @V.ren.eq_2 @V.ren.eq_3))) (Ai (Ai @V.ren.eq_4 (Ai @V.ren.eq_5 @V.ren.eq_6)) (Ai @V.ren.eq_7 (Ai @V.ren.eq_8 @V.ren.eq_9)))))
def Si :=
 (Ai (Ai (Ai (Ai @V.ren.eq_10 (Ai @V.ren.eq_11 @V.ren.eq_12)) (Ai @V.renOk.eq_1 (Ai @V.renOk.eq_2 @V.renOk.eq_3))) (Ai (Ai @V.renOk.eq_4 (Ai @V.renOk.eq_5 @V.renOk.eq_6)) (Ai @V.renOk.eq_7 (Ai @V.renOk.eq_8 @V.renOk.eq_9)))) (Ai (Ai (Ai @V.renOk.eq_10 (Ai @V.renOk.eq_11 @V.renOk.eq_12)) (Ai @V.renOk.eq_13 (Ai @V.renOk.eq_14 @ec))) (Ai (Ai @fG (Ai @List.mem_cons.{0} @List.not_mem_nil.{0})) (Ai @forall_eq.{1} (Ai @forall_eq.{0} @forall_eq_or_imp.{1})))))
def Sj :=
 (Ai (Ai (Ai @forall_eq_or_imp.{0} @ne_eq.{1}) (Ai @ne_eq.{0} (Ai @not_false_eq_true @not_true_eq_false))) (Ai (Ai @Nat.le_add_right @Bool.or_true) (Ai @Bool.true_or (Ai @Bool.false_or @Bool.or_false))))
def dx:=(Ai Sh (Ai Si Sj))
def RO :=
 (Ai (Ai (Ai (Ai @Cs (Ai @zW @oz.eq_1)) (Ai @oz.eq_2 (Ai @Le.eq_1 @qm.eq_1))) (Ai (Ai @Lf (Ai @Hr @Mb)) (Ai @HV (Ai @V.owns.eq_1 @V.owns.eq_2)))) (Ai (Ai (Ai @V.owns.eq_3 (Ai @V.owns.eq_4 @ownsL.eq_1)) (Ai @ownsL.eq_2 (Ai @ec @fG))) (Ai (Ai @List.mem_cons.{0} (Ai @List.not_mem_nil.{0} @or_false)) (Ai @forall_eq.{1} (Ai @forall_eq.{0} @forall_eq_or_imp.{1})))))
def RP :=
 (Ai (Ai @forall_eq_or_imp.{0} (Ai @ne_eq.{1} @ne_eq.{0})) (Ai @Nat.le_add_right (Ai @not_false_eq_true @not_true_eq_false)))
def Qq:=(Ai RO RP)
def RN :=
 (Ai (Ai @lN (Ai @List.mem_cons.{0} @List.not_mem_nil.{0})) (Ai (Ai @forall_eq.{1} @forall_eq.{0}) (Ai @forall_eq_or_imp.{1} @forall_eq_or_imp.{0})))
def ag:=RN
def Ry :=
 (Ai (Ai (Ai @V.bool.injEq @V.int.injEq) (Ai @V.str.injEq (Ai @V.agg.injEq @V.tup.injEq))) (Ai (Ai @V.sl.injEq (Ai @V.own.injEq @List.cons.injEq.{0})) (Ai @and_true (Ai @true_and @and_self))))
def ap:=Ry
def Rw :=
 (Ai (Ai (Ai @finL.eq_1 (Ai @finL.eq_2 @V.fin.eq_1)) (Ai (Ai @V.fin.eq_2 @V.fin.eq_3) (Ai @V.fin.eq_4 @V.fin.eq_5))) (Ai (Ai (Ai @V.fin.eq_6 @V.fin.eq_7) (Ai @V.fin.eq_8 @V.fin.eq_9)) (Ai (Ai @V.fin.eq_10 @V.fin.eq_11) (Ai @V.fin.eq_12 @ec))))
def ak:=Rw
def aC {cx:Cx}{Q:Post}{st:List Frm}{nm:Nat}{e:Env}{M:am}(hG:∀ g,(cx.G g).plain=true){α:Type}{μ:α->Nat}{P:α->Prop}{nmS:Nat}{Es:α->List (Nat×V)}{Ms:α->List (Nat×Blk)}{g:Nat}(x:α)(src:List (Option Nat))(hg:μ x<g)(h0:P x)(hb:Q.b0<=nmS)(hME:kA (yy (eY (dv (Ms x) src))) Q.b0 nmS M (dv (Ms x) src)/\mC M (eY (dv (Ms x) src)) e (Es x)):dY cx Q (.again (vn μ P nmS Es Ms) g::st) nm e M .normal:=E9 hG x src hg h0 hb hME.1 hME.2
def aQ {cx:Cx}{Q:Post}{st:List Frm}{nm:Nat}{e:Env}{M:am}{c:Code}(hG:∀ g,(cx.G g).plain=true){α:Type}(μ:α->Nat)(P:α->Prop)(nmS:Nat)(Es:α->List (Nat×V))(Ms:α->List (Nat×Blk))(x0:α)(src:List (Option Nat))(h0:P x0)(hb:Q.b0<=nmS)(hME:kA (yy (eY (dv (Ms x0) src))) Q.b0 nmS M (dv (Ms x0) src)/\mC M (eY (dv (Ms x0) src)) e (Es x0))(hr:∀ x,P x->go cx Q (.again (vn μ P nmS Es Ms) (μ x)::st) nmS (lB (Es x)) (iI (Ms x)) c):qS cx Q st nm e M c:=JM hG μ P nmS Es Ms x0 src h0 hb hME.1 hME.2 hr
def eO {cx:Cx}{Q:Post}{st:List Frm}{nm:Nat}{e:Env}{M:am}(hG:∀ g,(cx.G g).plain=true){α:Type}{μ:α->Nat}{P:α->Prop}{nmS:Nat}{Es:α->List (Nat×V)}{Ms:α->List (Nat×Blk)}{g:Nat}(x:α)(src:List (Option Nat))(hg:μ x<g)(h0:P x)(hb:Q.b0<=nmS)(hME:kA (zP (eY (dv (Ms x) src)) M) Q.b0 nmS M (dv (Ms x) src)/\mC M (eY (dv (Ms x) src)) e (Es x)):dY cx Q (.again (vn μ P nmS Es Ms) g::st) nm e M .normal:=Bz hG x src hg h0 hb hME.1 hME.2
def ul {cx:Cx}{Q:Post}{st:List Frm}{nm:Nat}{e:Env}{M:am}{c:Code}(hG:∀ g,(cx.G g).plain=true){α:Type}(μ:α->Nat)(P:α->Prop)(nmS:Nat)(Es:α->List (Nat×V))(Ms:α->List (Nat×Blk))(x0:α)(src:List (Option Nat))(h0:P x0)(hb:Q.b0<=nmS)(hME:kA (zP (eY (dv (Ms x0) src)) M) Q.b0 nmS M (dv (Ms x0) src)/\mC M (eY (dv (Ms x0) src)) e (Es x0))(hr:∀ x,P x->go cx Q (.again (vn μ P nmS Es Ms) (μ x)::st) nmS (lB (Es x)) (iI (Ms x)) c):qS cx Q st nm e M c:=Gz hG μ P nmS Es Ms x0 src h0 hb hME.1 hME.2 hr
end Go.Proofs.YtlnlopnpcmahgaaGreatDoor.Vm
namespace Go.Proofs.YtlnlopnpcmahgaaGreatDoor.Vm
open Go Go.RowKit
def Ev.makeNoZero {cx : Cx} {f : FuncId} {fn : Func} {ps : Array TypeId} {t e : TypeId} (hf : cx.P.funcs[f]? = some fn) (hname : (fn.name == "runtime.NumGoroutine") = false) (hb : fn.body.isNone = true) (hn : Extern.findNext fn = none)
  (he:Extern.find fn=some (Extern.BytealgMakeNoZero.makeNoZero ps #[t])) (ht:cx.P.underlying t=some (.slice e)) (n:Nat) (hle:n<=281474976710656) (M:am) (nm:Nat) (hM:M nm=none):Ev cx f nm [.int .i64 n] M (.own nm 0 n) [(nm,some (@Blk.mk 1 [] (.typed e)))]:=by
 refine⟨trivial,fun X w Y cargs B hr hfr hB hlen hargs=>?_⟩
 match cargs,hlen,hargs with
 |⟨[v0]⟩,_,hargs =>
 have h0:=hargs 0 _ v0 rfl rfl
 cases h0
 obtain⟨cs,h1,h2,_⟩:=Lib.run_makeNoZero (P:=cx.P) w ps t e ht n hle
 obtain⟨d1,d2⟩:=hr.draw (w.drawn+1)
 obtain⟨d3,d4⟩:=d1.draw (w.drawn+1+1)
 have hY:Y nm=none:=hfr nm ⟨Nat.le_refl _,by omega⟩
 obtain⟨r1,r2⟩:=d3.alloc hM hY cs e (@Blk.mk 1 [] (.typed e)) cs.size (Nat.zero_le _) (by show cs.size*1<=cs.size;omega) (fun i row hi=>by simp at hi) (fun i j row u hi=>by simp at hi) ⟨rfl,rfl⟩
 refine .inr ⟨_,_,(by rw[run_callFunc_extern hf hname hb hn he,h1];rfl),_,rfl,_,r1,(d2.trans d4).trans r2,?_,fun x hx=>Names.put_ne _ _ (fun h=>hx (by subst h;exact⟨Nat.le_refl _,by omega⟩))⟩
 have:=Is.own (Y:=Y.put nm ⟨w.heap.size,0,1,cs.size⟩) (D:=bH X (Y.put nm ⟨w.heap.size,0,1,cs.size⟩) (M.put nm (some (@Blk.mk 1 [] (.typed e))))) (w:=w.drew.drew.alloc (.cells cs e)) (nm:=nm) (lo:=0) (n:=n) (c:=cs.size) (Names.put_same _ _ _) (by simp) h2
 exact this
def O6.cell {cx:Cx}{f:FuncId}{nm:Nat}{args:List V}{M:am}{v:Nat->V}{eff:List (Nat×Option Blk)}(q j y lo n sz:Nat)(row:List V)(ob:Ob)(hM:M q=some (@Blk.mk sz [row] ob))(hj:row[j]? = some (.own y lo n))(hob:ob.isRow=true)(hq:q∈ao eff)
  (h:∀ c,n<=c->Ev cx f nm args (M.put q (some (@Blk.mk sz [row.set j (.ownc y lo n c)] ob))) (v c) eff):O6 cx f nm args M (fun u=>∃ c,n<=c/\u=v c) eff:=by
 refine⟨trivial,fun X w Y cargs B hr hfr hB hn hargs=>?_⟩
 obtain⟨l,a1,a2,a3,cs,e,hok,a4,a5,a6,a7,a8,a9⟩:∃ l,Y q=some l/\(bG Y M l.b\/w.heap.size<=l.b) /\ ¬ X l.b/\DY Y (bH X Y M) w l (@Blk.mk sz [row] ob):=by
  rcases hr.live q _ hM with ⟨b1,_⟩|⟨l,b1,b2,b3,b4|⟨o,_,ms,buf,_,_,c1,_,_,c4,_⟩⟩
  ·cases b1
  ·exact⟨l,b1,b2,b3,b4⟩
  ·cases c4
 obtain⟨cv0,c1,c2⟩:=a9 0 j row _ rfl hj
 obtain⟨c,hnc,hic⟩:∃ c,n<=c/\Is Y (bH X Y M) w (.ownc y lo n c) cv0:=by
  cases c2 with
  | own0=>exact⟨0,Nat.le_refl _,.ownc0⟩
  | own hl hlc hnc =>
   rename_i c l
   by_cases h0:c=0
   ·have hn0:n=0:=by omega
    subst h0;subst hn0
    exact⟨0,Nat.le_refl _,.ownc0⟩
   ·exact⟨c,hnc,.ownc hl hlc hnc (by omega)⟩
 generalize hk:(@Blk.mk sz [row.set j (.ownc y lo n c)] ob)=k' at *
 have hs:∀ x,((M.put q (some k')) x).isSome=(M x).isSome:=fun x=>by
  by_cases e:x=q
  ·subst e;rw[am.put_same,hM];rfl
  ·rw[am.put_ne _ _ e]
 have hsb:∀ x,(((M.put q (some k')) x).isSome=true)=((M x).isSome=true):=fun x=>by rw[hs x]
 have hblk:bG Y (M.put q (some k'))=bG Y M:=by
  funext b;simp only[bG,hsb]
 have hdom:bH X Y (M.put q (some k'))=bH X Y M:=by
  funext b;simp only[bH,hsb]
 have happ:(M.put q (some k')).app eff=M.app eff:=by
  funext x
  by_cases e:x=q
  ·subst e;exact am.app_congr (fun hx=>absurd hq hx)
  ·exact am.app_congr (fun _=>am.put_ne _ _ e)
 have hr':Rel cx.G X w (bG Y (M.put q (some k'))) Y (M.put q (some k')) w:=by
  rw[hblk]
  refine { size:=hr.size,os:=hr.os,tape:=hr.tape,output:=hr.output,old:=hr.old,live:=?_,inj:=?_,hX:=hr.hX,glob:=?_ }
  ·intro x k hx
   rw[hdom]
   by_cases e:x=q
   ·subst e
    rw[am.put_same]at hx;cases hx
    subst hk
    refine .inr ⟨l,a1,a2,a3,.inl ⟨cs,e,hok,a4,a5,a6,a7,fun i r hi=>?_,fun i p r u hi hp=>?_⟩⟩
    ·cases i with
     | zero =>
      have hi':row.set j (.ownc y lo n c)=r:=by simpa using hi
      rw[<- hi',List.length_set];exact a8 0 row rfl
     | succ i=>simp at hi
    ·cases i with
     | zero =>
      have hi':row.set j (.ownc y lo n c)=r:=by simpa using hi
      rw[<- hi',List.getElem?_set]at hp
      split at hp
      ·rename_i hjp
       split at hp
       ·cases hp
        subst hjp
        exact⟨cv0,c1,hic⟩
       ·cases hp
      ·exact a9 0 p row u rfl hp
     | succ i=>simp at hi
   ·rw[am.put_ne _ _ e]at hx
    exact hr.live x k hx
  ·intro a b l l' h1 h2
   rw[hs]at h1 h2
   exact hr.inj a b l l' h1 h2
  ·intro g;rw[hdom];exact hr.glob g
 have hB':∀ x,B<=x->(M.put q (some k')) x=none:=fun x hx=>by
  have h0:=hs x
  rw[(hB x hx).1]at h0
  cases hq:(M.put q (some k')) x with
  | none=>rfl
  | some k=>rw[hq]at h0;cases h0
 have hcc:=h c hnc
 rw[hk]at hcc
 refine(hcc.2 X w Y cargs B hr' hfr (fun x hx=>⟨hB' x hx,(hB x hx).2⟩) hn (fun i u cv hi hc=>by rw[hdom];exact hargs i u cv hi hc)).mono ?_
 rintro e w' ⟨cv,rfl,Y',r,m,hv,hnn⟩
 rw[happ]at r m hv
 rw[hblk]at r
 refine⟨cv,rfl,v c,⟨c,hnc,rfl⟩,Y',r,⟨m.names,m.size,m.os,m.tape,m.output,fun b hb hk2=>m.kept b hb (fun x l h1 h2=>hk2 x l (by rw[<- hs x];exact h1) h2),fun x l h1 h2 h3=>?_⟩,hv,hnn⟩
 obtain⟨x',l',k1,k2,k3⟩:=m.dom x l h1 h2 h3
 exact⟨x',l',by rw[<- hs x'];exact k1,k2,k3⟩
section
variable {P:Program}
def DU {c:Code}{Q:Exit->Act->List Frame->World->Prop}{a:Act}{cs:List Frame}{w:World}(h:ju P c (fun e a' w'=>Q e a' cs w') a w):c.wpS P Q a cs w :=
 fun b k hb _=>let ⟨e,a',w',q,r⟩:=h b k cs (by rw[hb];simp);⟨e,a',cs,w',q,r⟩
def nZ {f:FuncId}{fn:Func}{c:Code}{args:Array Value}{w:World}{R:Ending->World->Prop}
  (hf:P.funcs[f]? = some fn) (hb:fn.body=some c)
  (h:ju P c (bodyPostD P fn R) { tmps:=args++Array.replicate (fn.ntmps-args.size) undef,defers:=[] } w):Calls P f args w R:=by
 intro cs
 let b:Frame:={ (default:Frame) with fn:=f,kind:=.normal }
 have henter:Frame.enter P f args .normal =
   b.at { tmps:=args++Array.replicate (fn.ntmps-args.size) undef,defers:=[] } [.code c]:=by
  simp[Frame.enter,Frame.at,hf,hb,b]
 obtain⟨e,a',w',hq,harr⟩:=h b [] cs (by simp[b])
 rw[<- henter]at harr
 cases e with
 | normal =>
  obtain⟨e',w'',fr',hR,hs,hfn,hl⟩:=leaves_steps a'.defers .returning w' { b.at a' [] with mode:=.returning } cs rfl rfl rfl hf rfl hq
  exact⟨e',w'',fr',hR,Comes.of_steps (Steps.trans harr (.one step_end)) hs,hfn,hl⟩
 | ret =>
  obtain⟨todo,hs₀⟩:=harr
  obtain⟨e',w'',fr',hR,hs,hfn,hl⟩:=leaves_steps a'.defers .returning w' { b.at a' todo with mode:=.returning } cs rfl rfl rfl hf rfl hq
  exact⟨e',w'',fr',hR,Comes.of_steps hs₀ hs,hfn,hl⟩
 | panic chain =>
  obtain⟨todo,hs₀⟩:=harr
  obtain⟨e',w'',fr',hR,hs,hfn,hl⟩:=leaves_steps a'.defers (.panicking chain) w' { b.at a' todo with mode:=.panicking chain } cs rfl rfl rfl hf rfl hq
  exact⟨e',w'',fr',hR,Comes.of_steps hs₀ hs,hfn,hl⟩
 | exit id=>exact hq.elim
 | goto l=>exact hq.elim
 | outgrown=>exact⟨.outgrown,w',b,hq,harr.resolve_left (by simp[b]),rfl,trivial⟩
end
def tK {Y:Names}{D:Nat->Prop}{w:World}{N:Nat}{args:List V}{cargs:Array Value}(hn:args.length=cargs.size)(hle:args.length<=N)(his:∀(i:Nat) (u:V) (cv:Value),args[i]? = some u->cargs[i]? = some cv->Is Y D w u cv) :
  EnvAt [] Y D w N (eW args) { tmps:=cargs++Array.replicate (N-cargs.size) undef,defers:=[] }:=by
 refine⟨by simp;omega,rfl,fun t ht=>?_⟩
 simp only[eW,Array.getD_eq_getD_getElem?]
 by_cases hlt:t<args.length
 ·rw[Array.getElem?_append_left (by omega),List.getElem?_eq_getElem hlt,Array.getElem?_eq_getElem (show t<cargs.size by omega)]
  exact his t _ _ (List.getElem?_eq_getElem hlt) (Array.getElem?_eq_getElem (by omega))
 ·rw[List.getElem?_eq_none (by omega)]
  exact .any _
def Hc:FrameMode->Option (Value×FrameMode)
 | .returning=>some (.nilIface,.returning)
 | .panicking [{ v,recovered:=false,goexit:=false }]=>some (v,.panicking [{ v,recovered:=true }])
 | _=>none
def Dm {u u2:FrameMode}{v:Value}(h:Hc u=some (v,u2)):settle u2 = .returning:=by
 unfold Hc at h
 split at h
 ·cases h;rfl
 ·cases h;rfl
 ·cases h
def Of {u u2:FrameMode}{v:Value}(h:Hc u=some (v,u2))(c₀:Frame)(cs:List Frame)(hu:c₀.mode=u) :
  (u = .returning/\v = .nilIface/\recoverD (c₀::cs)=none/\c₀ = { c₀ with mode:=u2 })\/recoverD (c₀::cs)=some (v,{ c₀ with mode:=u2 } :: cs):=by
 subst hu
 unfold Hc at h
 split at h
 ·rename_i hm
  cases h
  refine .inl ⟨hm,rfl,?_,?_⟩
  ·simp only[recoverD,hm]
  ·rw[<- hm]
 ·rename_i v' hm
  cases h
  refine .inr ?_
  simp only[recoverD,hm]
 ·cases h
structure Clo (P:Program) (g:FuncId) (N t2 t3:Nat) (rest:Code):Prop where
 fn:∃ fnc i o1 o2,P.funcs[g]? = some fnc/\fnc.body=some (.seq (.region i #[o1,o2] false) rest)/\fnc.ntmps=N/\fnc.results = #[]/\t2<N/\t3<N /\
  (∃ ats ty pos af,o1=⟨some t3,.call ⟨.builtin .recover,#[],ats⟩,ty,pos,af,none⟩) /\ ∃ ty pos af,o2=⟨some t2,.assign (.tmp t3),ty,pos,af,none⟩
variable {cx:Cx} {X:Nat->Prop} {w0:World} {I:Nat->Prop} {Y:Names} {M:am} {w:World}
def FE (hD:cx.D=[])(hm:cx.P.follows .mixedOrders=true){g N t2 t3:Nat}{rest:Code}(hc:Clo cx.P g N t2 t3 rest)(hin:de N rest=true){n:Nat}(hr:Rel cx.G X w0 I Y M w)(hfree:∀ x,n<=x->M x=none/\Y x=none){caps:List V}{ccaps:Array Value}(hn:caps.length=ccaps.size)(hle:caps.length<=N)
  (his:∀(i:Nat) (u:V) (cv:Value),caps[i]? = some u->ccaps[i]? = some cv->Is Y (bH X Y M) w u cv) {u u2:FrameMode} {r:V} {cr:Value} (hrec:Hc u=some (cr,u2)) (hri:Is Y (bH X Y M) w r cr) (K:Nat->am->Prop)
  (hvc:go cx ⟨n,fun x n' _ M'=>x = .normal/\K n' M'⟩ [] n (((eW caps).put t3 r).put t2 r) M rest) :
  CallsD cx.P g ccaps u w fun e u' w'=>(∃ v,e = .returned v)/\u'=u2 /\ ∃ n' Y' M',K n' M'/\n<=n'/\Rel cx.G X w0 I Y' M' w'/\(∀ x,n'<=x->M' x=none/\Y' x=none)/\(∀ x l,Y x=some l->Y' x=some l) /\ ∀ x,x<n->Y' x=Y x:=by
 obtain⟨fnc,i,o1,o2,hf,hb,rfl,hres,ht2,ht3,⟨ats,ty,pos,af,rfl⟩,ty2,pos2,af2,rfl⟩:=hc.fn
 refine callsD_of_wpS hf hb fun c₀ cs hu=>?_
 have henv:=((tK hn hle his).put (some t3) (fun t h=>by cases h;exact ht3) hri).put (some t2) (fun t h=>by cases h;exact ht2) hri
 have hbody:rest.wpS cx.P (bodyPostS cx.P fnc c₀ cs fun e u' w'=>(∃ v,e = .returned v)/\u'=u2 /\ ∃ n' Y' M',K n' M'/\n<=n'/\Rel cx.G X w0 I Y' M' w'/\(∀ x,n'<=x->M' x=none/\Y' x=none)/\(∀ x l,Y x=some l->Y' x=some l) /\ ∀ x,x<n->Y' x=Y x)
   ((({ tmps:=ccaps++Array.replicate (fnc.ntmps-ccaps.size) undef,defers:=[] } : Act).put (some t3) cr).put (some t2) cr) ({ c₀ with mode:=u2 } :: cs) w:=by
  refine DU ?_
  have hl:Lies cx fnc.ntmps X w0 I Y n n (((eW caps).put t3 r).put t2 r) M Y ((({ tmps:=ccaps++Array.replicate (fnc.ntmps-ccaps.size) undef,defers:=[] } : Act).put (some t3) cr).put (some t2) cr) w :=
   ⟨hr,by rw[hD];exact henv,hfree,fun _ _ h=>h,Nat.le_refl _,fun _ _=>rfl,fun x hx=>(hfree x hx).2⟩
  refine ju.mono (dA hm rest _ n _ M Y _ w hin hl hvc) ?_
  rintro x a' w' ⟨n',e',M',Y',h',hq⟩
  have done:K n' M'->a'.defers=[] /\ ∃ u',({ c₀ with mode:=u2 } :: cs:List Frame) = { c₀ with mode:=u' } :: cs /\ ∃ v,(results fnc a'.tmps).run cx.P w' = .ok v w'/\((∃ v',Ending.returned v = .returned v')/\u'=u2 /\ ∃ n' Y' M',K n' M'/\n<=n'/\Rel cx.G X w0 I Y' M' w'/\(∀ x,n'<=x->M' x=none/\Y' x=none)/\(∀ x l,Y x=some l->Y' x=some l) /\ ∀ x,x<n->Y' x=Y x):=fun hk =>
   ⟨h'.env.defers.trans hD,u2,rfl,.tuple #[],by simp[results,hres],⟨_,rfl⟩,rfl,n',Y',M',hk,h'.base,h'.rel,h'.free,h'.names,h'.low⟩
  cases x with
  | normal=>exact done hq.2
  | exit id=>obtain⟨h,_⟩:=hq;cases h
  | ret=>obtain⟨h,_⟩:=hq;cases h
  | goto l=>exact hq.elim
  | panic ch=>obtain⟨_,_,_,_,h,_⟩:=hq;cases h
  | outgrown=>exact hq.elim
 have hsz:t3<ccaps.size+(fnc.ntmps-ccaps.size):=by omega
 refine wpS_seq (wpS_region ?_)
 rcases Of hrec c₀ cs hu with ⟨_,rfl,h1,h2⟩|h1
 ·rw[<- h2]at hbody
  simp[wpOpsS,go_sem,h1,Region.wanted,Exit.thenS,List.range,List.range.loop]
  rw[if_pos hsz]
  exact hbody
 ·simp[wpOpsS,go_sem,h1,Region.wanted,Exit.thenS,List.range,List.range.loop]
  rw[if_pos hsz]
  exact hbody
def uf (c1 c2 y1 y2:Nat):Env:=fun t=>if t=c1 then .ptr y1 0 0 else if t=c2 then .ptr y2 0 0 else .any
def Pz (cx:Cx)(fn:Func)(nm:Nat)(M:am)(v:V)(eff:List (Nat×Option Blk))(b0 c1 c2 y1 y2 t2 t3:Nat)(restc:Code)(u:V)(n':Nat)(e':Env)(M':am):Prop :=
 e' c1 = .ptr y1 0 0/\e' c2 = .ptr y2 0 0/\go cx ⟨n',fun x n2 _ M2=>x = .normal/\po cx fn.ntmps fn.results.toList nm M v eff b0 n2 (uf c1 c2 y1 y2) M2⟩ [] n' (((eW [.ptr y1 0 0,.ptr y2 0 0]).put t3 u).put t2 u) M' restc
def PA (cx:Cx)(fn:Func)(nm:Nat)(M:am)(v:V)(eff:List (Nat×Option Blk))(b0 c1 c2 y1 y2 t2 t3:Nat)(restc:Code):Ex->Nat->Env->am->Prop
 | .exit _=>fun _ _ _=>False
 | .normal | .ret=>Pz cx fn nm M v eff b0 c1 c2 y1 y2 t2 t3 restc (.val .nilIface)
 | .panic u=>Pz cx fn nm M v eff b0 c1 c2 y1 y2 t2 t3 restc u
def PB (cx:Cx)(fn:Func)(nm:Nat)(M:am)(v:V)(eff:List (Nat×Option Blk))(b0 c1 c2 t t2 t3:Nat)(rest restc:Code):Ex->Nat->Env->am->Prop:=fun x n e M1 =>
 x = .normal /\ ∃ y1 y2,e c1 = .ptr y1 0 0/\e c2 = .ptr y2 0 0 /\ ∀ D,go ⟨cx.P,cx.G,D⟩ ⟨n,PA cx fn nm M v eff b0 c1 c2 y1 y2 t2 t3 restc⟩ [] n (e.put t .any) M1 rest
def qg {Y Y2:Names}{D D2:Nat->Prop}{w w2:World}{y:Nat}{p:Value}(h:Is Y D w (.ptr y 0 0) p)(hn:∀ x l,Y x=some l->Y2 x=some l):Is Y2 D2 w2 (.ptr y 0 0) p:=by
 cases h with
 | ptr h=>exact .ptr (hn _ _ h)
def LO {P:Program}{i:Nat}{o1 o2:Oper}{t c1 c2 g:Nat}{a:Act}{w:World}{Q:Exit->Act->World->Prop}(ht:t<a.tmps.size)(h1:∃ ty pos af,o1=⟨some t,.makeFunc (.func g) #[] #[.tmp c1,.tmp c2],ty,pos,af,none⟩)(h2:∃ ats ty pos af,o2=⟨none,.defer ⟨.value (.tmp t),#[],ats⟩,ty,pos,af,none⟩)
  (h:Q .normal { a.put (some t) (.func (.func g) #[] #[a.eval (.tmp c1),a.eval (.tmp c2)]) with defers:=⟨.fn (.func g) #[a.eval (.tmp c1),a.eval (.tmp c2)],#[]⟩::a.defers } w):(Code.region i #[o1,o2] false).wp P Q a w:=by
 obtain⟨ty,pos,af,rfl⟩:=h1
 obtain⟨ats,ty2,pos2,af2,rfl⟩:=h2
 have hmf:∀(fn:Fn) (first cap:Array Value) (w:World),(Instr.makeFunc fn first cap).run P w = .ok (.func fn first cap) w:=fun _ _ _ _=>rfl
 refine wp_region ?_
 simp[wpOps,go_sem,Region.wanted,List.range,List.range.loop,hmf]
 refine .inl (.inl ?_)
 simpa [ht,Oper.upon,Act.put,Act.eval,Array.getD_eq_getD_getElem?] using h
def mO {cx:Cx}(hD:cx.D=[])(hm:cx.P.follows .mixedOrders=true){f:FuncId}{nm:Nat}{args:List V}{M:am}{v:V}{eff:List (Nat×Option Blk)}{fn:Func}{c0 rest restc:Code}{i1:Nat}{o1 o2:Oper}{g N t2 t3 t c1 c2:Nat}
  (hcall:∀ cargs w,(callFunc f cargs).run cx.P w = .ok (.enter f cargs) w) (hcallg:∀ cargs w,(callFunc g cargs).run cx.P w = .ok (.enter g cargs) w) (hf:cx.P.funcs[f]? = some fn) (hb:fn.body=some (.seq c0 (.seq (.region i1 #[o1,o2] false) rest)))
  (ho1:∃ ty pos af,o1=⟨some t,.makeFunc (.func g) #[] #[.tmp c1,.tmp c2],ty,pos,af,none⟩) (ho2:∃ ats ty pos af,o2=⟨none,.defer ⟨.value (.tmp t),#[],ats⟩,ty,pos,af,none⟩)
  (hc:Clo cx.P g N t2 t3 restc) (hinc:de N restc=true) (hin0:de fn.ntmps c0=true) (hin1:de fn.ntmps rest=true) (hle:(decide (args.length<=fn.ntmps)&&decide (2<=N)&&decide (t<fn.ntmps)&&decide (c1<fn.ntmps)&&decide (c2<fn.ntmps))=true)
  (hvc:∀ b0,(∀ x,b0<=x->M x=none)->go cx ⟨b0,PB cx fn nm M v eff b0 c1 c2 t t2 t3 rest restc⟩ [] b0 (eW args) M c0):Ev cx f nm args M v eff:=by
 simp only[Bool.and_eq_true,decide_eq_true_eq]at hle
 obtain⟨⟨⟨⟨hle,hN⟩,ht⟩,hc1⟩,hc2⟩:=hle
 refine⟨trivial,fun X w Y cargs B hrel hfr hB hlen his=>?_⟩
 have hstart:Lies cx fn.ntmps X w (bG Y M) Y B B (eW args) M Y { tmps:=cargs++Array.replicate (fn.ntmps-cargs.size) undef,defers:=[] } w :=
  ⟨hrel,by rw[hD];exact tK hlen hle his,hB,fun _ _ h=>h,Nat.le_refl _,fun _ _=>rfl,fun x hx=>(hB x hx).2⟩
 refine .inl ⟨hcall _ _,?_⟩
 refine nZ hf hb (ju.seq (ju.mono (dA hm c0 _ B (eW args) M Y _ w hin0 hstart (hvc B (fun x hx=>(hB x hx).1))) ?_))
 rintro x a w1 ⟨n,e,M1,Y1,h1,hq⟩
 cases x with
 | exit id=>cases hq.1
 | ret=>cases hq.1
 | goto l=>exact hq.elim
 | panic ch=>obtain⟨_,_,_,_,h,_⟩:=hq;cases h
 | outgrown=>exact hq.elim
 | normal =>
 obtain⟨_,y1,y2,he1,he2,hrest⟩:=hq
 have hv1:=h1.env.is c1 hc1
 have hv2:=h1.env.is c2 hc2
 rw[he1]at hv1
 rw[he2]at hv2
 have hda:a.defers=[]:=h1.env.defers.trans hD
 refine ju.seq (ju.of (LO (by rw[h1.env.size];exact ht) ho1 ho2 ?_))
 rw[hda]
 have e1:a.eval (.tmp c1)=a.tmps.getD c1 undef:=rfl
 have e2:a.eval (.tmp c2)=a.tmps.getD c2 undef:=rfl
 rw[e1,e2]
 generalize hp1:a.tmps.getD c1 undef=p1 at hv1
 generalize hp2:a.tmps.getD c2 undef=p2 at hv2
 show ju cx.P rest _ _ w1
 have hl2:Lies ⟨cx.P,cx.G,[⟨.fn (.func g) #[p1,p2],#[]⟩]⟩ fn.ntmps X w (bG Y M) Y1 n n (e.put t .any) M1 Y1 { a.put (some t) (.func (.func g) #[] #[p1,p2]) with defers:=[⟨.fn (.func g) #[p1,p2],#[]⟩] } w1:=by
  have:=h1.env.put (some t) (fun x h=>by cases h;exact ht) (.any (.func (.func g) #[] #[p1,p2]))
  exact⟨h1.rel,⟨this.size,rfl,this.is⟩,h1.free,fun _ _ h=>h,Nat.le_refl _,fun _ _=>rfl,fun x hx=>(h1.free x hx).2⟩
 refine ju.mono (dA (cx:=⟨cx.P,cx.G,[⟨.fn (.func g) #[p1,p2],#[]⟩]⟩) hm rest _ n _ M1 Y1 _ w1 hin1 hl2 (hrest _)) ?_
 have key:∀(u:FrameMode) (r:V) (cr:Value) (u2:FrameMode) (n':Nat) (e':Env) (M':am) (Y':Names) (a':Act) (w2:World),u ≠ .run->Hc u=some (cr,u2)->Lies ⟨cx.P,cx.G,[⟨.fn (.func g) #[p1,p2],#[]⟩]⟩ fn.ntmps X w (bG Y M) Y1 n n' e' M' Y' a' w2->Is Y' (bH X Y' M') w2 r cr->Pz cx fn nm M v eff B c1 c2 y1 y2 t2 t3 restc r n' e' M' ->
   Leaves cx.P fn a'.tmps (fun e w'=>∃ cv,e = .returned cv/\eB cx.G X w (bG Y M) Y M w nm v (M.app eff) cv w') a'.defers u w2:=by
  intro u r cr u2 n' e' M' Y' a' w2 hu hrec h' hri hcl
  obtain⟨k1,k2,hgo⟩:=hcl
  have hd:a'.defers=[⟨.fn (.func g) #[p1,p2],#[]⟩]:=h'.env.defers
  rw[hd]
  refine leaves_cons (f:=g) (args:=#[p1,p2]) hu (by simp[invoke,hcallg]) ?_
  refine(FE (n:=n') hD hm hc hinc h'.rel h'.free (caps:=[.ptr y1 0 0,.ptr y2 0 0]) (ccaps:=#[p1,p2]) rfl hN ?_ hrec hri (fun n2 M2=>po cx fn.ntmps fn.results.toList nm M v eff B n2 (uf c1 c2 y1 y2) M2) hgo).mono ?_
  ·intro i u' cv hi hcv
   match i,hi,hcv with
   | 0,hi,hcv=>cases hi;cases hcv;exact qg hv1 h'.names
   | 1,hi,hcv=>cases hi;cases hcv;exact qg hv2 h'.names
  ·rintro ee u' w3 ⟨⟨v',rfl⟩,rfl,n2,Y2,M2,⟨gs,hfin⟩,g1,g2,g3,g4,g5⟩
   show Leaves _ _ _ _ [] (settle _) w3
   rw[Dm hrec]
   have q1:=h'.env.is c1 hc1
   have q2:=h'.env.is c2 hc2
   rw[k1]at q1
   rw[k2]at q2
   have hl3:Lies cx fn.ntmps X w (bG Y M) Y B n2 (uf c1 c2 y1 y2) M2 Y2 { a' with defers:=[] } w3:=by
    refine⟨g2,⟨h'.env.size,hD.symm,fun x hx=>?_⟩,g3,fun x l h=>g4 x l (h'.names x l (h1.names x l h)),Nat.le_trans h1.base (Nat.le_trans h'.base g1),fun x hx=>?_,fun x hx=>(hB x hx).2⟩
    ·unfold uf
     split
     ·rename_i e;subst e
      exact qg q1 g4
     ·split
      ·rename_i e;subst e
       exact qg q2 g4
      ·exact .any _
    ·have l1:=h1.base
     have l2:=h'.base
     rw[g5 x (by omega),h'.low x (by omega),h1.low x hx]
   have hl4:=hl3.ghosts gs
   obtain⟨cv,r1,r2⟩:=rq hl4.rel hl4.env fn hfin.1
   exact⟨cv,r1,cv,rfl,qK hrel hfr hB hl4 hfin r2⟩
 rintro x a' w2 ⟨n',e',M',Y',h',hq⟩
 cases x with
 | normal=>exact key .returning _ _ _ n' e' M' Y' a' w2 (by simp) rfl h' (.val _) hq
 | ret=>exact key .returning _ _ _ n' e' M' Y' a' w2 (by simp) rfl h' (.val _) hq
 | exit id=>exact hq.elim
 | goto l=>exact hq.elim
 | outgrown=>exact hq.elim
 | panic ch =>
  obtain⟨u,cu,rfl,hiu,hq⟩:=hq
  exact key (.panicking [{ v:=cu,recovered:=false }]) u cu _ n' e' M' Y' a' w2 (by simp) rfl h' hiu hq
section
variable {cx:Cx} {fn:Func} {nm:Nat} {M:am} {v:V} {eff:List (Nat×Option Blk)} {b0 c1 c2 y1 y2 t2 t3:Nat} {restc:Code} {n':Nat} {e':Env} {M':am}
def pE (h1:e' c1 = .ptr y1 0 0)(h2:e' c2 = .ptr y2 0 0)(h3:go cx ⟨n',fun x n2 _ M2=>x = .normal/\po cx fn.ntmps fn.results.toList nm M v eff b0 n2 (uf c1 c2 y1 y2) M2⟩ [] n' (((eW [.ptr y1 0 0,.ptr y2 0 0]).put t3 (.val .nilIface)).put t2 (.val .nilIface)) M' restc):PA cx fn nm M v eff b0 c1 c2 y1 y2 t2 t3 restc .ret n' e' M':=⟨h1,h2,h3⟩
def tD {u:V}(h1:e' c1 = .ptr y1 0 0)(h2:e' c2 = .ptr y2 0 0)(h3:go cx ⟨n',fun x n2 _ M2=>x = .normal/\po cx fn.ntmps fn.results.toList nm M v eff b0 n2 (uf c1 c2 y1 y2) M2⟩ [] n' (((eW [.ptr y1 0 0,.ptr y2 0 0]).put t3 u).put t2 u) M' restc):PA cx fn nm M v eff b0 c1 c2 y1 y2 t2 t3 restc (.panic u) n' e' M':=⟨h1,h2,h3⟩
end
def lH (c1 c2 y1 y2 x:Nat):uf c1 c2 y1 y2 x=if x=c1 then .ptr y1 0 0 else if x=c2 then .ptr y2 0 0 else .any:=rfl
def pF (M:am):V->V->Prop
 | .own nm lo n,.sl false sz rows=>sz=dP M nm/\gR (gk [] M (((bl M nm).drop lo).take n)) rows
 | u,v=>u.fin [] M=v
def n0 (M:am):V->Prop
 | .own nm lo n=>(M nm).isSome=true/\lo+n<=(bl M nm).length/\fh [] M (((bl M nm).drop lo).take n)
 | u=>u.finOk [] M
def oq (M:am):List V->List V->Prop
 | [],[]=>True
 | u::l,v::r=>pF M u v/\oq M l r
 | _,_=>False
def ot (M:am):List V->Prop
 | []=>True
 | u::l=>n0 M u/\ot M l
def FI (M:am):oq M [] []=True:=rfl
def B5 (M:am)(u v:V)(l r:List V):oq M (u::l) (v::r)=(pF M u v/\oq M l r):=rfl
def FJ (M:am):ot M []=True:=rfl
def B6 (M:am)(u:V)(l:List V):ot M (u::l)=(n0 M u/\ot M l):=rfl
def IB (M:am)(nm lo n sz:Nat)(rows:List (List V)):pF M (.own nm lo n) (.sl false sz rows)=(sz=dP M nm/\gR (gk [] M (((bl M nm).drop lo).take n)) rows):=rfl
def ID (M:am)(nm lo n:Nat):n0 M (.own nm lo n)=((M nm).isSome=true/\lo+n<=(bl M nm).length/\fh [] M (((bl M nm).drop lo).take n)):=rfl
def IC (M:am)(s t:List UInt8):pF M (.str s) (.str t)=(s=t):=propext ⟨fun h=>by cases h;rfl,fun h=>by rw[h];rfl⟩
def IE (M:am)(s:List UInt8):n0 M (.str s)=True:=eq_true (by simp only[n0,V.finOk])
def v4 {M:am} : ∀ {l r:List V},oq M l r->l.length=r.length /\ ∀(i:Nat) (v:V),r[i]? = some v -> ∃ u,l[i]? = some u/\pF M u v
 | [],[],_=>⟨rfl,fun i v h=>by simp at h⟩
 | u::l,v::r,h=>by
  obtain⟨h1,h2⟩:=h
  obtain⟨e1,e2⟩:=v4 h2
  refine⟨by simp[e1],fun i x hx=>?_⟩
  cases i with
  | zero=>simp at hx;subst hx;exact⟨u,rfl,h1⟩
  | succ i=>exact e2 i x (by simpa using hx)
 | [],_::_,h=>h.elim
 | _::_,[],h=>h.elim
def v5 {M:am} : ∀ {l:List V},ot M l -> ∀(i:Nat) (u:V),l[i]? = some u->n0 M u
 | [],_,i,u,h=>by simp at h
 | a::l,h,i,u,hi=>by
  cases i with
  | zero=>simp at hi;subst hi;exact h.1
  | succ i=>exact v5 h.2 i u (by simpa using hi)
variable {cx:Cx}
def KH {X:Nat->Prop}{w0:World}{I:Nat->Prop}{Y:Names}{M:am}{w:World}(h:Rel cx.G X w0 I Y M w){D':Nat->Prop}(hdom:∀ b,D' b->bH X Y M b)(hout:∀ nm l,(M nm).isSome=true->Y nm=some l -> ¬ D' l.b){nm lo n:Nat}{cv:Value}(hv:Is Y (bH X Y M) w (.own nm lo n) cv)(hok:n0 M (.own nm lo n)){rows:List (List V)}(hle:gR (gk [] M (((bl M nm).drop lo).take n)) rows):Is Y D' w (.sl false (dP M nm) rows) cv:=by
  obtain⟨hM,hlen0,hfo⟩:=hok
  obtain⟨k,hk⟩:=Option.isSome_iff_exists.1 hM
  have hro:bl M nm=k.rows:=by rw[bl,hk]
  have hsz:dP M nm=k.sz:=by rw[dP,hk]
  rw[hro]at hlen0 hfo hle
  rw[hsz]
  obtain⟨f1,f2⟩:=m9 hle
  have hlen:rows.length=n:=by rw[<- f1];simp[gk];omega
  cases hv with
  | own0 =>
    obtain rfl:=List.eq_nil_of_length_eq_zero hlen
    exact .sl0 (fun h=>by cases h)
  | own hl hlc hnc =>
    rename_i c l
    have hbl:=h.block_lt hM hl
    rcases Nat.eq_zero_or_pos n with rfl|hpos
    · obtain rfl:=List.eq_nil_of_length_eq_zero hlen
      exact .sl0 (fun h=>by cases h)
    rcases h.live nm k hk with ⟨_,a2⟩|⟨l2,a1,_,_,⟨cs,e,_,a4,a5,a6,a7,a8,a9⟩|⟨_,_,_,_,_,_,_,_,_,a4,_⟩⟩
    rotate_right
    · rw[a4]at hlen0;simp at hlen0;omega
    · rw[hl]at a2;cases a2
    · rw [hl]at a1;cases a1
      have hg:∀(i:Nat) (row:List V),((k.rows.drop lo).take n)[i]? = some row->k.rows[lo+i]? = some row:=fun i row hi=>by
        rw[List.getElem?_take]at hi
        split at hi
        · rwa[List.getElem?_drop]at hi
        · cases hi
      have hrow:∀(i:Nat) (row:List V),rows[i]? = some row -> ∃ r0,((k.rows.drop lo).take n)[i]? = some r0/\leL (finL [] M r0) row:=fun i row hi=>by
        obtain⟨x,q1,q2⟩:=f2 i row hi
        unfold gk at q1
        rw[List.getElem?_map]at q1
        obtain⟨r0,q3,rfl⟩:=Option.map_eq_some_iff.1 q1
        exact⟨r0,q3,q2⟩
      have hcell:∀(i j:Nat) (row:List V) (u:V),rows[i]? = some row->row[j]? = some u -> ∃ c,w.cell? ⟨l.b,l.o+lo*l.sz+i*l.sz+j,none⟩=some c/\Is Y D' w u c:=fun i j row u hi hj=>by
        obtain⟨r0,q1,q2⟩:=hrow i row hi
        obtain⟨v,q4,q5⟩:=(gK q2).2 j u hj
        rw[fu]at q4
        obtain⟨v',q6,rfl⟩:=Option.map_eq_some_iff.1 q4
        obtain⟨c',c1,c2⟩:=a9 _ j r0 v' (hg i r0 q1) q6
        refine⟨c',?_,?_⟩
        · rw[cell_of_row w l.b _ cs e _ a4,<- c1]
          congr 1
          rw[Nat.add_mul];omega
        · exact(lE (cx:=cx) h (fun nm y hy=>by simp[aT]at hy) hdom (fun nm l _ hM hl=>hout nm l hM hl) c2 (dG (hfo r0 (List.mem_of_getElem? q1)) q6)).le u q5
      have:=Is.sl (Y:=Y) (D:=D') (w:=w) (t:=false) (sz:=k.sz) (rows:=rows) (b:=l.b) (o:=l.o+lo*l.sz) (c:=c) (fun i j=>(w.cell? ⟨l.b,l.o+lo*l.sz+i*l.sz+j,none⟩).getD undef) (by rw[hlen];exact hnc) (fun h=>by cases h) (hout nm l hM hl) hbl.1
        (fun i row hi=>by
          obtain⟨r0,q1,q2⟩:=hrow i row hi
          rw[<-(gK q2).1,df,a5];exact a8 _ r0 (hg i r0 q1)) (fun i j row u hi hj=>by
          obtain⟨c',c1,_⟩:=hcell i j row u hi hj
          rw[a5,c1];rfl) (fun i j row u hi hj=>by
          obtain⟨c',c1,c2⟩:=hcell i j row u hi hj
          rw[c1]
          exact c2)
      rwa[hlen]at this
def Rg {X:Nat->Prop}{w0:World}{I:Nat->Prop}{Y:Names}{M:am}{w:World}(h:Rel cx.G X w0 I Y M w){D':Nat->Prop}(hdom:∀ b,D' b->bH X Y M b)(hout:∀ nm l,(M nm).isSome=true->Y nm=some l -> ¬ D' l.b){u v:V}{cv:Value}(hv:Is Y (bH X Y M) w u cv)(hok:n0 M u)(hle:pF M u v):Is Y D' w v cv:=by
 unfold pF at hle
 split at hle
 ·obtain⟨rfl,h2⟩:=hle
  exact KH h hdom hout hv hok h2
 ·rename_i h1
  subst hle
  have hok':u.finOk [] M:=by
   unfold n0 at hok
   split at hok
   ·rename_i nm lo n
    exfalso
    exact h1 nm lo n _ _ rfl (by simp only[V.fin,ec];rfl)
   ·exact hok
  exact lE (cx:=cx) h (fun nm y hy=>by simp[aT]at hy) hdom (fun nm l _ hM hl=>hout nm l hM hl) hv hok'
def Ev.viewD {f:FuncId}{nm:Nat}{args as':List V}{M:am}{v:V}(h:Ev cx f nm as' am.nil v [])(hle:oq M args as')(hok:ot M args)(hv:v.flat=true):Ev cx f nm args M v []:=by
  refine⟨h.1,fun X w Y cargs B hr hfresh hB hn hargs=>?_⟩
  obtain⟨q1,q2⟩:=v4 hle
  have hdom:∀ b,bH X Y am.nil b->bH X Y M b:=by
    rintro b (hx|⟨nm,l,h1,_⟩)
    · exact .inl hx
    · simp[am.nil]at h1
  have hr0:Rel cx.G X w (bG Y am.nil) Y am.nil w :=
    { size:=Nat.le_refl _,os:=rfl,tape:=rfl,output:=rfl,old:=fun _ _ _=>rfl
      live:=fun nm k hk=>by simp[am.nil]at hk
      inj:=fun nm nm' l l' h1=>by simp[am.nil]at h1
      hX:=fun b hb=>⟨(hr.hX b hb).1,by rintro ⟨nm,q,h1,_⟩;simp[am.nil]at h1⟩
      glob:=fun g=>(hr.glob g).step (fun _ _ h=>h) (Nat.le_refl _) (fun _ _ _=>rfl) (fun b _ hb=>hdom b hb) }
  refine(h.2 X w Y cargs B hr0 hfresh (fun x hx=>⟨rfl,(hB x hx).2⟩) (by omega) ?_).mono ?_
  · intro i u cv hi hc
    obtain⟨u',h1,h2⟩:=q2 i u hi
    refine Rg hr hdom (fun nm l hM hl=>?_) (hargs i u' cv h1 hc) (v5 hok i u' h1) h2
    rintro (hx|⟨nm',q,h2,_⟩)
    · exact(hr.block_lt hM hl).2.1 hx
    · simp[am.nil]at h2
  · rintro e' w' ⟨cv,rfl,Y',r,m,hvv,hn'⟩
    have hkept:∀ b,b<w.heap.size->w'.heap[b]? = w.heap[b]?:=fun b hb=>m.kept b hb (fun nm l h1=>by simp[am.nil]at h1)
    have mv:Moves Y M w Y M w':=⟨fun _ _ h=>h,m.size,m.os,m.tape,m.output,fun b hb _=>hkept b hb,fun nm l h1 h2 _=>⟨nm,l,h1,h2,rfl⟩⟩
    refine⟨cv,rfl,Y,?_,mv,hvv.flat hv,fun _ _=>rfl⟩
    exact hr.move mv hr.inj (fun nm k hk=>.inl ⟨hk,id,fun l hl=>hkept l.b (hr.block_lt (by rw[show M nm=some k from hk];rfl) hl).1⟩)
section
variable {Q:Post} {st:List Frm} {nm:Nat} {e:Env} {M:am}
def BN {d:Bool}{fs:List (List Nat)}{ops:List Oper}{dst:Option Tmp}{g:FuncId}{args:Array Operand}{ats:Array TypeId}{t:TypeId}{pos:String}{af:Array Edge}{r:List Oper}{i:Nat}{xs as':List V}
  (l:List Nat) (has:args.toList.map (aw cx.G true e)=xs) {v:V} (hev:Ev cx g (nm+16*i) as' am.nil v []) (hle:oq (M.only l) xs as') (hok:ot (M.only l) xs) (hv:v.flat=true) (h:aK cx Q st nm (e.putD dst v) M d (fs++[l]) ops r (i+1)):gc cx Q st nm e M d fs ops ⟨dst,.call ⟨.value (.func g),args,ats⟩,t,pos,af,none⟩ r i :=
 ac has l (Ev.viewD hev hle hok hv) (fun x hx=>by simp[ao]at hx) (by simpa [ao,am.app] using h)
end
def p0 (cx:Cx)(fn:Func)(nm:Nat)(M:am)(v:V)(eff:List (Nat×Option Blk))(b0:Nat):Code->Ex->Nat->Env->am->Prop
 | .seq c1 r1,.normal,n,e,M1=>∃ n' e' M',oG cx b0 n e M1 n' e' M'/\(go cx (vq cx fn nm M v eff b0) [] n' e' M' (.seq c1 r1)\/go cx ⟨b0,p0 cx fn nm M v eff b0 r1⟩ [] n' e' M' c1)
 | rest,.normal,n,e,M1=>∃ n' e' M',oG cx b0 n e M1 n' e' M'/\go cx (vq cx fn nm M v eff b0) [] n' e' M' rest
 | _,.ret,n,e,M1=>ma cx fn nm M v eff b0 .ret n e M1
 | _,_,_,_,_=>False
def JT (cx:Cx)(fn:Func)(nm:Nat)(M:am)(v:V)(eff:List (Nat×Option Blk))(b0:Nat)(c:Code)(n:Nat)(e:Env)(M1:am):p0 cx fn nm M v eff b0 c .ret n e M1=ma cx fn nm M v eff b0 .ret n e M1:=by
 cases c<;>rfl
def GI {cx:Cx}{fn:Func}{nm:Nat}{M:am}{v:V}{eff:List (Nat×Option Blk)}{b0:Nat}{c:Code}{n:Nat}{e:Env}{M1:am}{id:Nat} : ¬ p0 cx fn nm M v eff b0 c (.exit id) n e M1:=by
 cases c<;>exact fun h=>h
def JS {cx:Cx}{fn:Func}{nm:Nat}{M:am}{v:V}{eff:List (Nat×Option Blk)}{b0:Nat}{c:Code}{n:Nat}{e:Env}{M1:am}{u:V} : ¬ p0 cx fn nm M v eff b0 c (.panic u) n e M1:=by
 cases c<;>exact fun h=>h
def AE {cx:Cx}{fn:Func}{nm:Nat}{M:am}{v:V}{eff:List (Nat×Option Blk)}{b0:Nat}{rest:Code}{n:Nat}{e:Env}{M1:am}(n':Nat)(e':Env)(M':am)(hw:oG cx b0 n e M1 n' e' M')(h:go cx (vq cx fn nm M v eff b0) [] n' e' M' rest):p0 cx fn nm M v eff b0 rest .normal n e M1:=by
 cases rest<;>first|exact⟨n',e',M',hw,h⟩|exact⟨n',e',M',hw,.inl h⟩
def GJ {cx:Cx}(hm:cx.P.follows .mixedOrders=true){fn:Func}{nm:Nat}{M:am}{v:V}{eff:List (Nat×Option Blk)}{b0:Nat}{X:Nat->Prop}{w0:World}{I:Nat->Prop}{Y0:Names} : ∀(rest:Code) {n:Nat} {e:Env} {M1:am} {Y:Names} {a:Act} {w:World},de fn.ntmps rest=true->Lies cx fn.ntmps X w0 I Y0 b0 n e M1 Y a w->p0 cx fn nm M v eff b0 rest .normal n e M1 ->
  ju cx.P rest (DZ cx fn.ntmps X w0 I Y0 b0 (ma cx fn nm M v eff b0)) a w:=by
 intro rest
 have base:∀(rest:Code) {n:Nat} {e:Env} {M1:am} {Y:Names} {a:Act} {w:World},de fn.ntmps rest=true->Lies cx fn.ntmps X w0 I Y0 b0 n e M1 Y a w->(∃ n' e' M',oG cx b0 n e M1 n' e' M'/\go cx (vq cx fn nm M v eff b0) [] n' e' M' rest)->ju cx.P rest (DZ cx fn.ntmps X w0 I Y0 b0 (ma cx fn nm M v eff b0)) a w:=by
  rintro rest n e M1 Y a w hin hl ⟨n2,e2,M2,hw,hrest⟩
  obtain⟨Y2,h2⟩:=hw _ _ _ _ _ _ _ _ hl
  exact dA hm rest _ n2 e2 M2 Y2 _ w hin h2 hrest
 induction rest with
 | seq c1 r1 _ ih =>
  intro n e M1 Y a w hin hl hq
  obtain⟨n2,e2,M2,hw,hrest⟩:=hq
  rcases hrest with hrest|hrest
  ·exact base _ hin hl ⟨n2,e2,M2,hw,hrest⟩
  ·obtain⟨Y2,h2⟩:=hw _ _ _ _ _ _ _ _ hl
   simp only[de,Bool.and_eq_true]at hin
   refine ju.seq (ju.mono (dA hm c1 _ n2 e2 M2 Y2 _ w hin.1 h2 hrest) ?_)
   rintro x a w1 ⟨n,e,M1,Y1,h1,hq⟩
   cases x with
   | exit id=>exact(GI hq).elim
   | ret=>exact⟨n,e,M1,Y1,h1,by simp only[j0]at hq;rw[JT]at hq;exact hq⟩
   | goto l=>exact hq.elim
   | panic ch=>obtain⟨_,_,_,_,h⟩:=hq;exact(JS h).elim
   | outgrown=>exact hq.elim
   | normal=>exact ih hin.2 h1 hq
 | _=>intro n e M1 Y a w hin hl hq;exact base _ hin hl hq
def lC {cx:Cx}(hD:cx.D=[]){f:FuncId}{nm:Nat}{args:List V}{M:am}{v:V}{eff:List (Nat×Option Blk)}{fn:Func}{c0 rest:Code}
  (hcall:∀ cargs w,(callFunc f cargs).run cx.P w = .ok (.enter f cargs) w) (hf:cx.P.funcs[f]? = some fn) (hb:fn.body=some (.seq c0 rest)) (hm:cx.P.follows .mixedOrders=true) (hin:de fn.ntmps (.seq c0 rest)=true) (hargs:decide (args.length<=fn.ntmps)=true)
  (hvc:∀ b0,(∀ x,b0<=x->M x=none)->go cx ⟨b0,p0 cx fn nm M v eff b0 rest⟩ [] b0 (eW args) M c0):Ev cx f nm args M v eff:=by
 have hargs:=of_decide_eq_true hargs
 refine⟨trivial,fun X w Y cargs B hrel hfr hB hlen his=>?_⟩
 have hstart:Lies cx fn.ntmps X w (bG Y M) Y B B (eW args) M Y { tmps:=cargs++Array.replicate (fn.ntmps-cargs.size) undef,defers:=[] } w :=
  ⟨hrel,by rw[hD];exact tK hlen hargs his,hB,fun _ _ h=>h,Nat.le_refl _,fun _ _=>rfl,fun x hx=>(hB x hx).2⟩
 refine .inl ⟨hcall _ _,?_⟩
 have hmid:p0 cx fn nm M v eff B (.seq c0 rest) .normal B (eW args) M:=⟨B,_,M,oG.refl _ _ _ _ _,.inr (hvc B (fun x hx=>(hB x hx).1))⟩
 refine lr hf hb (ju.mono (GJ hm _ hin hstart hmid) ?_)
 rintro x a w' ⟨n,e,M',Y',h',hq⟩
 have done:po cx fn.ntmps fn.results.toList nm M v eff B n e M'->a.defers=[] /\ ∃ cv,(results fn a.tmps).run cx.P w' = .ok cv w' /\ ∃ cv',Ending.returned cv = .returned cv'/\eB cx.G X w (bG Y M) Y M w nm v (M.app eff) cv' w':=fun ⟨gs,hfin⟩=>by
  have h':=h'.ghosts gs
  obtain⟨cv,h1,h2⟩:=rq h'.rel h'.env fn hfin.1
  exact⟨h'.env.defers.trans hD,cv,h1,cv,rfl,qK hrel hfr hB h' hfin h2⟩
 cases x<;>simp only[ma]at hq<;>try (exact hq.elim)
 case normal=>exact done hq
 case ret=>exact done hq
 case panic ch=>obtain⟨_,_,_,_,hf⟩:=hq;exact hf.elim
section
variable {cx:Cx} {fn:Func} {nm0:Nat} {M0:am} {v:V} {eff:List (Nat×Option Blk)} {b0:Nat} {rest c1 r1:Code} {nm:Nat} {e:Env} {M:am}
def ct (h:go cx ⟨b0,p0 cx fn nm0 M0 v eff b0 r1⟩ [] nm e M c1):p0 cx fn nm0 M0 v eff b0 (.seq c1 r1) .normal nm e M :=
 ⟨nm,e,M,oG.refl _ _ _ _ _,.inr h⟩
def ki (hG:∀ g,(cx.G g).plain=true)(nmS:Nat)(Es:List (Nat×V))(Ms:List (Nat×Blk))(src:List (Option Nat))(hb:b0<=nmS)
  (hME:kA (yy (eY (dv Ms src))) b0 nmS M (dv Ms src)/\mC M (eY (dv Ms src)) e Es) (h:go cx (vq cx fn nm0 M0 v eff b0) [] nmS (lB Es) (iI Ms) rest):p0 cx fn nm0 M0 v eff b0 rest .normal nm e M :=
 AE nmS (lB Es) (iI Ms) (u3 hG src hb hME.1 hME.2) h
def JU (hG:∀ g,(cx.G g).plain=true)(nmS:Nat)(Es:List (Nat×V))(Ms:List (Nat×Blk))(src:List (Option Nat))(hb:b0<=nmS)
  (hME:kA (zP (eY (dv Ms src)) M) b0 nmS M (dv Ms src)/\mC M (eY (dv Ms src)) e Es) (h:go cx (vq cx fn nm0 M0 v eff b0) [] nmS (lB Es) (iI Ms) rest):p0 cx fn nm0 M0 v eff b0 rest .normal nm e M :=
 AE nmS (lB Es) (iI Ms) (lh hG src (nP _ _) hb hME.1 hME.2) h
def jM (hG:∀ g,(cx.G g).plain=true)(nmS:Nat)(Es:List (Nat×V))(Ms:List (Nat×Blk))(src:List (Option Nat))(hb:b0<=nmS)
  (hME:kA (zP (eY (dv Ms src)) M) b0 nmS M (dv Ms src)/\mC M (eY (dv Ms src)) e Es) (h:go cx ⟨b0,p0 cx fn nm0 M0 v eff b0 r1⟩ [] nmS (lB Es) (iI Ms) c1):p0 cx fn nm0 M0 v eff b0 (.seq c1 r1) .normal nm e M :=
 ⟨nmS,lB Es,iI Ms,lh hG src (nP _ _) hb hME.1 hME.2,.inr h⟩
end
def Ev.lose {cx:Cx}{f:FuncId}{nm:Nat}{args:List V}{M:am}{v:V}{eff eff':List (Nat×Option Blk)}(h:Ev cx f nm (finL [] M args) am.nil v eff)(hok:finLOk [] M args)(he:M.app eff'=am.nil.app eff):Ev cx f nm args M v eff':=by
  refine⟨h.1,fun X w Y cargs B hr hfresh hB hn hargs=>?_⟩
  have hdom:∀ b,bH X Y am.nil b->bH X Y M b:=by
    rintro b (hx|⟨nm,l,h1,_⟩)
    · exact .inl hx
    · simp[am.nil]at h1
  have hr0:Rel cx.G X w (bG Y am.nil) Y am.nil w :=
    { size:=Nat.le_refl _,os:=rfl,tape:=rfl,output:=rfl,old:=fun _ _ _=>rfl
      live:=fun nm k hk=>by simp[am.nil]at hk
      inj:=fun nm nm' l l' h1=>by simp[am.nil]at h1
      hX:=fun b hb=>⟨(hr.hX b hb).1,by rintro ⟨nm,q,h1,_⟩;simp[am.nil]at h1⟩
      glob:=fun g=>(hr.glob g).step (fun _ _ h=>h) (Nat.le_refl _) (fun _ _ _=>rfl) (fun b _ hb=>hdom b hb) }
  refine(h.2 X w Y cargs B hr0 hfresh (fun x hx=>⟨rfl,(hB x hx).2⟩) (by rw[df];exact hn) ?_).mono ?_
  · intro i u cv hi hc
    rw[fu]at hi
    obtain⟨u',h1,rfl⟩:=Option.map_eq_some_iff.1 hi
    refine lE (cx:=cx) hr (fun nm y hy=>by simp[aT]at hy) hdom (fun nm l _ hM hl=>?_) (hargs i u' cv h1 hc) (dG hok h1)
    rintro (hx|⟨nm',q,h2,_⟩)
    · exact(hr.block_lt hM hl).2.1 hx
    · simp[am.nil]at h2
  · rintro e' w' ⟨cv,rfl,Y',r,m,hvv,hn'⟩
    have hkept:∀ b,b<w.heap.size->w'.heap[b]? = w.heap[b]?:=fun b hb=>m.kept b hb (fun nm l h1=>by simp[am.nil]at h1)
    rw[he]
    refine⟨cv,rfl,Y',⟨r.size,r.os,r.tape,r.output,fun b hb _=>hkept b hb,fun x k hx=>?_,r.inj,hr.hX,r.glob⟩,⟨m.names,m.size,m.os,m.tape,m.output,fun b hb _=>hkept b hb,fun x l h1 h2 h3=>?_⟩,hvv,hn'⟩
    · rcases r.live x k hx with h1|⟨l,h1,h2,h3⟩
      · exact .inl h1
      · refine .inr ⟨l,h1,?_,h3⟩
        rcases h2 with ⟨nm',q,c1,_⟩|h2
        · simp[am.nil]at c1
        · exact .inr h2
    · obtain⟨nm',l',c1,_⟩:=m.dom x l h1 h2 h3
      simp[am.nil]at c1
section
variable {cx:Cx} {Q:Post} {st:List Frm} {nm:Nat} {e:Env} {M:am}
end
def P1 (M M':am):Prop:=∀ x,match M x,M' x with
 | none,none=>True
 | some k,some k'=>rT k k'
 | _,_=>False
def kR {M M':am}(h:P1 M M')(x:Nat):(M' x).isSome=(M x).isSome:=by
 have:=h x
 cases h1:M x<;>cases h2:M' x<;>rw[h1,h2]at this<;>first|rfl|exact this.elim
def Rel.weaken {G:Nat->V}{X:Nat->Prop}{w0:World}{I:Nat->Prop}{Y:Names}{M M':am}{w:World}(h:Rel G X w0 I Y M w)(hle:P1 M M'):Rel G X w0 I Y M' w/\Moves Y M w Y M' w:=by
 have hD:bH X Y M'=bH X Y M:=by
  funext b
  unfold bH
  refine propext (or_congr Iff.rfl (exists_congr fun nm=>exists_congr fun l=>?_))
  rw[kR hle]
 refine⟨⟨h.size,h.os,h.tape,h.output,h.old,fun nm k hk=>?_,fun a b l l' h1 h2=>h.inj a b l l' (by rw[<- kR hle];exact h1) (by rw[<- kR hle];exact h2),h.hX,fun g=>by rw[hD];exact h.glob g⟩,fun _ _ h=>h,Nat.le_refl _,rfl,rfl,rfl,fun _ _ _=>rfl,fun nm l h1 h2 _=>⟨nm,l,by rw[<- kR hle];exact h1,h2,rfl⟩⟩
 have hx:=hle nm
 rw[hk]at hx
 cases hm:M nm with
 | none=>rw[hm]at hx;exact hx.elim
 | some k0 =>
  rw[hm]at hx
  simp only at hx
  rcases h.live nm k0 hm with ⟨h1,h2⟩|⟨l,h1,h2,h3,h4⟩
  ·left
   refine⟨?_,h2⟩
   have:=hx.2.2
   rw[h1]at this
   cases hr:k.rows with
   | nil=>rfl
   | cons a b=>rw[hr]at this;exact this.elim
  ·right
   refine⟨l,h1,h2,h3,?_⟩
   rw[hD]
   exact h4.le hx
def Ev.eff_le {cx:Cx}{f:FuncId}{nm:Nat}{args:List V}{M:am}{v:V}{eff eff':List (Nat×Option Blk)}(h:Ev cx f nm args M v eff)(hle:P1 (M.app eff) (M.app eff')):Ev cx f nm args M v eff':=by
 refine⟨h.1,fun X w Y cargs B hr hf hB hn hargs=>(h.2 X w Y cargs B hr hf hB hn hargs).mono ?_⟩
 rintro e w' ⟨cv,rfl,Y',r,m,hv,hnn⟩
 obtain⟨r1,m1⟩:=r.weaken hle
 exact⟨cv,rfl,Y',r1,m.trans m1,m1.is hv,hnn⟩
def Av (M:am):P1 M M:=fun x=>by
 cases M x with
 | none=>trivial
 | some k=>simp only;rw[uh];trivial
def NC {M M':am}(h:P1 M M')(x:Nat){k k':Blk}(hk:rT k k'):P1 (M.put x (some k)) (M'.put x (some k')):=fun y=>by
 by_cases e:y=x
 ·subst e;rw[am.put_same,am.put_same];exact hk
 ·rw[am.put_ne _ _ e,am.put_ne _ _ e];exact h y
def Ev.last_le {cx:Cx}{f:FuncId}{nm:Nat}{args:List V}{M:am}{v:V}{eff:List (Nat×Option Blk)}{x:Nat}{k k':Blk}(h:Ev cx f nm args M v (eff++[(x,some k)]))(hk:rT k k'):Ev cx f nm args M v (eff++[(x,some k')]):=by
 refine h.eff_le ?_
 have e:∀(eff:List (Nat×Option Blk)) (M:am) (k:Blk),M.app (eff++[(x,some k)])=(M.app eff).put x (some k):=by
  intro eff
  induction eff with
  | nil=>intro M k;rfl
  | cons p r ih=>intro M k;obtain⟨a,b⟩:=p;exact ih _ _
 rw[e,e]
 exact NC (Av _) x hk
section
variable {cx:Cx} {Q:Post} {st:List Frm} {nm:Nat} {e:Env} {M:am} {d:Bool} {fs:List (List Nat)} {ops r:List Oper} {dst:Option Tmp} {t:TypeId} {pos:String} {af:Array Edge} {gd:Option (Nat×Bool)} {i:Nat}
def pj {P:Program}{w:World}{ty xT:TypeId}{v:Value}{d:TypeDesc}(hu:P.underlying ty=some d)(hd:∀ ms,d ≠ .interface ms):(Instr.typeAssert (.iface ty v) xT ty false).run P w = .ok v w:=by
 cases d<;>first|exact absurd rfl (hd _)|simp[Instr.typeAssert,Sem.run_bind,run_underlying hu]
def DD (P:Program)(t:TypeId):Bool:=match P.underlying t with
 | some (.interface _)=>false
 | some _=>true
 | none=>false
def jA {ty xT:TypeId}{x:Operand}{u:V}(hx:aw cx.G true e x = .iface ty u)(ht:DD cx.P ty=true)
  (h:aK cx Q st nm (e.putD dst u) M d (fs++[[]]) ops r (i+1)):cp cx Q st nm e M d fs ops ⟨dst,.typeAssert x xT ty false,t,pos,af,gd⟩ r i:=by
 refine⟨_,[],_,⟨fun x hx=>by simp[ao]at hx,fun x hx=>by simp[ao]at hx,fun h=>absurd rfl h,fun h=>absurd rfl h,?_⟩,h⟩
 intro N X w0 I Y e' M' a w hr he hin hev hMM hf
 have hxi:=he.eval hr (c:=true) rfl (hin x (by simp[Op.operands]))
 rw[hev x (by simp[Op.operands]),hx]at hxi
 unfold DD at ht
 generalize hcv:a.eval x=cv at hxi
 cases hxi with
 | iface hu =>
  refine⟨_,w,(dc.still (nm:=nm+16*i) hr hu).n,ij (s:=Instr.typeAssert (a.eval x) xT ty false) rfl ?_⟩
  rw[hcv]
  split at ht
  ·cases ht
  ·rename_i d h1 h2;exact pj h2 (fun ms hm=>h1 ms hm)
  ·cases ht
end
def Ev.clone {cx : Cx} {f : FuncId} {fn : Func} (hf : cx.P.funcs[f]? = some fn) (hname : (fn.name == "runtime.NumGoroutine") = false) (hb : fn.body.isNone = true) (hn : Extern.findNext fn = none)
    (he:Extern.find fn=some Extern.MapsClone.clone) (t:TypeId) (y:Nat) (kvs:List (V×V)) (M:am) (nm:Nat) (hM:M y=some (eT kvs)) (ho:∀ z,(M z).isSome=true->z∈[y]) (hlt:y<nm) :
    Ev cx f nm [.iface t (.mp y)] M (.iface t (.mp nm)) [(nm,some (eT kvs))]:=by
  have hMn:M nm=none:=by
    cases h:M nm with
    | none=>rfl
    | some k=>have:=ho nm (by rw[h];rfl);simp at this;omega
  refine⟨trivial,fun X w Y cargs B hr hfr hB hlen hargs=>?_⟩
  match cargs,hlen,hargs with
  |⟨[v0]⟩,_,hargs =>
  have h0:=hargs 0 _ v0 rfl rfl
  cases h0 with
  | iface h =>
    obtain⟨l,hl,rfl⟩:=JV h
    · obtain⟨hh,_,_,_⟩:=rm hr hM hl
      refine .inr ⟨.iface t (.map (some w.heap.size)),w.alloc (.map (iz kvs) kvs.length),?_,_,rfl,?_⟩
      · rw [run_callFunc_extern hf hname hb hn he]
        have e:Extern.MapsClone.clone #[.iface t (.map (some l.b))]=(getObj l.b >>= fun o=>match o with
            | .map entries clock=>(newObj (.map entries clock) >>= fun n=>pure (.iface t (.map (some n))))
            | _ => stuck "maps.clone: a map expected") := rfl
        have hg:(getObj l.b).run cx.P w = .ok (.map (iz kvs) kvs.length) w:=by simp[getObj,Sem.run,hh,Result.andThen]
        rw[e]
        simp[Sem.run_bind,hg]
      · exact(Rel.newObj (v:=.iface t (.mp nm)) hr hMn (hfr nm ⟨Nat.le_refl _,by omega⟩) (.map (iz kvs) kvs.length) (cv:=.iface t (.map (some w.heap.size))) (fun Y D w' hl=>.iface (.mp hl))).n
def bc:Nat:=140737488355328
def yZ {α:Type}{p:α->Bool}{l:List α}{k:Nat}{x:α}(h:l[k]? = some x):(l.take (k+1)).all p=((l.take k).all p&&p x):=by
 rw[List.take_add_one,h];simp
def aj {M:am}{l:List Nat} : ∀ z,((M.only l) z).isSome=true->z∈l:=fun z h=>(dp.1 h).2
def fm {M:am}{b0 x:Nat}(h:∀ z,b0<=z->M z=none)(hx:(M x).isSome=true):x<b0:=by
 rcases Nat.lt_or_ge x b0 with h1|h1
 ·exact h1
 ·rw[h x h1]at hx;cases hx
def aD {q b:Nat}(h:q<b):(q=b)=False/\(∀ c,(q=b+c)=False)/\(b=q)=False/\(∀ c,(b+c=q)=False):=⟨JO h,rh h,CV h,o7 h⟩
def aB {M:am}{b0 q:Nat}{k:Blk}(h:∀ x,b0<=x->M x=none)(hq:M q=some k):q<b0:=fm h (by rw [hq];rfl)
section
variable {cx:Cx}
def Ev.args_le {f:FuncId}{nm:Nat}{xs ys:List V}{M:am}{v:V}{eff:List (Nat×Option Blk)}(h:Ev cx f nm ys M v eff)(hle:leL xs ys):Ev cx f nm xs M v eff:=by
 obtain⟨h1,h2⟩:=gK hle
 refine⟨h.1,fun X w Y cargs B hr hfr hB hn hargs=>h.2 X w Y cargs B hr hfr hB (by omega) (fun i u cv hi hc=>?_)⟩
 obtain⟨u',h3,h4⟩:=h2 i u hi
 exact(hargs i u' cv h3 hc).le u h4
def O7.res_le {f:FuncId}{nm:Nat}{xs:List V}{v u:V}(h:Ev cx f nm xs am.nil v [])(hv:v.flat=true)(hle:v.le u):O7 cx f nm xs u :=
 ⟨v,[],h,oT _ v hv,fun p hp=>by simp at hp,fun x hx=>by simp[ao]at hx,(iC _ v hv).1,by rw[(iC _ v hv).2];exact hle⟩
end
end Go.Proofs.YtlnlopnpcmahgaaGreatDoor.Vm
