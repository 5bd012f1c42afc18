/-
 Texts joined: XVF,XVJ,XVL,XVM,XVN,XVO,XVP,XVQ,XVR,XVS,XVT,XVW,XVY,XVZ,XVH.
-/
import Derived.Lib.Overlaps
import Derived.Conc.LoneSelect
import Derived.Lib.ConvBytes
import Derived.Laws.BytesString
import Derived.Laws.MakeOwn
import Derived.Laws.RangeAny
import Derived.Lib.Bytealg
import Derived.Lib.Builder
import Derived.Lib.UnsafeStr
import Derived.Laws.Externs
import Derived.Laws.Entries
import Derived.Laws.NewFold
import Derived.Lib.MakeNoZero
import Derived.Recover
import Derived.Test.YtgboofebldgdjaaGreatDoorQc
set_option linter.all false
namespace Go.Proofs.YtgboofebldgdjaaGreatDoor.Vm
open Go Go.RowKit
def N6 (σ:Y8)(sz:Nat)(rows:List (List V)):Blk.ren σ ⟨sz,rows⟩=⟨sz,j8 σ rows⟩:=rfl
def DN (σ:Y8)(sz:Nat)(rows:List (List V)):Blk.renOk σ ⟨sz,rows⟩=gA σ rows:=by
 show(gA σ rows&&true)=_
 rw[Wz]
def tgt (nm:Nat)(p:Nat×ZC):Nat:=match p.2 with|none=>p.1|some j=>nm+j
def ba (nm:Nat)(g:List (Nat×ZC)):Y8:=g.map (fun p=>(p.1,tgt nm p))
def qn (nm b0:Nat)(M0 M:ah)(σ:Y8):List (Nat×ZC)->Prop
 | []=>True
 |(x,o)::r=>(match o with|none=>(M0 x).isSome=true|some j=>j<16/\(b0<=x\/(M0 x).isSome=true))/\(match M x with|some k=>k.renOk σ=true|none=>False)/\(∀ p∈r,p.1≠x/\tgt nm p≠tgt nm (x,o))/\qn nm b0 M0 M σ r
def vH {nm b0:Nat}{M0 M:ah}{σ:Y8} : ∀ {g:List (Nat×ZC)},qn nm b0 M0 M σ g->((ba nm g).map (·.1)).Nodup/\((ba nm g).map (·.2)).Nodup /\ ∀ p∈ba nm g,((p.1=p.2/\(M0 p.2).isSome=true)\/(b9 nm p.2/\(b0<=p.1\/(M0 p.1).isSome=true))) /\ ∃ k,M p.1=some k/\k.renOk σ=true
  | [],_=>⟨Xq,Xq,fun p hp=>by cases hp⟩
  |(x,o)::r,h=>by
    obtain⟨h1,h2,h3,h4⟩:=h
    obtain⟨a,b,c⟩:=vH h4
    refine⟨Xg.2 ⟨fun hm=>?_,a⟩,Xg.2 ⟨fun hm=>?_,b⟩,fun p hp=>?_⟩
    · simp only[ba,YD,Wn,Function.comp_apply]at hm
      obtain⟨p,hp,e⟩:=hm
      exact(h3 p hp).1 e
    · simp only[ba,YD,Wn,Function.comp_apply]at hm
      obtain⟨p,hp,e⟩:=hm
      exact(h3 p hp).2 e
    · rcases WZ.1 hp with rfl|hp
      · refine⟨?_,?_⟩
        · cases o with
          | none=>exact .inl ⟨rfl,h1⟩
          | some j=>exact .inr ⟨⟨XW _ _,by simp only[tgt];have:=h1.1;omega⟩,h1.2⟩
        · split at h2
          · rename_i k hk;exact⟨k,hk,h2⟩
          · exact h2.elim
      · exact c p hp
def He (nm:Nat)(M:ah)(σ:Y8)(g:List (Nat×ZC)):List (Nat×Option Blk):=g.map (fun p=>(tgt nm p,(M p.1).map (Blk.ren σ)))
def G5 (δ:ZB):List (Nat×Option Blk):=δ.map (fun x=>(x,none))
def Fin.give {cx:Cx}{N:Nat}{rs:List ResultVar}{nm:Nat}{M0:ah}{v:V}{eff:List (Nat×Option Blk)}{b0 n:Nat}{e:Env}{M:ah}(g:List (Nat×ZC))(δ:ZB)(h1:mC cx.P N rs e M)(h2:(mD cx.P rs e M).finOk (ba nm g) M)(h3:((mD cx.P rs e M).fin (ba nm g) M).le v)
  (h4:G5 δ++He nm M (ba nm g) g=eff) (h5:qn nm b0 M0 M (ba nm g) g) (h6:∀ x,(M0 x).isSome=true->x∈(ba nm g).map (·.2)\/x∈δ):pV cx N rs nm M0 v eff b0 n e M:=by
 obtain⟨a,b,c⟩:=vH h5
 exact⟨[],h1,ba nm g,δ,h2,h3,by rw[<- h4];simp[G5,He,ba,ah.ghosts],a,b,c,h6⟩
def bc {M:ah}{nm:Nat}{g:List (Nat×ZC)}{dl L:ZB}(ho:∀ z,(M z).isSome=true->z∈L)(h:∀ z∈L,z∈(ba nm g).map (fun x=>x.2)\/z∈dl):∀ z,(M z).isSome=true->z∈(ba nm g).map (fun x=>x.2)\/z∈dl:=fun z hz=>h z (ho z hz)
open Go Go.RowKit Go.Conc
def G1 (cap:Nat)(closed:Bool)(ms:List V):Blk:=@Blk.mk 0 [] (.chan cap closed ms)
section
variable {cx:Cx} {P:Program} {G:Nat->V} {X:Nat->Prop} {w0:World} {I:Nat->Prop} {ρ:Names} {M:ah} {w w':World} {D:Nat->Prop}
def Rel.grow (h:Rel G X w0 I ρ M w)(hs:w.heap.size<=w'.heap.size)(hos:w'.os=w.os)(htp:w'.tape=w.tape)(hout:w'.output=w.output)(hk:∀ b,b<w.heap.size->w'.heap[b]? = w.heap[b]?):Rel G X w0 I ρ M w'/\Moves ρ M w ρ M w':=by
 have m:Moves ρ M w ρ M w':=⟨fun _ _ h=>h,hs,hos,htp,hout,fun b hb _=>hk b hb,fun nm l h1 h2 _=>⟨nm,l,h1,h2,rfl⟩⟩
 exact⟨h.move m h.inj (fun nm k hM=>.inl ⟨hM,id,fun l hl=>hk l.b (h.block_lt (by rw[hM];rfl) hl).1⟩),m⟩
def Rel.chan (h:Rel G X w0 I ρ M w){y:Nat}{k:Blk}{l:Loc}(hM:M y=some k)(hl:ρ y=some l)(hz:l.sz=0)(ht:l.tot=0){cap s r:Nat}{closed:Bool}{buf:ZG}{ms:List V}(hlt:l.b<w.heap.size)
  (hn:buf.size=ms.length) (hm:∀(i:Nat) (u:V),ms[i]? = some u -> ∃ cv,buf[i]? = some cv/\Is ρ (bV X ρ M) w u cv) :
  Rel G X w0 I ρ (M.put y (some (G1 cap closed ms))) (w.setChan l.b cap buf closed s r false)/\Moves ρ M w ρ (M.put y (some (G1 cap closed ms))) (w.setChan l.b cap buf closed s r false):=by
 have hk:∀ b,b≠l.b->(w.setChan l.b cap buf closed s r false).heap[b]? = w.heap[b]?:=fun b hb=>by
  simp only[World.setChan];rw[Array.getElem?_setIfInBounds_ne (WU hb)]
 have hs:∀ x,((M.put y (some (G1 cap closed ms))) x).isSome=true->(M x).isSome=true:=fun x hx=>by
  by_cases e:x=y
  ·subst e;rw[hM];rfl
  ·rwa[ah.put_ne _ _ e]at hx
 have m:Moves ρ M w ρ (M.put y (some (G1 cap closed ms))) (w.setChan l.b cap buf closed s r false) :=
  ⟨fun _ _ h=>h,by simp[World.setChan],rfl,rfl,rfl,fun b _ hn=>hk b (fun e=>hn y l (by rw[hM];rfl) hl e.symm),fun n l' a1 a2 _=>⟨n,l',hs n a1,a2,rfl⟩⟩
 refine⟨h.move m (fun a b l1 l2 a1 a2 a3 a4 a5=>h.inj a b l1 l2 (hs a a1) (hs b a2) a3 a4 a5) ?_,m⟩
 intro x kx hx
 by_cases e:x=y
 ·subst e
  rw[ah.put_same]at hx
  cases hx
  obtain⟨b1,b2,b3⟩:=h.block_lt (by rw[hM];rfl) hl
  refine .inr (.inr ⟨l,hl,b3,b2,.inr ⟨_,(),ms,buf,(),(),⟨rfl,s,r,rfl⟩,heap_setChan w l.b cap buf closed s r false hlt,hz.symm,rfl,ht,hn,fun i u hi=>?_⟩⟩)
  obtain⟨cv,c1,c2⟩:=hm i u hi
  exact⟨cv,c1,m.is c2⟩
 ·rw[ah.put_ne _ _ e]at hx
  exact .inl ⟨hx,id,fun lx hlx=>hk _ (fun e2=>e (h.inj x y lx l (by rw[hx];rfl) (by rw[hM];rfl) hlx hl e2))⟩
end
def iX {P:Program}{o:Oper}{a:Act}{w:World}{s:Sem Value}{cv:Value}{w':World}(h1:execOp a.eval o=(do pure (.value (<- s))))(h2:s.run P w = .ok cv w'):∀(K:Act->World->Prop) (Q:Exit->Act->World->Prop),K (a.put o.dst cv) w'->o.wp P a w K Q:=by
 intro K Q h3
 unfold Oper.wp
 rw[h1,Sem.run_bind,h2]
 exact h3
def nv {P:Program}{b:Builtin}{as:ZE}{ts:ZF}{dst:Option Tmp}{t:TypeId}{pos:String}{af:Array Edge}{gd:Option (Nat×Bool)}{a:Act}{w:World}{s:Sem Value}{cv:Value}{w':World}
  (h1:∀ consts,builtin b ts t consts (as.map a.eval)=(do pure (.value (<- s)))) (h2:s.run P w = .ok cv w'):∀(K:Act->World->Prop) (Q:Exit->Act->World->Prop),K (a.put dst cv) w'->(⟨dst,.call ⟨.builtin b,as,ts⟩,t,pos,af,gd⟩:Oper).wp P a w K Q:=by
 intro K Q h3
 unfold Oper.wp execOp
 simp only[resolve,Sem.run_bind,Sem.run_pure,Result.andThen_ok,invoke,h1,h2]
 exact h3
section
variable {cx:Cx} {Q:Post} {st:List Frm} {nm:Nat} {e:Env} {M:ah} {d:Bool} {fs:Y9} {ops r:ZD} {dst:Option Tmp} {t:TypeId} {pos:String} {af:Array Edge} {gd:Option (Nat×Bool)} {i:Nat}
def Jc {ρ:Names}{D:Nat->Prop}{w:World}{u v z:V}{c1 c2 c3:Value}(h1:Is ρ D w u c1)(h2:Is ρ D w v c2)(h3:Is ρ D w z c3):Is ρ D w (.tup [u,v,z]) (.tuple #[c1,c2,c3]) :=
 .tup rfl (fun i q cv hi hc=>by
  grind)
end
def nQ (P:Program)(t:TypeId):Bool:=match P.underlying t with
 | some (.slice e)=>(match P.underlying e with|some (.int .u8)=>true|_=>false)
 | _=>false
def tA {P:Program}{t:TypeId}(h:nQ P t=true):∃ e,P.underlying t=some (.slice e)/\P.underlying e=some (.int .u8):=by
 unfold nQ at h
 grind
def V.isStr:V->Bool
 | .str _=>true
 | _=>false
def vG:∀(l:ZA) (s:ByteArray),(l.map fun b=>(b.toNat:Int)).foldl (fun r n=>r.push (UInt8.ofNat n.toNat)) s=⟨s.data++l.toArray⟩
 | [],s=>by simp
 | b::l,s=>by
  simp only[Wc,List.foldl_cons]
  rw[vG l]
  simp_all
section
variable {cx:Cx} {X:Nat->Prop} {w0:World} {I:Nat->Prop} {ρ:Names} {M:ah} {w:World}
def Am {P:Program}{G:Nat->V}(h:Rel G X w0 I ρ M w){x:V}{cv:Value}{bs:ZA}(hx:Is ρ (bV X ρ M) w x cv)(hok:fx M 1 x)(hns:x.isStr=false)(hr:aJ M x=bs.map av){s d:TypeId}(hs:nQ P s=true)(hd:P.underlying d=some .string) :
  (convert s d cv).run P w = .ok (.string ⟨bs.toArray⟩) w:=by
 obtain⟨e,hs,he⟩:=tA hs
 obtain⟨h1,arr,h2,h3,h4⟩:=mL (P:=P) h (by decide:0<1) hx hok
 have form:∃ A n c,cv = .slice A n c:=by
  cases x<;>first|exact hok.elim|(simp[V.isStr]at hns;done)|skip
  all_goals cases hx<;>exact⟨_,_,_,rfl⟩
 obtain⟨A,n,c,rfl⟩:=form
 have hn:n=bs.length:=by
  have:(Builtin.lenOf (.slice A n c)).run P w = .ok n w:=rfl
  simp_all
 subst hn
 rw[run_convert_bytes_string w s d e A _ c hs he hd]
 cases A with
 | none =>
  have hz:bs=[]:=by
   cases bs with
   | nil=>rfl
   | cons b bs =>
    exfalso
    have:(Builtin.firstCells 1 (aJ M x).length (.slice none (b::bs).length c)).run P w = .ok #[] w:=rfl
    simp_all
  subst hz
  rfl
 | some a =>
  have hl:(loadCells a (bs.length*1)).run P w = .ok arr w:=by
   have:=h2
   rw[hr,Xm]at this
   exact this
  rw[Y5]at hl
  have harr:arr=((bs.map fun b=>(b.toNat:Int)).map (Value.int .u8)).toArray:=by
   rw[hr,Xm,Y5]at h3
   apply Array.ext
   ·simp[h3]
   ·intro i hi1 hi2
    have hib:i<bs.length:=Y6
    obtain⟨cc,c1,c2⟩:=h4.2.2 i 0 (av bs[i]) (.int .u8 bs[i].toNat) (by simp_all) rfl
    cases c2
    simp_all
  have:=run_bytesToString (P:=P) w a bs.length c (bs.map fun b=>(b.toNat:Int)) (by simp_all)
  rw[this,vG]
  simp_all
variable {Q:Post} {st:List Frm} {nm:Nat} {e:Env} {d:Bool} {fs:Y9} {ops r:ZD} {dst:Option Tmp} {t:TypeId} {pos:String} {af:Array Edge} {gd:Option (Nat×Bool)} {i:Nat}
def EZ {s dt:TypeId}{x:Operand}{v:V}{bs:ZA}{n:Nat}(hs:nQ cx.P s=true)(hd:cx.P.underlying dt=some .string)(hx:ap cx.G true e x=v)(hns:v.isStr=false)(hok:fx M 1 v)(hr:aJ M v=bs.map av) :
  ExtDoes cx ⟨dst,.convert s dt x,t,pos,af,gd⟩ n e M (.str bs) [] (bt v):=by
 refine⟨fun x hx=>by grind[al],fun x hx=>by grind[al],fun h=>absurd rfl h,fun _=>rfl,?_⟩
 intro N X w0 I ρ e' M' a w hr' he hin hev hM _
 have hxi:=he.eval hr' (c:=true) rfl (hin x (by simp[Op.operands]))
 rw[hev x (by simp[Op.operands]),hx]at hxi
 have hrun:=Am (P:=cx.P) hr' hxi (by simp_all[lF]) hns (bs:=bs) (by simp_all[fw]) hs hd
 exact⟨_,w,(db.still (nm:=n) hr' (.str bs)).n,iX rfl hrun⟩
def dV {s dt:TypeId}{x:Operand}{v:V}{bs:ZA}(hs:nQ cx.P s=true)(hd:cx.P.underlying dt=some .string)(hx:ap cx.G true e x=v)(hns:v.isStr=false)(hok:fx M 1 v)(hr:aJ M v=bs.map av)
  (h:bb cx Q st nm (e.putD dst (.str bs)) M d (fs++[bt v]) ops r (i+1)):eH cx Q st nm e M d fs ops ⟨dst,.convert s dt x,t,pos,af,gd⟩ r i :=
 ⟨_,[],_,EZ hs hd hx hns hok hr,h⟩
def Aq {s dt:TypeId}{x:Operand}{bs:ZA}{n:Nat}(hs:cx.P.underlying s=some .string)(hd:nQ cx.P dt=true)(hx:ap cx.G true e x = .str bs) :
    ExtDoes cx ⟨dst,.convert s dt x,t,pos,af,gd⟩ n e M (.sl false 1 (bs.map av)) [] []:=by
  refine⟨fun x hx=>by grind[al],fun x hx=>by grind[al],fun h=>absurd rfl h,fun h=>absurd rfl h,?_⟩
  intro N X w0 I ρ e' M' a w hr' he hin hev hM _
  have hxi:=he.eval hr' (c:=true) rfl (hin x (by simp[Op.operands]))
  rw[hev x (by simp[Op.operands]),hx]at hxi
  obtain⟨el,hd,hel⟩:=tA hd
  have hrun:=Lib.run_convert_string_bytes (P:=cx.P) w s dt el ⟨bs.toArray⟩ hs hd hel
  have hsz:(⟨bs.toArray⟩:ByteArray).size=bs.length:=by rfl
  rw[hsz]at hrun
  obtain⟨g1,g2⟩:=hr'.grow (w':=Lib.bytesWorld w el ⟨bs.toArray⟩) (by grind[Lib.bytesWorld_size]) rfl rfl rfl (fun b hb=>Lib.bytesWorld_at_old w el _ b hb)
  have hv:Is ρ (bV X ρ M') (Lib.bytesWorld w el ⟨bs.toArray⟩) (.sl false 1 (bs.map av)) (.slice (some ⟨w.heap.size,0,none⟩) bs.length (grownCap w bs.length 0 el)):=by
    have:=Is.sl (ρ:=ρ) (D:=bV X ρ M') (w:=Lib.bytesWorld w el ⟨bs.toArray⟩) (t:=false) (sz:=1) (rows:=bs.map av) (b:=w.heap.size) (o:=0) (c:=grownCap w bs.length 0 el)
      (fun i _=>.int .u8 (bs.getD i 0).toNat) (by rw[Xm];exact grownCap_ge _ _ _ _) (fun h=>by cases h) (by
        rintro (hX|⟨nm,l,k1,k2,k3⟩)
        · have:=(hr'.hX _ hX).1;have:=hr'.size;omega
        · have:=(hr'.block_lt k1 k2).1;omega) (by grind[Lib.bytesWorld_size]) (fun i row hi=>by
        rw[WG]at hi
        obtain⟨b,_,rfl⟩:=BY.1 hi
        rfl) (fun i j row u hi hj=>by
        rw[WG]at hi
        obtain⟨b,hb,rfl⟩:=BY.1 hi
        have hj0:j=0:=by
          grind[av]
        subst hj0
        have hlt:=(AS.1 hb).1
        have:=Lib.bytesWorld_cell w el ⟨bs.toArray⟩ i Y6
        simp_all) (fun i j row u hi hj=>by
        rw[WG]at hi
        obtain⟨b,hb,rfl⟩:=BY.1 hi
        have hj0:j=0:=by
          grind[av]
        subst hj0
        simp only[av,List.getElem?_cons_zero,WO]at hj
        subst hj
        have:bs.getD i 0=b:=by simp_all
        rw[this]
        exact .int _ _)
    simp_all
  refine⟨_,_,⟨ρ,g1,g2,hv,fun _ _=>rfl⟩,iX (s:=convert s dt (a.eval x)) rfl ?_⟩
  generalize hcv:a.eval x=cv at hxi
  cases hxi
  exact hrun
def oa {s dt:TypeId}{x:Operand}{bs:ZA}(hs:cx.P.underlying s=some .string)(hd:nQ cx.P dt=true)(hx:ap cx.G true e x = .str bs)
  (h:bb cx Q st nm (e.putD dst (.sl false 1 (bs.map av))) M d (fs++[[]]) ops r (i+1)):eH cx Q st nm e M d fs ops ⟨dst,.convert s dt x,t,pos,af,gd⟩ r i :=
 ⟨_,[],_,Aq hs hd hx,h⟩
def Rel.allocF {G:Nat->V}{X:Nat->Prop}{w0:World}{I:Nat->Prop}{ρ:Names}{M:ah}{w w':World}(h:Rel G X w0 I ρ M w){nm:Nat}(hM:M nm=none)(hρ:ρ nm=none)(cs:ZG)(e:TypeId)(k:Blk)(l:Loc)(hb:l.b=w.heap.size)(hz:k.sz=l.sz)(h2:k.rows.length<=l.tot)(h3:l.o+l.tot*l.sz<=cs.size)
  (h4:∀(i:Nat) (row:List V),k.rows[i]? = some row->row.length=l.sz)
  (h5:∀(i j:Nat) (row:List V) (u:V),k.rows[i]? = some row->row[j]? = some u -> ∃ cv,cs[l.o+i*l.sz+j]? = some cv/\Is ρ (bV X ρ M) w u cv) (h0:k.ob.okCells e l)
  (hs:w'.heap.size=w.heap.size+1) (hos:w'.os=w.os) (htp:w'.tape=w.tape) (hout:w'.output=w.output) (hk:∀ b,b<w.heap.size->w'.heap[b]? = w.heap[b]?) (hn:w'.heap[w.heap.size]? = some (.cells cs e l.frz)) :
  Rel G X w0 I (ρ.put nm l) (M.put nm (some k)) w'/\Moves ρ M w (ρ.put nm l) (M.put nm (some k)) w':=by
 have hne:∀ x,(M x).isSome=true->x≠nm:=fun x hx e=>by simp_all
 have hnr:∀ x l,ρ x=some l->x≠nm:=fun x l hx e=>by simp_all
 have hlt:∀ x l,(M x).isSome=true->ρ x=some l->l.b<w.heap.size:=fun x l hx hl=>(h.block_lt hx hl).1
 have m:Moves ρ M w (ρ.put nm l) (M.put nm (some k)) w':=by
  refine⟨fun x l hx=>by rw[Names.put_ne _ _ (hnr x l hx)];exact hx,by omega,hos,htp,hout,fun b hb' _=>hk b hb',fun x q a1 a2 a3=>?_⟩
  by_cases e:x=nm
  ·simp_all[Names.put_same]
  ·rw[Names.put_ne _ _ e]at a2;rw[ah.put_ne _ _ e]at a1
   grind
 refine⟨h.move m ?_ ?_,m⟩
 ·intro x y q q' a1 a2 a3 a4 a5
  by_cases ex:x=nm
  ·subst ex
   rw[Names.put_same]at a3;cases a3
   by_cases ey:y=x
   ·exact ey.symm
   ·rw[Names.put_ne _ _ ey]at a4;rw[ah.put_ne _ _ ey]at a2
    grind
  ·rw[Names.put_ne _ _ ex]at a3;rw[ah.put_ne _ _ ex]at a1
   have:=hlt x q a1 a3
   by_cases ey:y=nm
   ·simp_all[Names.put_same]
   ·rw[Names.put_ne _ _ ey]at a4;rw[ah.put_ne _ _ ey]at a2
    exact h.inj x y q q' a1 a2 a3 a4 a5
 ·intro x kx hx
  by_cases ex:x=nm
  ·subst ex
   rw[ah.put_same]at hx;cases hx
   refine .inr (.inr ⟨_,Names.put_same _ _ _,.inr (by rw[hb];exact h.size),fun hX=>?_,.inl ⟨cs,e,h0,by simp_all,hz,h2,h3,h4,fun i j row u hi hj=>?_⟩⟩)
   ·have:=(h.hX _ hX).1
    have:=h.size
    omega
   ·obtain⟨cv,c1,c2⟩:=h5 i j row u hi hj
    exact⟨cv,c1,m.is c2⟩
  ·rw[ah.put_ne _ _ ex]at hx
   exact .inl ⟨hx,fun hn=>by simp_all[Names.put_ne],fun q hq=>hk q.b (hlt x q (by rw[hx];rfl) hq)⟩
def xQ {s dt:TypeId}{x:Operand}{bs:ZA}{n:Nat}{el:TypeId}(hs:cx.P.underlying s=some .string)(hd:cx.P.underlying dt=some (.slice el))(hel:cx.P.underlying el=some (.int .u8))(hx:ap cx.G true e x = .str bs) :
  ExtDoes cx ⟨dst,.convert s dt x,t,pos,af,gd⟩ n e M (.own n 0 bs.length) [(n,some (@Blk.mk 1 (bs.map av) (.typed el)))] [n]:=by
 refine⟨fun x hx=>hx,fun x hx=>?_,fun _=>by simp_all[nY],fun _=>rfl,?_⟩
 ·simp only[al,Wc,Wx,WW]at hx
  subst hx;exact .inr ⟨IS _,by omega⟩
 intro N X w0 I ρ e' M' a w hr he hin hev _ hf
 obtain⟨f1,f2⟩:=hf n ⟨IS _,by omega⟩
 have hxi:=he.eval hr (c:=true) rfl (hin x (by simp[Op.operands]))
 rw[hev x (by simp[Op.operands]),hx]at hxi
 have hrun:=Lib.run_convert_string_bytes (P:=cx.P) w s dt el ⟨bs.toArray⟩ hs hd hel
 have hsz:(⟨bs.toArray⟩:ByteArray).size=bs.length:=by rfl
 rw[hsz]at hrun
 have hge:=grownCap_ge w bs.length 0 el
 generalize hc:grownCap w bs.length 0 el=c at hrun hge
 have hcs:(Lib.bytesCells w el ⟨bs.toArray⟩).size=c:=by
  unfold Lib.bytesCells
  simp_all
 have hcell:∀(j:Nat) (b:UInt8),bs[j]? = some b->(Lib.bytesCells w el ⟨bs.toArray⟩)[j]? = some (.int .u8 b.toNat):=by
  intro j b hb
  have hlt:=(AS.1 hb).1
  unfold Lib.bytesCells
  grind
 have hnew:=Lib.bytesWorld_at_new w el ⟨bs.toArray⟩
 rw[hcs]at hnew
 have hfr:(@Loc.mk w.heap.size 0 1 c ⟨1⟩).frz=(c,c+1):=by
  grind[Loc.frz]
 obtain⟨g1,g2⟩:=hr.allocF (w':=Lib.bytesWorld w el ⟨bs.toArray⟩) f1 f2 (Lib.bytesCells w el ⟨bs.toArray⟩) el (@Blk.mk 1 (bs.map av) (.typed el)) (@Loc.mk w.heap.size 0 1 c ⟨1⟩) rfl rfl (by simp_all) (by simp_all)
  (fun j row hi=>by
   rw[WG]at hi
   obtain⟨b,_,rfl⟩:=BY.1 hi
   rfl)
  (fun j k row u hi hj=>by
   rw[WG]at hi
   obtain⟨b,hb,rfl⟩:=BY.1 hi
   have hj0:k=0:=by
    grind[av]
   subst hj0
   simp only[av,List.getElem?_cons_zero,WO]at hj
   subst hj
   refine⟨_,?_,.int _ _⟩
   simp_all)
  ⟨rfl,rfl⟩ (Lib.bytesWorld_size w el _) rfl rfl rfl (fun b hb=>Lib.bytesWorld_at_old w el _ b hb) (by rw[hnew,hfr])
 refine⟨_,_,(show db _ _ _ _ _ _ _ _ _ _ _ _ from ⟨_,g1,g2,.own (c:=c) (Names.put_same _ _ _) (by simp_all) hge,fun x hx=>Names.put_ne _ _ hx⟩).n,iX (s:=convert s dt (a.eval x)) rfl ?_⟩
 generalize hcv:a.eval x=cv at hxi
 cases hxi
 omega
def Aw {s dt:TypeId}{x:Operand}{bs:ZA}{el:TypeId}(hs:cx.P.underlying s=some .string)(hd:cx.P.underlying dt=some (.slice el))(hel:cx.P.underlying el=some (.int .u8))(hx:ap cx.G true e x = .str bs)
  (h:bb cx Q st nm (e.putD dst (.own (nm+16*i) 0 bs.length)) (M.app [(nm+16*i,some (@Blk.mk 1 (bs.map av) (.typed el)))]) d (fs++[[nm+16*i]]) ops r (i+1)):eH cx Q st nm e M d fs ops ⟨dst,.convert s dt x,t,pos,af,gd⟩ r i :=
 ⟨_,_,_,xQ hs hd hel hx,h⟩
def xY (gs hs:ZB):∀(M:ah) (n:Nat),(M.ghosts n gs).ghosts (n+gs.length) hs=M.ghosts n (gs++hs):=by
 induction gs with
 | nil=>intro M n;rfl
 | cons g gs ih =>
  intro M n
  simp only[ah.ghosts,List.cons_append,List.length_cons]
  grind
def Fin.more {N:Nat}{rs:List ResultVar}{M0:ah}{v:V}{eff:List (Nat×Option Blk)}{b0 n:Nat}(gs:ZB)(h:pV cx N rs nm M0 v eff b0 (n+gs.length) e (M.ghosts n gs)):pV cx N rs nm M0 v eff b0 n e M:=by
 obtain⟨hs,h⟩:=h
 rw[xY]at h
 exact⟨_,h⟩
def im {o:Oper}(h:eH cx Q st nm e M d fs ops o r i):sA cx Q st nm e M d fs true ops o r i:=.inr ⟨fun _=>h,fun h=>by cases h⟩
def gY {o:Oper}(h:bb cx Q st nm (e.putD o.dst .any) M d (fs++[[]]) ops r (i+1)):sA cx Q st nm e M d fs false ops o r i:=.inr ⟨fun h=>(by cases h),fun _=>h⟩
def zb (P:Program)(ty:TypeId)(n:Nat):Blk:=match cR P ty with
 | some (zc,_)=>⟨zc.length,List.replicate n zc⟩
 | none=>⟨0,[]⟩
def v9 (P:Program)(ty:TypeId)(n:Nat):Prop:=match cR P ty with
 | some (zc,b)=>n*zc.length<=16777216/\b*n<=281474976710656
 | none=>False
def Iz {ty:TypeId}{x y:Operand}{kx ky:IntKind}{n c:Nat}(hx:ap cx.G true e x = .int kx n)(hy:ap cx.G true e y = .int ky c)(hn:n<=c)(hok:v9 cx.P ty c)
  (h:bb cx Q st nm (e.putD dst (.own (nm+16*i) 0 n)) (M.app [(nm+16*i,some (zb cx.P ty c))]) d (fs++[[nm+16*i]]) ops r (i+1)):eH cx Q st nm e M d fs ops ⟨dst,.makeSlice ty x y,t,pos,af,gd⟩ r i:=by
 refine⟨_,_,_,⟨fun x hx=>hx,fun x hx=>?_,fun _=>rfl,fun _=>rfl,?_⟩,h⟩
 ·simp only[al,Wc,Wx,WW]at hx
  subst hx;exact .inr ⟨IS _,by omega⟩
 ·intro N X w0 I ρ e' M' a w hr he hin hev _ hf
  obtain⟨f1,f2⟩:=hf (nm+16*i) ⟨IS _,by omega⟩
  have hxi:=he.eval hr (c:=true) rfl (hin x (by simp[Op.operands]))
  rw[hev x (by simp[Op.operands]),hx]at hxi
  have hyi:=he.eval hr (c:=true) rfl (hin y (by simp[Op.operands]))
  rw[hev y (by simp[Op.operands]),hy]at hyi
  unfold v9 at hok
  cases hel:cR cx.P ty with
  | none=>simp_all
  | some q =>
   obtain⟨zc,b⟩:=q
   rw[hel]at hok
   obtain⟨el,inf,z,hu,hi,hz,hzs,hpos,hzc,hzl,hb⟩:=gc hel
   obtain⟨ho1,ho2⟩:=hok
   have hc63:c<=16777216:=by
    have:c*1<=c*zc.length:=Nat.mul_le_mul_left _ Y6
    omega
   have hrun:=run_makeSlice (P:=cx.P) w ty el inf z hu hi hz kx ky n c Y6 Y6 (by simp_all) (by grind) Y6
   simp only[Int.toNat_natCast]at hrun
   have hrows:cY ρ (bV X ρ M') w inf.size (List.replicate c zc) (madeCells z.cells (c*inf.size)):=xC hzs hpos hzc c _ (size_madeCells _ _) (fun k hk=>by simp_all[madeCells])
   obtain⟨g1,g2⟩:=hr.alloc f1 f2 (madeCells z.cells (c*inf.size)) el ⟨inf.size,List.replicate c zc⟩ c ZH (by simp[size_madeCells]) hrows.2.1 hrows.2.2
   have hK:zb cx.P ty c=⟨inf.size,List.replicate c zc⟩:=by simp_all[zb]
   rw[hK]
   refine⟨_,_,(show db _ _ _ _ _ _ _ _ _ _ _ _ from ⟨_,g1,g2,.own (c:=c) (Names.put_same _ _ _) ZH hn,fun x hx=>Names.put_ne _ _ hx⟩).n,iX (s:=Instr.makeSlice ty (a.eval x) (a.eval y)) rfl ?_⟩
   generalize hcv:a.eval x=cv at hxi
   generalize hcw:a.eval y=cw at hyi
   cases hxi
   cases hyi
   simp_all
def CB {ty:TypeId}{x y:Operand}{kx ky:IntKind}{n c:Int}(hx:ap cx.G true e x = .int kx n)(hy:ap cx.G true e y = .int ky c)(h0:0<=n)(hn:n<=c)(hok:v9 cx.P ty c.toNat)
  (h:bb cx Q st nm (e.putD dst (.own (nm+16*i) 0 n.toNat)) (M.app [(nm+16*i,some (zb cx.P ty c.toNat))]) d (fs++[[nm+16*i]]) ops r (i+1)):eH cx Q st nm e M d fs ops ⟨dst,.makeSlice ty x y,t,pos,af,gd⟩ r i :=
 Iz (n:=n.toNat) (c:=c.toNat) (by rw[Int.toNat_of_nonneg h0];exact hx) (by rw[Int.toNat_of_nonneg Y6];exact hy) Y6 hok h
end
def lh:List (Nat×V)->Env
 | [],_=>.any
 |(t,v)::r,x=>if x=t then v else lh r x
def iS:List (Nat×Blk)->ah
 | [],_=>none
 |(y,k)::r,x=>if x=y then some k else iS r x
def dB (t:Nat)(v:V)(r:List (Nat×V))(x:Nat):lh ((t,v)::r) x=if x=t then v else lh r x:=rfl
def eG (x:Nat):lh [] x = .any:=rfl
def cN (y:Nat)(k:Blk)(r:List (Nat×Blk))(x:Nat):iS ((y,k)::r) x=if x=y then some k else iS r x:=rfl
def dq (x:Nat):iS [] x=none:=rfl
def iP:List (List V)->List (List V)->Prop
 | [],[]=>True
 | x::xs,y::ys=>leL x y/\iP xs ys
 | _,_=>False
def iz:∀(l:List (List V)),iP l l
 | []=>trivial
 | x::l=>⟨leL_refl x,iz l⟩
def aS (l:List (List V)):iP l l=True:=X0 (iz l)
def rA:∀ {a b:List (List V)},iP a b->a.length=b.length /\ ∀(i:Nat) (y:List V),b[i]? = some y -> ∃ x,a[i]? = some x/\leL x y
 | [],[],_=>⟨rfl,fun i y h=>by simp at h⟩
 | x::xs,y::ys,h=>by
  obtain⟨h1,h2⟩:=rA h.2
  refine⟨by simp[h1],fun i u hu=>?_⟩
  cases i with
  | zero=>simp at hu;subst hu;exact⟨x,rfl,h.1⟩
  | succ i=>simp_all
 | [],_::_,h=>h.elim
 | _::_,[],h=>h.elim
def Ob.le (a b:Ob):Prop:=a=b\/(b = .cells/\a.isRow=true)
def Ob.le_ok {a b:Ob}{e:TypeId}{l:Loc}(h:a.okCells e l)(hl:a.le b):b.okCells e l:=by
 rcases hl with rfl|⟨rfl,_⟩
 ·exact h
 ·trivial
def Ob.le_lies {a b:Ob}{x:Obj}{ms:List V}{buf:ZG}{off:Nat}(h:a.lies x ms buf off)(hl:a.le b):b.lies x ms buf off:=by
 rcases hl with rfl|⟨rfl,hr⟩
 ·exact h
 ·cases a<;>first|exact h.elim|cases hr
def rz (a b:Blk):Prop:=a.sz=b.sz/\a.ob.le b.ob/\iP a.rows b.rows
def vU (o:Ob)(s s':Nat)(r r':List (List V)):rz (@Blk.mk s r o) (@Blk.mk s' r' o)=(s=s'/\iP r r'):=propext ⟨fun h=>⟨h.1,h.2.2⟩,fun h=>⟨h.1,.inl rfl,h.2⟩⟩
def vV (k:Blk):rz k k=True:=X0 ⟨rfl,.inl rfl,iz _⟩
def lP.le {ρ:Names}{D:Nat->Prop}{w:World}{l:Loc}{a b:Blk}(h:lP ρ D w l a)(hle:rz a b):lP ρ D w l b:=by
 obtain⟨e1,e2,e3⟩:=hle
 obtain⟨f1,f2⟩:=rA e3
 rcases h with ⟨cs,e,h1,h2,h3,h4,h5,h6,h7⟩|⟨cap,closed,msgs,buf,s,r,h1,h2,h3,h4,h5,h6,h7⟩
 ·refine .inl ⟨cs,e,Ob.le_ok h1 e2,h2,by omega,by omega,h5,fun i row hi=>?_,fun i j row u hi hj=>?_⟩
  ·obtain⟨x,g1,g2⟩:=f2 i row hi
   rw[<-(ke g2).1];grind
  ·obtain⟨x,g1,g2⟩:=f2 i row hi
   obtain⟨v,g3,g4⟩:=(ke g2).2 j u hj
   obtain⟨cv,c1,c2⟩:=h7 i j x v g1 g3
   exact⟨cv,c1,c2.le u g4⟩
 ·refine .inr ⟨cap,closed,msgs,buf,s,r,Ob.le_lies h1 e2,h2,by omega,?_,h5,h6,h7⟩
  grind
def cn:List (Nat×Blk)->List ZC->List (Nat×ZC×Blk)
 |(y,k)::r,o::s=>(y,o,k)::cn r s
 |(y,k)::r,[]=>(y,none,k)::cn r []
 | [],_=>[]
def dL:List (Nat×ZC×Blk)->Y8
 | []=>[]
 |(y,some x,_)::r=>(x,y)::dL r
 |(_,none,_)::r=>dL r
def sX (σ:Y8)(k0 k:Blk):Prop:=k0.renOk σ=true/\rz (k0.ren σ) k
def jb (R:Blk->Blk->Prop)(b0 nm':Nat)(M:ah):List (Nat×ZC×Blk)->Prop
  | []=>True
  |(y,o,k)::r=>y<nm'/\(match o with
    | some x=>(b0<=y\/x=y)/\(match M x with|some k0=>R k0 k|none=>False)
    | none=>b0<=y/\k.rows=[]/\k.ob.isRow=true)/\(∀ p∈r,p.1≠y/\(o≠none->p.2.1≠o))/\jb R b0 nm' M r
def kC (M:ah)(σ:Y8)(e:Env):List (Nat×V)->Prop
 | []=>True
 |(t,v)::r=>((e t).finOk σ M/\((e t).fin σ M).le v)/\kC M σ e r
def nS {R:Blk->Blk->Prop}{b0 nm':Nat}{M:ah} : ∀ {C:List (Nat×ZC×Blk)},jb R b0 nm' M C -> ∀ {y:Nat} {o:ZC} {k:Blk},(y,o,k)∈C->y<nm'/\(match o with
    | some x=>(b0<=y\/x=y)/\(match M x with|some k0=>R k0 k|none=>False)
    | none=>b0<=y/\k.rows=[]/\k.ob.isRow=true)
  |(y',o',k')::C,h,y,o,k,hm=>by
    rcases WZ.1 hm with e|hm
    · cases e;exact⟨h.1,h.2.1⟩
    · exact nS h.2.2.2 hm
def jU:∀ {C:List (Nat×ZC×Blk)} {x y:Nat},(x,y)∈dL C ↔ ∃ k,(y,some x,k)∈C
  | [],x,y=>by simp[dL]
  |(y',none,k')::C,x,y=>by
    simp only[dL,jU (C:=C),WZ,W6,reduceCtorEq,false_and,and_false,false_or]
  |(y',some x',k')::C,x,y=>by
    simp only[dL,WZ,jU (C:=C),W6,WO]
    grind
def pZ {R:Blk->Blk->Prop}{b0 nm':Nat}{M:ah} : ∀ {C:List (Nat×ZC×Blk)},jb R b0 nm' M C->((dL C).map (·.1)).Nodup/\((dL C).map (·.2)).Nodup
  | [],_=>⟨Xq,Xq⟩
  |(y,none,k)::C,h=>by
    obtain⟨a,b⟩:=pZ (C:=C) h.2.2.2
    exact⟨a,b⟩
  |(y,some x,k)::C,h=>by
    obtain⟨a,b⟩:=pZ h.2.2.2
    refine⟨Xg.2 ⟨fun hm=>?_,a⟩,Xg.2 ⟨fun hm=>?_,b⟩⟩
    · obtain⟨⟨x',y'⟩,hp,he⟩:=Wn.1 hm
      simp only at he;subst he
      obtain⟨k',hk⟩:=jU.1 hp
      exact(h.2.2.1 _ hk).2 ZH rfl
    · obtain⟨⟨x',y'⟩,hp,he⟩:=Wn.1 hm
      simp only at he;subst he
      obtain⟨k',hk⟩:=jU.1 hp
      exact(h.2.2.1 _ hk).1 rfl
def B8 {R:Blk->Blk->Prop}{b0 nm':Nat}{M:ah} : ∀ {C:List (Nat×ZC×Blk)},jb R b0 nm' M C -> ∀ {y:Nat} {o o':ZC} {k k':Blk},(y,o,k)∈C->(y,o',k')∈C->o=o'
  | [],_,_,_,_,_,_,h1,_=>by simp at h1
  |(y',o'',k'')::C,h,y,o,o',k,k',h1,h2=>by
    have h3:=h.2.2.1
    have h4:=h.2.2.2
    clear h
    rcases WZ.1 h1 with e1|g1<;>rcases WZ.1 h2 with e2|g2
    · simp_all
    · grind
    · grind
    · exact B8 h4 g1 g2
def rE:∀ {Ms:List (Nat×Blk)} {src:List ZC} {y:Nat} {k:Blk},iS Ms y=some k -> ∃ o,(y,o,k)∈cn Ms src
  |(y',k')::Ms,src,y,k,h=>by
    simp only[iS]at h
    split at h
    · rename_i he;subst he;cases h
      cases src with
      | nil=>simp_all[cn]
      | cons o s=>simp_all[cn]
    · cases src with
      | nil =>
        obtain⟨o,ho⟩:=rE (src:=[]) h
        exact⟨o,by simp[cn,ho]⟩
      | cons o' s =>
        obtain⟨o,ho⟩:=rE (src:=s) h
        exact⟨o,by simp[cn,ho]⟩
def Jm {R:Blk->Blk->Prop}{b0 nm':Nat}{M:ah}{Ms:List (Nat×Blk)}{src:List ZC}(h:jb R b0 nm' M (cn Ms src)){y:Nat}(hy:nm'<=y):iS Ms y=none:=by
 cases hm:iS Ms y with
 | none=>rfl
 | some k =>
  obtain⟨o,ho⟩:=rE (src:=src) hm
  have:=(nS h ho).1
  omega
def FT {σ:Y8}(hn:(σ.map (·.1)).Nodup){x y:Nat}(h:(x,y)∈σ):aO σ x=some y:=by
 induction σ with
 | nil=>cases h
 | cons p r ih =>
  simp only[Wc,Xg]at hn
  obtain⟨x',y'⟩:=p
  rw[gy]
  grind
section
variable {cx:Cx}
def Lg (R:Blk->Blk->Prop)(σ:Y8)(M:ah)(cx:Cx):Prop:=∀(X:Nat->Prop) (w0:World) (I:Nat->Prop) (ρ ρ':Names) (D':Nat->Prop) (w:World),Rel cx.G X w0 I ρ M w->(∀ x y,aO σ x=some y->ρ' y=ρ x)->(∀ b,D' b->bV X ρ M b)->(∀ x l,aO σ x=none->(M x).isSome=true->ρ x=some l -> ¬ D' l.b) ->
 ∀ k0 k,R k0 k->(∀ l,lP ρ (bV X ρ M) w l k0->lP ρ' D' w l k)/\(k0.rows=[]->k.rows=[])
def yY (σ:Y8)(M:ah):Lg (sX σ) σ M cx:=fun X w0 I ρ ρ' D' w hr hnew hdom hout k0 k h=>by
 obtain⟨g3,g4⟩:=h
 refine⟨fun l a4=>(a4.ren hnew hdom g3).le g4,fun a1=>?_⟩
 have hz:(k0.ren σ).rows=[]:=by simp_all[Blk.ren,j8]
 have:=(rA g4.2.2).1
 grind
def mM {R:Blk->Blk->Prop}(hG:∀ g,(cx.G g).plain=true){b0 nm nm':Nat}{e:Env}{M:ah}{Es:List (Nat×V)}{Ms:List (Nat×Blk)}(src:List ZC)(hK:Lg R (dL (cn Ms src)) M cx)(hn:b0<=nm')(hM:jb R b0 nm' M (cn Ms src))(hE:kC M (dL (cn Ms src)) e Es):pW cx b0 nm e M nm' (lh Es) (iS Ms):=by
  intro N X w0 I ρ0 ρ a w h
  generalize hC:cn Ms src=C at hM hE
  rw[hC]at hK
  generalize hσ:dL C=σ at hM hE hK
  obtain⟨nd1,nd2⟩:=pZ hM
  rw[hσ]at nd1 nd2
  let ρ':Names:=fun y=>if y<b0 then ρ0 y else match bE σ y with|some x=>ρ x|none=>none
  have hnew:∀ x y,aO σ x=some y->ρ' y=ρ x:=fun x y hxy=>by
    have hmem:=ki hxy
    rw[<- hσ,jU]at hmem
    obtain⟨k,hk⟩:=hmem
    obtain⟨g1,g2,g3⟩:=nS hM hk
    show(if y<b0 then ρ0 y else match bE σ y with|some x=>ρ x|none=>none)=ρ x
    by_cases hy:y<b0
    · rw[if_pos hy]
      rcases g2 with g2|rfl
      · omega
      · exact(h.low x hy).symm
    · rw[if_neg hy,qx nd2 (ki hxy)]
  have src':∀ y k,iS Ms y=some k->(∃ x k0,(y,some x,k)∈C/\M x=some k0/\R k0 k/\ρ' y=ρ x/\aO σ x=some y)\/(k.rows=[]/\ρ' y=none):=fun y k hk=>by
    obtain⟨o,ho⟩:=rE (src:=src) hk
    rw[hC]at ho
    obtain⟨g1,g2⟩:=nS hM ho
    cases o with
    | some x =>
      simp only at g2
      obtain⟨g2,g3⟩:=g2
      cases hx:M x with
      | none=>rw[hx]at g3;exact g3.elim
      | some k0 =>
        rw[hx]at g3
        have hin:(x,y)∈σ:=by rw[<- hσ,jU];exact⟨k,ho⟩
        have hnn:aO σ x=some y:=FT nd1 hin
        exact .inl ⟨x,k0,ho,hx,g3,hnew x y hnn,hnn⟩
    | none =>
      simp only at g2
      refine .inr ⟨g2.2.1,?_⟩
      show(if y<b0 then ρ0 y else match bE σ y with|some x=>ρ x|none=>none)=none
      rw[if_neg Y6]
      cases hon:bE σ y with
      | none=>rfl
      | some x =>
        have hin:=dj hon
        rw[<- hσ,jU]at hin
        obtain⟨k',hk'⟩:=hin
        cases B8 hM ho hk'
  have hdom:∀ b,bV X ρ' (iS Ms) b->bV X ρ M b:=by
    rintro b (hx|⟨y,l,h1,h2,h3⟩)
    · exact .inl hx
    · obtain⟨k,hk⟩:=OF.1 h1
      rcases src' y k hk with ⟨x,k0,_,g1,_,g2,_⟩|⟨_,g⟩
      · exact .inr ⟨x,l,by rw[g1];rfl,by rw[<- g2];exact h2,h3⟩
      · rw[h2]at g;cases g
  have hinj:∀ x y y',aO σ x=some y->aO σ x=some y'->y=y':=fun x y y' h1 h2=>by rw[h1]at h2;exact Ww h2
  have hout:∀ x l,aO σ x=none->(M x).isSome=true->ρ x=some l -> ¬ bV X ρ' (iS Ms) l.b:=by
    rintro x l hn hMx hl (hX|⟨y,l',h1,h2,h3⟩)
    · exact(h.rel.block_lt hMx hl).2.1 hX
    · obtain⟨k,hk⟩:=OF.1 h1
      rcases src' y k hk with ⟨x',k0,_,g1,_,g2,g5⟩|⟨_,g⟩
      · have:=h.rel.inj x' x l' l (by rw[g1];rfl) hMx (by rw[<- g2];exact h2) hl h3
        subst this
        rw[hn]at g5;cases g5
      · rw[h2]at g;cases g
  refine⟨ρ',⟨?_,⟨h.env.size,h.env.defers,fun t ht=>?_⟩,fun x hx=>⟨Jm (src:=src) (by rw[hC];exact hM) hx,?_⟩,fun x l hx=>?_,hn,fun x hx=>?_,h.top⟩⟩
  · exact
    { size:=h.rel.size,os:=h.rel.os,tape:=h.rel.tape,output:=h.rel.output,old:=h.rel.old
      live:=fun y k hk=>by
        rcases src' y k hk with ⟨x,k0,_,g1,g3,g2,_⟩|⟨g1,g2⟩
        · obtain⟨q1,q2⟩:=hK X w0 I ρ ρ' (bV X ρ' (iS Ms)) w h.rel hnew hdom hout k0 k g3
          rcases h.rel.live x k0 g1 with ⟨a1,a2⟩|⟨l,a1,a2,a3,a4⟩
          · exact .inl ⟨q2 a1,by rw[g2];exact a2⟩
          · exact .inr ⟨l,by rw[g2];exact a1,a2,a3,q1 l a4⟩
        · exact .inl ⟨g1,g2⟩
      inj:=fun y y' l l' h1 h2 h3 h4 h5=>by
        obtain⟨k,hk⟩:=OF.1 h1
        obtain⟨k',hk'⟩:=OF.1 h2
        rcases src' y k hk with ⟨x,k0,_,g1,_,g2,g5⟩|⟨_,g⟩
        · rcases src' y' k' hk' with ⟨x',k0',_,g1',_,g2',g5'⟩|⟨_,g⟩
          · have:=h.rel.inj x x' l l' (by rw[g1];rfl) (by rw[g1'];rfl) (by rw[<- g2];exact h3) (by rw[<- g2'];exact h4) h5
            subst this
            exact hinj x y y' g5 g5'
          · rw[h4]at g;cases g
        · rw[h3]at g;cases g
      hX:=h.rel.hX
      glob:=fun g=>(h.rel.glob g).plain (IS _) (fun _ _ _=>rfl) (fun b _ hb=>hdom b hb) (hG g) }
  · have key:∀ {L:List (Nat×V)},kC M σ e L->Is ρ' (bV X ρ' (iS Ms)) w (lh L t) (a.tmps.getD t undef):=by
      intro L
      induction L with
      | nil=>intro _;exact .any _
      | cons p r ih =>
        obtain⟨t',v⟩:=p
        intro hc
        simp only[lh]
        split
        · rename_i he
          subst he
          exact(qh (cx:=cx) h.rel hnew hdom hout (h.env.is t ht) hc.1.1).le _ hc.1.2
        · exact ih hc.2
    exact key hE
  · show(if x<b0 then ρ0 x else match bE σ x with|some x=>ρ x|none=>none)=none
    rw[if_neg Y6]
    cases hon:bE σ x with
    | none=>rfl
    | some z =>
      have hin:=dj hon
      rw[<- hσ,jU]at hin
      obtain⟨k',hk'⟩:=hin
      have:=(nS hM hk').1
      omega
  · show(if x<b0 then ρ0 x else match bE σ x with|some x=>ρ x|none=>none)=some l
    by_cases hxb:x<b0
    · rw[if_pos hxb];exact hx
    · rw[h.top x Y6]at hx;cases hx
  · show(if x<b0 then ρ0 x else match bE σ x with|some x=>ρ x|none=>none)=ρ0 x
    rw[if_pos hx]
def xu (hG:∀ g,(cx.G g).plain=true){b0 nm nm':Nat}{e:Env}{M:ah}{Es:List (Nat×V)}{Ms:List (Nat×Blk)}(src:List ZC)(hn:b0<=nm')(hM:jb (sX (dL (cn Ms src))) b0 nm' M (cn Ms src))(hE:kC M (dL (cn Ms src)) e Es):pW cx b0 nm e M nm' (lh Es) (iS Ms) :=
 mM hG src (yY _ _) hn hM hE
def pD {α:Type}(μ:α->Nat)(P:α->Prop)(nmS:Nat)(Es:α->List (Nat×V))(Ms:α->List (Nat×Blk))(g nm:Nat)(e:Env)(M:ah):Prop:=∃ x,μ x=g/\P x/\nm=nmS/\e=lh (Es x)/\M=iS (Ms x)
variable {Q:Post} {st:List Frm} {nm:Nat} {e:Env} {M:ah}
def MX {c:Code}(hG:∀ g,(cx.G g).plain=true){α:Type}(μ:α->Nat)(P:α->Prop)(nmS:Nat)(Es:α->List (Nat×V))(Ms:α->List (Nat×Blk))(x0:α)(src:List ZC)(h0:P x0)(hb:Q.b0<=nmS)
  (hM:jb (sX (dL (cn (Ms x0) src))) Q.b0 nmS M (cn (Ms x0) src)) (hE:kC M (dL (cn (Ms x0) src)) e (Es x0))
  (hr:∀ x,P x->go cx Q (.again (pD μ P nmS Es Ms) (μ x)::st) nmS (lh (Es x)) (iS (Ms x)) c):mZ cx Q st nm e M c :=
 Hp (pD μ P nmS Es Ms) (μ x0) (xu hG src hb hM hE) ⟨x0,rfl,h0,rfl,rfl,rfl⟩ (by rintro g nm e M ⟨x,rfl,hP,rfl,rfl,rfl⟩;exact hr x hP)
def HT (hG:∀ g,(cx.G g).plain=true){α:Type}{μ:α->Nat}{P:α->Prop}{nmS:Nat}{Es:α->List (Nat×V)}{Ms:α->List (Nat×Blk)}{g:Nat}(x:α)(src:List ZC)(hg:μ x<g)(h0:P x)(hb:Q.b0<=nmS)
  (hM:jb (sX (dL (cn (Ms x) src))) Q.b0 nmS M (cn (Ms x) src)) (hE:kC M (dL (cn (Ms x) src)) e (Es x)):dP cx Q (.again (pD μ P nmS Es Ms) g::st) nm e M .normal :=
 BP (μ x) hg (xu hG src hb hM hE) ⟨x,rfl,h0,rfl,rfl,rfl⟩
end
def ye (o:Obj):Blk:=@Blk.mk 0 [] (.obj o)
section
variable {G:Nat->V} {X:Nat->Prop} {w0:World} {I:Nat->Prop} {ρ:Names} {M:ah} {w w':World} {D:Nat->Prop}
def sQ (h:Rel G X w0 I ρ M w){y:Nat}{o:Obj}(hM:M y=some (ye o)){l:Loc}(hl:ρ y=some l):w.heap[l.b]? = some o/\l.sz=0/\l.tot=0/\l.o=0:=by
 rcases h.live y _ hM with ⟨_,a⟩|⟨l',a1,_,_,⟨cs,e,a2,_⟩|⟨o',_,ms',buf,_,_,a2,a3,a4,_,a5,a6,a7⟩⟩
 ·rw[hl]at a;cases a
 ·exact a2.elim
 ·rw[hl]at a1;cases a1
  obtain⟨rfl,_,h0⟩:=a2
  exact⟨a3,a4.symm,a5,h0⟩
def setAt (w:World)(b:Nat)(o:Obj):World:={ w with heap:=w.heap.setIfInBounds b o }
def Gz {b:Nat}{o:Obj}(h:b<w.heap.size):(setAt w b o).heap[b]? = some o:=by simp[setAt,h]
def Rel.setObj (h:Rel G X w0 I ρ M w){y:Nat}{o o':Obj}(hM:M y=some (ye o)){l:Loc}(hl:ρ y=some l) :
  Rel G X w0 I ρ (M.put y (some (ye o'))) (setAt w l.b o')/\Moves ρ M w ρ (M.put y (some (ye o'))) (setAt w l.b o'):=by
 obtain⟨hh,hz,ht,h0⟩:=sQ h hM hl
 have hk:∀ b,b≠l.b->(setAt w l.b o').heap[b]? = w.heap[b]?:=fun b hb=>by
  simp only[setAt];rw[Array.getElem?_setIfInBounds_ne (WU hb)]
 have hs:∀ x,((M.put y (some (ye o'))) x).isSome=true->(M x).isSome=true:=fun x hx=>by
  by_cases e:x=y
  ·subst e;rw[hM];rfl
  ·rwa[ah.put_ne _ _ e]at hx
 have m:Moves ρ M w ρ (M.put y (some (ye o'))) (setAt w l.b o') :=
  ⟨fun _ _ h=>h,by simp[setAt],rfl,rfl,rfl,fun b _ hn=>hk b (fun e=>hn y l (by rw[hM];rfl) hl e.symm),fun n l' a1 a2 _=>⟨n,l',hs n a1,a2,rfl⟩⟩
 refine⟨h.move m (fun a b l1 l2 a1 a2 a3 a4 a5=>h.inj a b l1 l2 (hs a a1) (hs b a2) a3 a4 a5) ?_,m⟩
 intro x kx hx
 by_cases e:x=y
 ·subst e
  rw[ah.put_same]at hx
  cases hx
  obtain⟨b1,b2,b3⟩:=h.block_lt (by rw[hM];rfl) hl
  exact .inr (.inr ⟨l,hl,b3,b2,.inr ⟨_,(),[],#[],(),(),⟨rfl,rfl,h0⟩,Gz b1,hz.symm,rfl,ht,rfl,fun i u hi=>by simp at hi⟩⟩)
 ·rw[ah.put_ne _ _ e]at hx
  exact .inl ⟨hx,id,fun lx hlx=>hk _ (fun e2=>e (h.inj x y lx l (by rw[hx];rfl) (by rw[hM];rfl) hlx hl e2))⟩
def Rel.newObj (h:Rel G X w0 I ρ M w){nm:Nat}(hM:M nm=none)(hρ:ρ nm=none)(o:Obj){v:V}{cv:Value}(hv:∀ ρ D w',ρ nm=some ⟨w.heap.size,0,0,0⟩->Is ρ D w' v cv) :
  db G X w0 I ρ M w nm v (M.put nm (some (ye o))) cv (w.alloc o):=by
 have hne:∀ x,(M x).isSome=true->x≠nm:=fun x hx e=>by subst e;rw[hM]at hx;cases hx
 have hlt:∀ x l,(M x).isSome=true->ρ x=some l->l.b<w.heap.size:=fun x l hx hl=>(h.block_lt hx hl).1
 have m:Moves ρ M w (ρ.put nm ⟨w.heap.size,0,0,0⟩) (M.put nm (some (ye o))) (w.alloc o):=by
  refine⟨fun x l hx=>by rw[Names.put_ne _ _ (fun e=>by subst e;rw[hρ]at hx;cases hx)];exact hx,by simp,rfl,rfl,rfl,fun b hb _=>Below.heap_alloc _ _ _ hb,fun x l a1 a2 a3=>?_⟩
  by_cases e:x=nm
  ·subst e;rw[Names.put_same]at a2;cases a2;simp at a3
  ·rw[Names.put_ne _ _ e]at a2;rw[ah.put_ne _ _ e]at a1
   exact⟨x,l,a1,a2,rfl⟩
 refine⟨ρ.put nm ⟨w.heap.size,0,0,0⟩,h.move m ?_ ?_,m,hv _ _ _ (Names.put_same _ _ _),fun x hx=>Names.put_ne _ _ hx⟩
 ·intro x y l l' a1 a2 a3 a4 a5
  by_cases ex:x=nm
  ·subst ex
   rw[Names.put_same]at a3;cases a3
   by_cases ey:y=x
   ·exact ey.symm
   ·rw[Names.put_ne _ _ ey]at a4;rw[ah.put_ne _ _ ey]at a2
    have:=hlt y l' a2 a4
    simp at a5;omega
  ·rw[Names.put_ne _ _ ex]at a3;rw[ah.put_ne _ _ ex]at a1
   have:=hlt x l a1 a3
   by_cases ey:y=nm
   ·subst ey
    rw[Names.put_same]at a4;cases a4
    simp at a5;omega
   ·rw[Names.put_ne _ _ ey]at a4;rw[ah.put_ne _ _ ey]at a2
    exact h.inj x y l l' a1 a2 a3 a4 a5
 ·intro x kx hx
  by_cases ex:x=nm
  ·subst ex
   rw[ah.put_same]at hx;cases hx
   refine .inr (.inr ⟨_,Names.put_same _ _ _,.inr h.size,fun hX=>?_,.inr ⟨_,(),[],#[],(),(),⟨rfl,rfl,rfl⟩,heap_alloc_new w _,rfl,rfl,rfl,rfl,fun i u hi=>by simp at hi⟩⟩)
   have:=(h.hX _ hX).1
   have:=h.size
   simp at *;omega
  ·rw[ah.put_ne _ _ ex]at hx
   exact .inl ⟨hx,fun hn=>by rw[Names.put_ne _ _ ex];exact hn,fun lx hlx=>Below.heap_alloc _ _ _ (hlt x lx (by rw[hx];rfl) hlx)⟩
end
def mb (s:ZA)(pos:Nat):Blk:=ye (.stringIter ⟨s.toArray⟩ pos)
def gM (σ:Y8)(s:ZA)(p:Nat):Blk.ren σ (mb s p)=mb s p:=rfl
def eS (σ:Y8)(s:ZA)(p:Nat):Blk.renOk σ (mb s p)=true:=rfl
def br (s:ZA)(pos:Nat):Nat×Nat:=Utf8.decode ⟨s.toArray⟩ pos
section
variable {cx:Cx} {Q:Post} {st:List Frm} {nm:Nat} {e:Env} {M:ah} {d:Bool} {fs:Y9} {ops r:ZD} {dst:Option Tmp} {t:TypeId} {pos:String} {af:Array Edge} {gd:Option (Nat×Bool)} {i:Nat}
def o8 {ty:TypeId}{x:Operand}{s:ZA}(hx:ap cx.G true e x = .str s)(ht:cx.P.underlying ty=some .string)
  (h:bb cx Q st nm (e.putD dst (.ptr (nm+16*i) 0 0)) (M.app [(nm+16*i,some (mb s 0))]) d (fs++[[nm+16*i]]) ops r (i+1)):eH cx Q st nm e M d fs ops ⟨dst,.range ty x,t,pos,af,gd⟩ r i:=by
 refine⟨_,_,_,⟨fun x hx=>hx,fun x hx=>?_,fun _=>rfl,fun _=>rfl,?_⟩,h⟩
 ·simp only[al,Wc,Wx,WW]at hx
  subst hx;exact .inr ⟨IS _,by omega⟩
 ·intro N X w0 I ρ e' M' a w hr he hin hev _ hf
  obtain⟨f1,f2⟩:=hf (nm+16*i) ⟨IS _,by omega⟩
  have hxi:=he.eval hr (c:=true) rfl (hin x (by simp[Op.operands]))
  rw[hev x (by simp[Op.operands]),hx]at hxi
  generalize hcv:a.eval x=cv at hxi
  cases hxi
  refine⟨_,_,(Rel.newObj (v:=.ptr (nm+16*i) 0 0) hr f1 f2 (.stringIter ⟨s.toArray⟩ 0) (cv:=.pointer (some ⟨w.heap.size,0,none⟩)) (fun ρ D w' hl=>?_)).n,iX (s:=Instr.range ty (a.eval x)) rfl ?_⟩
  ·have:=Is.ptr (D:=D) (w:=w') (i:=0) (j:=0) hl
   simpa using this
  ·rw[hcv];exact run_range_string w ty _ ht
def run_next_at {P:Program}{w:World}{b:Nat}{s:ByteArray}{p:Nat}(ty:TypeId)(hb:w.heap[b]? = some (.stringIter s p))(h:p<s.size) :
  (Instr.next (.pointer (some ⟨b,0,none⟩)) true ty).run P w = .ok (.tuple #[.bool true,.int .i64 p,.int .i32 (Utf8.decode s p).1]) (setAt w b (.stringIter s (p+(Utf8.decode s p).2))):=by
 simp only[Instr.next,getObj,Go.setObj,Sem.run_bind,Sem.run,hb,Result.andThen,h,WQ]
 simp[goInt,setAt]
def yi {P:Program}{w:World}{b:Nat}{s:ByteArray}{p:Nat}(ty:TypeId)(hb:w.heap[b]? = some (.stringIter s p))(h:¬ p<s.size) :
  (Instr.next (.pointer (some ⟨b,0,none⟩)) true ty).run P w = .ok (.tuple #[.bool false]) w:=by
 simp[Instr.next,getObj,Sem.run,hb,h]
def jE {x:Operand}{s:ZA}{y p:Nat}(hx:ap cx.G true e x = .ptr y 0 0)(hM:M y=some (mb s p))(hp:p<s.length)
  (h:bb cx Q st nm (e.putD dst (.tup [.bool true,.int .i64 p,.int .i32 (br s p).1])) (M.app [(y,some (mb s (p+(br s p).2)))]) d (fs++[[y]]) ops r (i+1)):eH cx Q st nm e M d fs ops ⟨dst,.next x true,t,pos,af,gd⟩ r i:=by
 refine⟨_,_,_,⟨fun x hx=>hx,fun x hx=>?_,fun _=>rfl,fun _=>rfl,?_⟩,h⟩
 ·simp only[al,Wc,Wx,WW]at hx
  subst hx;exact .inl (by rw[hM];rfl)
 ·intro N X w0 I ρ e' M' a w hr he hin hev hMM hf
  have hxi:=he.eval hr (c:=true) rfl (hin x (by simp[Op.operands]))
  rw[hev x (by simp[Op.operands]),hx]at hxi
  have hM':M' y=some (mb s p):=by rw[hMM y (WW.2 rfl)];exact hM
  generalize hcv:a.eval x=cv at hxi
  cases hxi with
  | ptr hl =>
   rename_i l
   obtain⟨hh,hz,ht,h0⟩:=sQ hr hM' hl
   obtain⟨g1,g2⟩:=Rel.setObj hr hM' hl (o':=.stringIter ⟨s.toArray⟩ (p+(br s p).2))
   refine⟨_,_,⟨ρ,g1,g2,Jc (.bool _) (.int _ _) (.int _ _),fun _ _=>rfl⟩,iX (s:=Instr.next (a.eval x) true t) rfl ?_⟩
   rw[hcv,h0,hz]
   exact run_next_at t hh (by simpa [ByteArray.size] using hp)
def re {x:Operand}{s:ZA}{y p:Nat}(hx:ap cx.G true e x = .ptr y 0 0)(hM:M y=some (mb s p))(hp:¬ p<s.length)
  (h:bb cx Q st nm (e.putD dst (.tup [.bool false])) M d (fs++[[y]]) ops r (i+1)):eH cx Q st nm e M d fs ops ⟨dst,.next x true,t,pos,af,gd⟩ r i:=by
 refine⟨_,[],_,⟨fun x hx=>by simp[al]at hx,fun x hx=>by simp[al]at hx,fun _=>rfl,fun _=>rfl,?_⟩,h⟩
 intro N X w0 I ρ e' M' a w hr he hin hev hMM hf
 have hxi:=he.eval hr (c:=true) rfl (hin x (by simp[Op.operands]))
 rw[hev x (by simp[Op.operands]),hx]at hxi
 have hM':M' y=some (mb s p):=by rw[hMM y (WW.2 rfl)];exact hM
 generalize hcv:a.eval x=cv at hxi
 cases hxi with
 | ptr hl =>
  rename_i l
  obtain⟨hh,hz,ht,h0⟩:=sQ hr hM' hl
  refine⟨.tuple #[.bool false],w,(db.still (nm:=nm+16*i) hr (.tup rfl (fun i u cv hi hc=>?_))).n,iX (s:=Instr.next (a.eval x) true t) rfl ?_⟩
  ·cases i with
   | zero=>simp at hi hc;subst hi;subst hc;exact .bool _
   | succ i=>simp at hi
  ·rw[hcv,h0,hz]
   exact yi t hh (by simpa [ByteArray.size] using hp)
end
def Ev.extern {cx : Cx} {f : FuncId} {fn : Func} {g : ZG -> Sem Value} (hf : cx.P.funcs[f]? = some fn) (hname : (fn.name == "runtime.NumGoroutine") = false) (hb : fn.body.isNone = true) (hn : Extern.findNext fn = none)
  (he:Extern.find fn=some g) (args:List V) (M:ah) (v:V) (nm:Nat)
  (hrun:∀(ρ:Names) (D:Nat->Prop) (w:World) (cargs:ZG),args.length=cargs.size->(∀(i:Nat) (u:V) (cv:Value),args[i]? = some u->cargs[i]? = some cv->Is ρ D w u cv) -> ∃ cv,(g cargs).run cx.P w = .ok cv w/\Is ρ D w v cv) :
  Ev cx f nm args M v []:=by
 refine⟨trivial,fun X w ρ cargs B hr hfr hB hlen hargs=>?_⟩
 obtain⟨cv,h1,h2⟩:=hrun ρ _ w cargs hlen hargs
 refine .inr ⟨cv,w,?_,cv,rfl,ρ,hr,.refl _ _ _,h2,fun _ _=>rfl⟩
 simp_all[run_callFunc_extern]
def Ev.indexByte {cx : Cx} {f : FuncId} {fn : Func} (hf : cx.P.funcs[f]? = some fn) (hname : (fn.name == "runtime.NumGoroutine") = false) (hb : fn.body.isNone = true) (hn : Extern.findNext fn = none)
  (he:Extern.find fn=some Extern.BytealgIndexByte.indexByte) (s:ZA) (c:UInt8) (M:ah) (nm:Nat):Ev cx f nm [.str s,.int .u8 c.toNat] M (.int .i64 (Lib.indexByte s c)) []:=by
 refine Ev.extern hf hname hb hn he _ _ _ _ (fun ρ D w cargs hlen hargs=>?_)
 match cargs,hlen,hargs with
 |⟨[v0,v1]⟩,_,hargs =>
 have h0:=hargs 0 _ v0 rfl rfl
 have h1:=hargs 1 _ v1 rfl rfl
 cases h0;cases h1
 refine⟨_,Lib.run_indexByteString _ _ _,?_⟩
 simp only[Int.toNat_natCast]
 have:(c.toNat).toUInt8=c:=by simp
 rw[this]
 exact .int _ _
def Ev.noEscape {cx : Cx} {f : FuncId} {fn : Func} (hf : cx.P.funcs[f]? = some fn) (hname : (fn.name == "runtime.NumGoroutine") = false) (hb : fn.body.isNone = true) (hn : Extern.findNext fn = none)
  (he:Extern.find fn=some Extern.AbiNoEscape.same) (v:V) (M:ah) (nm:Nat):Ev cx f nm [v] M v []:=by
 refine Ev.extern hf hname hb hn he _ _ _ _ (fun ρ D w cargs hlen hargs=>?_)
 match cargs,hlen,hargs with
 |⟨[v0]⟩,_,hargs=>exact⟨v0,Lib.run_noEscape _ v0,hargs 0 _ v0 rfl rfl⟩
def Dh {P:Program}{e:TypeId}{s:Nat}(hs:0<s)(hc:P.cellsOf e=s)(count n:Nat)(hn:n<=count):liesAt P P.depth e count 0 e n=true:=by
 have hd:P.depth=(2*(P.types.size+Made.depth)+1)+1:=rfl
 have h0:¬ s=0:=Y6
 rw[hd]
 simp only[liesAt,Xf]
 left
 simp_all[rowAt,sameLayout]
def Hj (P:Program)(t:TypeId):Bool:=match P.info? t with
 | some j=>decide (j.size≠0)
 | none=>false
section
variable {cx:Cx} {Q:Post} {st:List Frm} {nm:Nat} {e:Env} {M:ah} {d:Bool} {fs:Y9} {ops r:ZD} {dst:Option Tmp} {t:TypeId} {pos:String} {af:Array Edge} {gd:Option (Nat×Bool)} {i:Nat}
def rT {G:Nat->V}{X:Nat->Prop}{w0:World}{I:Nat->Prop}{ρ:Names}{w:World}(h:Rel G X w0 I ρ M w){y:Nat}{k:Blk}(hM:M y=some k)(hk:k.ob.isRow=true){l:Loc}(hl:ρ y=some l) :
  ∃ cs el,k.ob.okCells el l/\w.heap[l.b]? = some (.cells cs el l.frz)/\k.sz=l.sz/\k.rows.length<=l.tot/\l.o+l.tot*l.sz<=cs.size/\(∀(i:Nat) (row:List V),k.rows[i]? = some row->row.length=l.sz) /\
   ∀(i j:Nat) (row:List V) (u:V),k.rows[i]? = some row->row[j]? = some u -> ∃ cv,cs[l.o+i*l.sz+j]? = some cv/\Is ρ (bV X ρ M) w u cv:=by
 rcases h.live y k hM with ⟨_,a⟩|⟨l',a1,_,_,⟨cs,el,a2⟩|⟨o',_,ms',buf,_,_,a2,_⟩⟩
 ·simp_all
 ·grind
 ·exfalso
  cases ho:k.ob with
  | cells=>rw[ho]at a2;exact a2
  | typed t=>rw[ho]at a2;exact a2
  | chan a b c=>rw[ho]at hk;cases hk
  | obj o=>rw[ho]at hk;cases hk
def wX {w:World}{b:Nat}{cs:ZG}{el:TypeId}{fz:Nat×Nat}(h:w.heap[b]? = some (.cells cs el fz)):w.shape? b=some (el,cs.size):=by simp[World.shape?,h]
def rh {s dt te:TypeId}{x:Operand}{y sz:Nat}{row:List V}{rows:List (List V)}{o:Ob}(hx:ap cx.G true e x = .ptr y 0 0)(hM:M y=some (@Blk.mk sz (row::rows) o))(ho:o.isRow=true)(hz:0<sz)
  (hs:cx.P.underlying s=some (.pointer te)) (hd:cx.P.underlying dt=some .unsafePointer) (hinf:Hj cx.P te=true)
  (h:bb cx Q st nm (e.putD dst (.ptr y 0 0)) M d (fs++[[y]]) ops r (i+1)):eH cx Q st nm e M d fs ops ⟨dst,.convert s dt x,t,pos,af,gd⟩ r i:=by
 obtain⟨j,ht,hj⟩:∃ j,cx.P.info? te=some j/\j.size≠0:=by
  unfold Hj at hinf
  grind
 refine⟨_,[],_,⟨fun x hx=>by grind[al],fun x hx=>by grind[al],fun h=>absurd rfl h,fun _=>rfl,?_⟩,h⟩
 intro N X w0 I ρ e' M' a w hr he hin hev hMM hf
 have hxi:=he.eval hr (c:=true) rfl (hin x (by simp[Op.operands]))
 rw[hev x (by simp[Op.operands]),hx]at hxi
 have hM':M' y=some (@Blk.mk sz (row::rows) o):=by simp_all
 generalize hcv:a.eval x=cv at hxi
 cases hxi with
 | ptr hl =>
  rename_i l
  obtain⟨cs,el,_,hh,h1,h2,h3,_⟩:=rT hr hM' ho hl
  simp only[List.length_cons]at h1 h2
  refine⟨_,w,(db.still (nm:=nm+16*i) hr (.ptr (i:=0) (j:=0) hl)).n,iX (s:=convert s dt (a.eval x)) rfl ?_⟩
  rw[hcv]
  refine Lib.run_to_unsafe w ⟨l.b,l.o+0*l.sz+0,none⟩ hs hd ht hj (wX hh) ?_
  have:=Nat.le_mul_of_pos_left l.sz (show 0<l.tot by omega)
  grind
def nZ {s dt u:TypeId}{x:Operand}{y sz:Nat}{row:List V}{rows:List (List V)}(hx:ap cx.G true e x = .ptr y 0 0)(hM:M y=some (@Blk.mk sz (row::rows) (.typed u)))(hz:0<sz)
  (hs:cx.P.underlying s=some .unsafePointer) (hd:cx.P.underlying dt=some (.pointer u)) (hu:(cx.P.info? u).isSome=true) (hc:cx.P.cellsOf u=sz)
  (h:bb cx Q st nm (e.putD dst (.ptr y 0 0)) M d (fs++[[y]]) ops r (i+1)):eH cx Q st nm e M d fs ops ⟨dst,.convert s dt x,t,pos,af,gd⟩ r i:=by
 obtain⟨j,hu⟩:=OF.1 hu
 refine⟨_,[],_,⟨fun x hx=>by grind[al],fun x hx=>by grind[al],fun h=>absurd rfl h,fun _=>rfl,?_⟩,h⟩
 intro N X w0 I ρ e' M' a w hr he hin hev hMM hf
 have hxi:=he.eval hr (c:=true) rfl (hin x (by simp[Op.operands]))
 rw[hev x (by simp[Op.operands]),hx]at hxi
 have hM':M' y=some (@Blk.mk sz (row::rows) (.typed u)):=by simp_all
 generalize hcv:a.eval x=cv at hxi
 cases hxi with
 | ptr hl =>
  rename_i l
  obtain⟨cs,el,hok,hh,h1,h2,h3,_⟩:=rT hr hM' rfl hl
  obtain⟨rfl,h0⟩:=hok
  simp only[List.length_cons]at h1 h2
  refine⟨_,w,(db.still (nm:=nm+16*i) hr (.ptr (i:=0) (j:=0) hl)).n,iX (s:=convert s dt (a.eval x)) rfl ?_⟩
  rw[hcv]
  refine Lib.run_from_unsafe w ⟨l.b,l.o+0*l.sz+0,none⟩ hs hd hu (wX hh) ?_
  show liesAt cx.P cx.P.depth el (cs.size / cx.P.cellsOf el) (l.o+0*l.sz+0) el 1=true
  rw[h0,YR]
  refine Dh hz hc _ _ ?_
  rw[hc,Nat.le_div_iff_mul_le hz,X2,h1]
  have:=Nat.le_mul_of_pos_left l.sz (show 0<l.tot by omega)
  omega
def xV {as:ZE}{ts:ZF}{x:Operand}(has:as.toList=[x]){y n:Nat}(hx:ap cx.G true e x = .own y 0 n)(hn:0<n)
  (h:bb cx Q st nm (e.putD dst (.ptr y 0 0)) M d (fs++[[]]) ops r (i+1)):eH cx Q st nm e M d fs ops ⟨dst,.call ⟨.builtin .unsafeSliceData,as,ts⟩,t,pos,af,gd⟩ r i:=by
 obtain rfl:as = #[x]:=by grind
 refine⟨_,[],_,⟨fun x hx=>by grind[al],fun x hx=>by grind[al],fun h=>absurd rfl h,fun h=>absurd rfl h,?_⟩,h⟩
 intro N X w0 I ρ e' M' a w hr he hin hev _ hf
 have hxi:=he.eval hr (c:=true) rfl (hin x (by simp[Op.operands,Call.operands]))
 rw[hev x (by simp[Op.operands,Call.operands]),hx]at hxi
 generalize hcv:a.eval x=cv at hxi
 cases hxi with
 | own0=>omega
 | own hl hlc hnc =>
  rename_i c l
  refine⟨.pointer (some ⟨l.b,l.o+0*l.sz,none⟩),w,(db.still (nm:=nm+16*i) hr ?_).n,nv (s:=Builtin.unsafeSliceData_ ts t (#[x].map a.eval)) (fun _=>rfl) ?_⟩
  ·have:=Is.ptr (D:=bV X ρ M') (w:=w) (i:=0) (j:=0) hl
   omega
  ·rw[show #[x].map a.eval = #[a.eval x] by simp,hcv]
   exact Lib.run_unsafeSliceData_row w ts t _ _ _ Y6
def rf {as:ZE}{ts:ZF}{x:Operand}(has:as.toList=[x])(hx:ap cx.G true e x = .nils)
  (h:bb cx Q st nm (e.putD dst .nilp) M d (fs++[[]]) ops r (i+1)):eH cx Q st nm e M d fs ops ⟨dst,.call ⟨.builtin .unsafeSliceData,as,ts⟩,t,pos,af,gd⟩ r i:=by
 obtain rfl:as = #[x]:=by grind
 refine⟨_,[],_,⟨fun x hx=>by grind[al],fun x hx=>by grind[al],fun h=>absurd rfl h,fun h=>absurd rfl h,?_⟩,h⟩
 intro N X w0 I ρ e' M' a w hr he hin hev _ hf
 have hxi:=he.eval hr (c:=true) rfl (hin x (by simp[Op.operands,Call.operands]))
 rw[hev x (by simp[Op.operands,Call.operands]),hx]at hxi
 generalize hcv:a.eval x=cv at hxi
 cases hxi
 refine⟨.pointer none,w,(db.still (nm:=nm+16*i) hr .nilp).n,nv (s:=Builtin.unsafeSliceData_ ts t (#[x].map a.eval)) (fun _=>rfl) ?_⟩
 rw[show #[x].map a.eval = #[a.eval x] by simp,hcv]
 rfl
def AD {w:World}{a:Addr}{n b:Nat}(hb:b≠a.block):(w.freeze a n).heap[b]? = w.heap[b]?:=by
 unfold World.freeze
 grind
def AC (w:World)(a:Addr)(n:Nat):(w.freeze a n).heap.size=w.heap.size/\(w.freeze a n).os=w.os/\(w.freeze a n).tape=w.tape/\(w.freeze a n).output=w.output:=by
 grind[World.freeze]
def Rel.lost {G:Nat->V}{X:Nat->Prop}{w0:World}{I:Nat->Prop}{ρ:Names}{w w':World}(h:Rel G X w0 I ρ M w){y:Nat}{l:Loc}(hM:(M y).isSome=true)(hl:ρ y=some l)(hs:w'.heap.size=w.heap.size)(hos:w'.os=w.os)(htp:w'.tape=w.tape)(hout:w'.output=w.output)
  (hk:∀ b,b≠l.b->w'.heap[b]? = w.heap[b]?):Rel G X w0 I ρ (M.put y none) w'/\Moves ρ M w ρ (M.put y none) w':=by
 have hne:∀ x,((M.put y none) x).isSome=true->x≠y/\(M x).isSome=true:=fun x hx=>by
  by_cases e:x=y
  ·subst e;rw[ah.put_same]at hx;cases hx
  ·rw[ah.put_ne _ _ e]at hx;exact⟨e,hx⟩
 have m:Moves ρ M w ρ (M.put y none) w':=⟨fun _ _ h=>h,Nat.le_of_eq hs.symm,hos,htp,hout,fun b _ hn=>hk b (fun e=>hn y l hM hl e.symm),fun n l' a1 a2 _=>⟨n,l',(hne n a1).2,a2,rfl⟩⟩
 refine⟨h.move m (fun a b l1 l2 a1 a2 a3 a4 a5=>h.inj a b l1 l2 (hne a a1).2 (hne b a2).2 a3 a4 a5) ?_,m⟩
 intro x kx hx
 obtain⟨e,hs'⟩:=hne x (by rw[hx];rfl)
 rw[ah.put_ne _ _ e]at hx
 exact .inl ⟨hx,id,fun lx hlx=>hk _ (fun e2=>e (h.inj x y lx l hs' hM hlx hl e2))⟩
def sr {as:ZE}{pt it u:TypeId}{x z:Operand}(has:as.toList=[x,z]){y:Nat}{bs:ZA}(hx:ap cx.G true e x = .ptr y 0 0)(hz:ap cx.G true e z = .int .i64 bs.length)
  (hM:M y=some (@Blk.mk 1 (bs.map av) (.typed u))) (h0:bs≠[]) (h63:bs.length<=9223372036854775807) (hp:cx.P.underlying pt=some (.pointer u)) (hc:cx.P.cellsOf u=1)
  (h:bb cx Q st nm (e.putD dst (.str bs)) (M.app [(y,none)]) d (fs++[[y]]) ops r (i+1)):eH cx Q st nm e M d fs ops ⟨dst,.call ⟨.builtin .unsafeString,as,#[pt,it]⟩,t,pos,af,gd⟩ r i:=by
 obtain rfl:as = #[x,z]:=by grind
 refine⟨_,_,_,⟨fun x hx=>hx,fun x hx=>?_,fun _=>rfl,fun _=>rfl,?_⟩,h⟩
 ·simp_all[al]
 ·intro N X w0 I ρ e' M' a w hr he hin hev hMM hf
  have hxi:=he.eval hr (c:=true) rfl (hin x (by simp[Op.operands,Call.operands]))
  rw[hev x (by simp[Op.operands,Call.operands]),hx]at hxi
  have hzi:=he.eval hr (c:=true) rfl (hin z (by simp[Op.operands,Call.operands]))
  rw[hev z (by simp[Op.operands,Call.operands]),hz]at hzi
  have hM':M' y=some (@Blk.mk 1 (bs.map av) (.typed u)):=by rw[hMM y (WW.2 rfl)];exact hM
  generalize hcv:a.eval x=cv at hxi
  generalize hcz:a.eval z=cz at hzi
  cases hzi
  cases hxi with
  | ptr hl =>
   rename_i l
   obtain⟨cs,el,hok,hh,h1,h2,h3,_,h5⟩:=rT hr hM' rfl hl
   obtain⟨rfl,ho⟩:=hok
   simp only[Xm]at h1 h2
   obtain⟨f1,f2,f3,f4⟩:=AC w ⟨l.b,0,none⟩ bs.length
   obtain⟨g1,g2⟩:=Rel.lost hr (by rw[hM'];rfl) hl f1 f2 f3 f4 (fun b hb=>AD hb)
   refine⟨.string ⟨bs.toArray⟩,_,⟨ρ,g1,g2,.str _,fun _ _=>rfl⟩,nv (s:=Builtin.unsafeString_ #[pt,it] t (#[x,z].map a.eval)) (fun _=>rfl) ?_⟩
   rw[show #[x,z].map a.eval = #[a.eval x,a.eval z] by simp,hcv,hcz,ho,YR]
   refine Lib.run_unsafeString_row w pt it t el hp hc l.b cs.size (wX hh) bs h0 (by grind) h63 (fun j b hj=>?_)
   obtain⟨cv,c1,c2⟩:=h5 j 0 (av b) (.int .u8 b.toNat) (by simp_all) rfl
   cases c2
   rw[<- h1,ho]at c1
   have:(⟨l.b,0,none⟩:Addr).add j=⟨l.b,j,none⟩:=by
    simp_all[Addr.add]
   rw[this]
   simp only[World.cell?,hh]
   simpa using c1
def oc {as:ZE}{pt it:TypeId}{x z:Operand}(has:as.toList=[x,z])(hx:ap cx.G true e x = .nilp)(hz:ap cx.G true e z = .int .i64 0)
  (h:bb cx Q st nm (e.putD dst (.str [])) M d (fs++[[]]) ops r (i+1)):eH cx Q st nm e M d fs ops ⟨dst,.call ⟨.builtin .unsafeString,as,#[pt,it]⟩,t,pos,af,gd⟩ r i:=by
 obtain rfl:as = #[x,z]:=by grind
 refine⟨_,[],_,⟨fun x hx=>by grind[al],fun x hx=>by grind[al],fun h=>absurd rfl h,fun h=>absurd rfl h,?_⟩,h⟩
 intro N X w0 I ρ e' M' a w hr he hin hev _ hf
 have hxi:=he.eval hr (c:=true) rfl (hin x (by simp[Op.operands,Call.operands]))
 rw[hev x (by simp[Op.operands,Call.operands]),hx]at hxi
 have hzi:=he.eval hr (c:=true) rfl (hin z (by simp[Op.operands,Call.operands]))
 rw[hev z (by simp[Op.operands,Call.operands]),hz]at hzi
 generalize hcv:a.eval x=cv at hxi
 generalize hcz:a.eval z=cz at hzi
 cases hxi;cases hzi
 refine⟨.string .empty,w,(db.still (nm:=nm+16*i) hr (.str [])).n,nv (s:=Builtin.unsafeString_ #[pt,it] t (#[x,z].map a.eval)) (fun _=>rfl) ?_⟩
 rw[show #[x,z].map a.eval = #[a.eval x,a.eval z] by simp,hcv,hcz]
 rfl
end
def oQ:V->Value
 | .bool b=>.bool b
 | .int k n=>.int k n
 | .str s=>.string ⟨s.toArray⟩
 | .nilp=>.pointer none
 | .nils=>.slice none 0 0
 | .val v=>v
 | _=>undef
def qu:V->Bool
 | .bool _ | .int _ _ | .str _ | .nilp | .nils | .val _=>true
 | _=>false
def valOf:V->Value
 | .agg cells=>.agg (cells.map oQ).toArray
 | v=>oQ v
def known:V->Bool
 | .agg cells=>cells.all qu
 | v=>qu v
def z6 {ρ:Names}{D:Nat->Prop}{w:World}{v:V}{cv:Value}(hk:qu v=true)(h:Is ρ D w v cv):cv=oQ v:=by
 cases h<;>first|rfl|(simp[qu]at hk;done)
def yV (ρ:Names)(D:Nat->Prop)(w:World){v:V}(hk:qu v=true):Is ρ D w v (oQ v):=by
 cases v<;>first|(simp[qu]at hk;done)|constructor
def Db {v:V}(ha:¬ ∃ cells,v = .agg cells):known v=qu v:=by
 cases v<;>first|rfl|simp_all
def D9 {v:V}(ha:¬ ∃ cells,v = .agg cells):valOf v=oQ v:=by
 cases v<;>first|rfl|simp_all
def xo {ρ:Names}{D:Nat->Prop}{w:World}{v:V}{cv:Value}(hk:known v=true)(h:Is ρ D w v cv):cv=valOf v:=by
 by_cases ha:∃ cells,v = .agg cells
 ·obtain⟨cells,rfl⟩:=ha
  cases h with
  | agg hn hu =>
   rename_i cvs
   simp only[known]at hk
   show Value.agg cvs = .agg _
   congr 1
   apply Array.ext
   ·simp[hn]
   ·intro i h1 h2
    have hi:i<cells.length:=Y6
    have:=hu i cells[i] cvs[i] (by simp[hi]) (by simp[h1])
    simp only[List.getElem_toArray,List.getElem_map]
    exact z6 (WI.1 hk _ (Xi hi)) this
 ·rw[Db ha]at hk;rw[D9 ha];exact z6 hk h
def MN (ρ:Names)(D:Nat->Prop)(w:World){v:V}(hk:known v=true):Is ρ D w v (valOf v):=by
 by_cases ha:∃ cells,v = .agg cells
 ·obtain⟨cells,rfl⟩:=ha
  refine .agg ZH (fun i u cv h1 h2=>?_)
  simp only[known]at hk
  simp only[Xs,WG,h1,Option.map_some,WO]at h2
  subst h2
  exact yV _ _ _ (WI.1 hk _ (By h1))
 ·rw[Db ha]at hk;rw[D9 ha];exact yV _ _ _ hk
def jC (kvs:List (V×V)):Array MapEntry:=(kvs.mapIdx fun i p=>({ key:=valOf p.1,val:=valOf p.2,born:=i } : MapEntry)).toArray
def fE (kvs:List (V×V)):Blk:=ye (.map (jC kvs) kvs.length)
def b8 (σ:Y8)(kvs:List (V×V)):Blk.ren σ (fE kvs)=fE kvs:=rfl
def bg (σ:Y8)(kvs:List (V×V)):Blk.renOk σ (fE kvs)=true:=rfl
def Iu (kvs:List (V×V))(p:V×V):jC (kvs++[p])=(jC kvs).push { key:=valOf p.1,val:=valOf p.2,born:=kvs.length }:=by
 simp_all[jC]
def lD:V->V->Option Bool
 | .int k a,.int k' b=>if k=k' then some (a==b) else none
 | .str a,.str b=>some (a==b)
 | _,_=>none
def dX (k:V):List (V×V)->Option (Option V)
 | []=>some none
 | p::r=>match lD k p.1 with
  | some true=>some (some p.2)
  | some false=>dX k r
  | none=>none
def oA:TypeDesc->V->Bool
 | .int _,.int _ _=>true
 | .string,.str _=>true
 | _,_=>false
def iN (P:Program)(t:TypeId)(k:V):Bool:=match P.underlying t with
 | some d=>oA d k
 | none=>false
def wR {d:TypeDesc}{k q:V}{b:Bool}(hd:oA d k=true)(h:lD k q=some b):Instr.sameNow d (valOf k) (valOf q)=some b:=by
 cases k<;>cases q<;>simp only[lD]at h<;>try (cases h;done)
 ·cases d<;>simp[oA]at hd
  simp_all[Instr.sameNow,valOf,oQ]
 ·cases d<;>simp[oA]at hd
  rename_i a c
  simp only[Instr.sameNow,valOf,oQ]
  rw[<- h]
  congr 1
  show(a.toArray==c.toArray)=(a==c)
  simp
def Fh {d:TypeDesc}{k:V}(hd:oA d k=true):∀ {kvs:List (V×V)} {r:Option V} (f:Nat->Nat) (i:Nat),dX k kvs=some r ->
  ∃ q,Instr.findNow d (valOf k) (kvs.mapIdx fun i p=>({ key:=valOf p.1,val:=valOf p.2,born:=f i } : MapEntry)) i=some q/\q.map (·.2)=r.map valOf:=by
 intro kvs
 induction kvs with
 | nil=>intro r f i h;simp only[dX,WO]at h;subst h;exact⟨none,rfl,rfl⟩
 | cons p l ih =>
  intro r f i h
  simp only[dX]at h
  rw[List.mapIdx_cons]
  cases hs:lD k p.1 with
  | none=>simp_all
  | some b =>
   rw[hs]at h
   simp only[Instr.findNow,wR hd hs]
   cases b with
   | true=>grind
   | false=>simp_all
def qC (k x:V):List (V×V)->List (V×V)
 | []=>[(k,x)]
 | p::r=>match lD k p.1 with
  | some true=>(k,x)::r
  | _=>p::qC k x r
def pm {k x:V} : ∀ {kvs:List (V×V)},dX k kvs=some none->qC k x kvs=kvs++[(k,x)]
 | [],_=>rfl
 | p::r,h=>by
  simp only[dX]at h
  cases hs:lD k p.1 with
  | none=>simp_all
  | some b =>
   cases b with
   | true=>simp_all
   | false=>simp_all[qC,pm]
def Rq {k q:V}(h:lD k q=some true):q=k:=by
 cases k<;>cases q<;>simp only[lD]at h<;>try (cases h;done)
 ·split at h
  ·rename_i e;subst e;simp at h;rw[h]
  ·cases h
 ·simp at h;rw[h]
def CE {d:TypeDesc}{k x:V}(hd:oA d k=true):∀ {kvs:List (V×V)} {v:V} (f:Nat->Nat) (i:Nat),dX k kvs=some (some v) ->
  ∃ j p,kvs[j]? = some p/\p.1=k/\Instr.findNow d (valOf k) (kvs.mapIdx fun i p=>({ key:=valOf p.1,val:=valOf p.2,born:=f i } : MapEntry)) i=some (some (i+j,valOf v))/\qC k x kvs=kvs.set j (k,x):=by
 intro kvs
 induction kvs with
 | nil=>intro v f i h;cases h
 | cons p l ih =>
  intro v f i h
  simp only[dX]at h
  rw[List.mapIdx_cons]
  cases hs:lD k p.1 with
  | none=>simp_all
  | some b =>
   rw[hs]at h
   simp only[Instr.findNow,wR hd hs,qC,hs]
   cases b with
   | true=>cases h;exact⟨0,p,rfl,Rq hs,rfl,rfl⟩
   | false =>
    obtain⟨j,q,h1,h2,h3,h4⟩:=ih (fun i=>f (i+1)) (i+1) h
    exact⟨j+1,q,by simpa using h1,h2,by grind,by simp_all⟩
def sameBits_self {d:TypeDesc}{k:V}(hd:oA d k=true):Instr.sameBits 10000 (valOf k) (valOf k)=true:=by
 cases k<;>cases d<;>simp[oA]at hd<;>simp[valOf,oQ,Instr.sameBits]
 rename_i s
 show(s.toArray==s.toArray)=true
 simp
def L4 {kvs:List (V×V)}{j:Nat}{k x:V}{p:V×V}(hp:kvs[j]? = some p):((jC kvs).modify j fun e=>{ e with key:=valOf k,val:=valOf x })=jC (kvs.set j (k,x)):=by
 have hj:=(AS.1 hp).1
 apply Array.ext'
 refine Xx fun i=>?_
 by_cases e:j=i
 ·subst e;simp[jC,Xy,hp,hj]
 ·simp[jC,Xy,e]
def qt {P:Program}{t:TypeId}{k:V}(h:iN P t k=true):∃ d,P.underlying t=some d/\oA d k=true:=by
 unfold iN at h
 grind
def yd (P:Program)(t:TypeId):Option (TypeId×TypeId):=match P.underlying t with
 | some (.map k e)=>some (k,e)
 | _=>none
def Ht {P:Program}{t k e:TypeId}(h:yd P t=some (k,e)):P.underlying t=some (.map k e):=by
 unfold yd at h
 grind
def run_checkKey {P:Program}{w:World}{t:TypeId}{d:TypeDesc}{k:V}{em:Bool}(hu:P.underlying t=some d)(hd:oA d k=true){n:Nat} :
  (Instr.checkKey em (n+1) t (valOf k)).run P w = .ok () w:=by
 unfold Instr.checkKey
 have:=run_underlying hu w
 simp only[Sem.run_bind,this,Result.andThen_ok]
 cases d<;>cases k<;>simp[oA]at hd<;>rfl
def run_findKey {P:Program}{w:World}{t:TypeId}{k:V}{kvs:List (V×V)}{r:Option V}(hk:iN P t k=true)(hf:dX k kvs=some r) :
  ∃ q,(Instr.findKey t (valOf k) (jC kvs).toList).run P w = .ok q w/\q.map (·.2)=r.map valOf:=by
 obtain⟨d,hu,hd⟩:=qt hk
 obtain⟨q,h1,h2⟩:=Fh hd (fun i=>i) 0 hf
 refine⟨q,?_,h2⟩
 unfold Instr.findKey
 have:=run_underlying hu w
 simp only[Sem.run_bind,this,Result.andThen_ok]
 rw[show(jC kvs).toList=kvs.mapIdx fun i p=>({ key:=valOf p.1,val:=valOf p.2,born:=i } : MapEntry) from rfl,h1]
 rfl
section
variable {cx:Cx} {Q:Post} {st:List Frm} {nm:Nat} {e:Env} {M:ah} {d:Bool} {fs:Y9} {ops r:ZD} {dst:Option Tmp} {t:TypeId} {pos:String} {af:Array Edge} {gd:Option (Nat×Bool)} {i:Nat}
def Gy {P:Program}{w:World}{t kt et:TypeId}{b:Nat}{k x:V}{kvs:List (V×V)}{q:Option V}(ht:P.underlying t=some (.map kt et))(hk:iN P kt k=true)(hf:dX k kvs=some q)(hh:w.heap[b]? = some (.map (jC kvs) kvs.length)) :
  (Instr.mapUpdate t (.map (some b)) (valOf k) (valOf x)).run P w = .ok () (setAt w b (.map (jC (qC k x kvs)) (qC k x kvs).length)):=by
 obtain⟨d,hu,hd⟩:=qt hk
 have hc:=run_checkKey (w:=w) (em:=false) hu hd (n:=9999)
 have hg:(getObj b).run P w = .ok (.map (jC kvs) kvs.length) w:=by simp_all[getObj,Sem.run]
 cases q with
 | none =>
  obtain⟨q,h1,h2⟩:=run_findKey (w:=w) hk hf
  have hq:q=none:=by simp_all
  subst hq
  rw[pm hf]
  simp only[Instr.mapUpdate,Sem.run_bind,run_underlying ht w,Result.andThen_ok,hg,hc,h1]
  simp[Go.setObj,setAt,Iu,Sem.run,hh]
 | some v =>
  obtain⟨j,p,hp,hpk,h1,h2⟩:=CE (x:=x) hd (fun i=>i) 0 hf
  have h3:(Instr.findKey kt (valOf k) (jC kvs).toList).run P w = .ok (some (j,valOf v)) w:=by
   unfold Instr.findKey
   simp only[Sem.run_bind,run_underlying hu w,Result.andThen_ok]
   rw[show(jC kvs).toList=kvs.mapIdx fun i p=>({ key:=valOf p.1,val:=valOf p.2,born:=i } : MapEntry) from rfl,h1]
   simp
  have h4:(((jC kvs)[j]?).map (·.key)).getD (valOf k)=valOf k:=by
   have:(jC kvs)[j]? = some { key:=valOf p.1,val:=valOf p.2,born:=j }:=by simp[jC,hp]
   simp_all
  have h5:(Instr.keyThatStays (valOf k) (valOf k)).run P w = .ok (valOf k) w:=by
   unfold Instr.keyThatStays
   rw[if_pos (sameBits_self hd)];rfl
  rw[h2,YL]
  simp only[Instr.mapUpdate,Sem.run_bind,run_underlying ht w,Result.andThen_ok,hg,hc,h3,h4,h5,L4 hp]
  simp[Go.setObj,setAt,Sem.run,hh]
def Gx {P:Program}{w:World}{t kt et:TypeId}{b:Nat}{k:V}{kvs:List (V×V)}{q:Option V}{z:Value}(ht:P.underlying t=some (.map kt et))(hk:iN P kt k=true)(hf:dX k kvs=some q)(hh:w.heap[b]? = some (.map (jC kvs) kvs.length))
  (hz:((P.info? et).bind (·.zero))=some z) (ok:Bool) :
  (Instr.lookup t (.map (some b)) (valOf k) ok).run P w = .ok (if ok then .tuple #[(q.map valOf).getD z,.bool q.isSome] else (q.map valOf).getD z) w:=by
 obtain⟨d,hu,hd⟩:=qt hk
 obtain⟨q',h1,h2⟩:=run_findKey (w:=w) hk hf
 have hc:=run_checkKey (w:=w) (em:=(jC kvs).isEmpty) hu hd (n:=9999)
 have hg:(getObj b).run P w = .ok (.map (jC kvs) kvs.length) w:=by simp_all[getObj,Sem.run]
 have hzz:(zeroValue et).run P w = .ok z w:=by
  obtain⟨inf,a1,a2⟩:=WC.1 hz
  simp_all[zeroValue,typeInfo]
 simp only[Instr.lookup,Sem.run_bind,run_underlying ht w,Result.andThen_ok,hg,Sem.run_pure,hc,h1]
 cases q' with
 | none =>
  cases q with
  | none=>simp_all
  | some v=>simp at h2
 | some p =>
  cases q with
  | none=>simp at h2
  | some v =>
   simp_all
def jD {ty:TypeId}(h:bb cx Q st nm (e.putD dst (.mp (nm+16*i))) (M.app [(nm+16*i,some (fE []))]) d (fs++[[nm+16*i]]) ops r (i+1)):eH cx Q st nm e M d fs ops ⟨dst,.makeMap ty none,t,pos,af,gd⟩ r i:=by
 refine⟨_,_,_,⟨fun x hx=>hx,fun x hx=>?_,fun _=>rfl,fun _=>rfl,?_⟩,h⟩
 ·simp only[al,Wc,Wx,WW]at hx
  subst hx;exact .inr ⟨IS _,by omega⟩
 ·intro N X w0 I ρ e' M' a w hr he hin hev _ hf
  obtain⟨f1,f2⟩:=hf (nm+16*i) ⟨IS _,by omega⟩
  refine⟨_,_,(Rel.newObj (v:=.mp (nm+16*i)) hr f1 f2 (.map #[] 0) (cv:=.map (some w.heap.size)) (fun ρ D w' hl=>.mp hl)).n,iX (s:=Instr.makeMap ty none) rfl ?_⟩
  rfl
def M7 {ρ:Names}{D:Nat->Prop}{w:World}{y:Nat}{cv:Value}(h:Is ρ D w (.mp y) cv):∃ l,ρ y=some l/\cv = .map (some l.b):=by
 cases h with
 | mp hl=>simp_all
def nU {o:Oper}{ty:TypeId}{m k x:Operand}(ho:o.op = .mapUpdate ty m k x\/o.op = .insert ty m k x){y:Nat}{kv xv:V}{kvs:List (V×V)}{kt et:TypeId}{n:Nat}{q:Option V}(hm:ap cx.G true e m = .mp y)(hM:M y=some (fE kvs))(hk:ap cx.G true e k=kv)(hx:ap cx.G true e x=xv)
  (ht:yd cx.P ty=some (kt,et)) (hkk:iN cx.P kt kv=true) (kk:known kv=true) (kx:known xv=true) (hf:dX kv kvs=some q) :
  ExtDoes cx o n e M .any [(y,some (fE (qC kv xv kvs)))] [y]:=by
 have hops:o.op.operands.toList=[m,k,x]:=by rcases ho with h|h<;>rw[h]<;>rfl
 refine⟨fun x hx=>hx,fun x hx=>?_,fun _=>by rcases ho with h|h<;>rw[h]<;>rfl,fun _=>by rcases ho with h|h<;>rw[h]<;>rfl,?_⟩
 ·simp_all[al]
 ·intro N X w0 I ρ e' M' a w hr he hin hev hMM hfr
  have hM':M' y=some (fE kvs):=by simp_all
  have e1:=he.eval hr (c:=true) rfl (hin m (by simp_all))
  rw[hev m (by simp_all),hm]at e1
  obtain⟨l,hl,hcv⟩:=M7 e1
  have e2:=he.eval hr (c:=true) rfl (hin k (by simp_all))
  rw[hev k (by simp_all),hk]at e2
  have e3:=he.eval hr (c:=true) rfl (hin x (by simp_all))
  rw[hev x (by simp_all),hx]at e3
  obtain⟨hh,hz,htt,h0⟩:=sQ hr hM' hl
  obtain⟨g1,g2⟩:=Rel.setObj hr hM' hl (o':=.map (jC (qC kv xv kvs)) (qC kv xv kvs).length)
  refine⟨undef,setAt w l.b (.map (jC (qC kv xv kvs)) (qC kv xv kvs).length),⟨ρ,g1,g2,.any _,fun _ _=>rfl⟩,?_⟩
  have hrun:=Gy (x:=xv) (Ht ht) hkk hf hh
  have hex:execOp a.eval o=(do (Instr.mapUpdate ty (a.eval m) (a.eval k) (a.eval x));pure .skip):=by
   obtain⟨dst,op,ty',pos,af,gd⟩:=o
   rcases ho with h|h<;>(simp only at h;subst h;rfl)
  intro K Q hK
  unfold Oper.wp
  rw[hex,hcv,xo kk e2,xo kx e3]
  simp only[Sem.run_bind,hrun,Result.andThen_ok,Sem.run_pure]
  exact hK
def kJ {ty:TypeId}{m k x:Operand}{y:Nat}{kv xv:V}{kvs:List (V×V)}{kt et:TypeId}(hm:ap cx.G true e m = .mp y)(hM:M y=some (fE kvs))(hk:ap cx.G true e k=kv)(hx:ap cx.G true e x=xv)
  (ht:yd cx.P ty=some (kt,et)) (hkk:iN cx.P kt kv=true) (kk:known kv=true) (kx:known xv=true) (hf:dX kv kvs=some none)
  (h:bb cx Q st nm (e.putD dst .any) (M.app [(y,some (fE (kvs++[(kv,xv)])))]) d (fs++[[y]]) ops r (i+1)):eH cx Q st nm e M d fs ops ⟨dst,.insert ty m k x,t,pos,af,gd⟩ r i :=
 ⟨_,_,_,nU (.inr rfl) hm hM hk hx ht hkk kk kx hf,by simp_all[pm]⟩
def xU {ty:TypeId}{m k x:Operand}{y:Nat}{kv xv:V}{kvs:List (V×V)}{kt et:TypeId}(hm:ap cx.G true e m = .mp y)(hM:M y=some (fE kvs))(hk:ap cx.G true e k=kv)(hx:ap cx.G true e x=xv)
  (ht:yd cx.P ty=some (kt,et)) (hkk:iN cx.P kt kv=true) (kk:known kv=true) (kx:known xv=true) (hf:dX kv kvs=some none)
  (h:bb cx Q st nm (e.putD dst .any) (M.app [(y,some (fE (kvs++[(kv,xv)])))]) d (fs++[[y]]) ops r (i+1)):eH cx Q st nm e M d fs ops ⟨dst,.mapUpdate ty m k x,t,pos,af,gd⟩ r i :=
 ⟨_,_,_,nU (.inl rfl) hm hM hk hx ht hkk kk kx hf,by simp_all[pm]⟩
def Fb {ty:TypeId}{m k x:Operand}{y:Nat}{kv xv:V}{kvs:List (V×V)}{kt et:TypeId}{q:Option V}(hm:ap cx.G true e m = .mp y)(hM:M y=some (fE kvs))(hk:ap cx.G true e k=kv)(hx:ap cx.G true e x=xv)
  (ht:yd cx.P ty=some (kt,et)) (hkk:iN cx.P kt kv=true) (kk:known kv=true) (kx:known xv=true) (hf:dX kv kvs=some q)
  (h:bb cx Q st nm (e.putD dst .any) (M.app [(y,some (fE (qC kv xv kvs)))]) d (fs++[[y]]) ops r (i+1)):eH cx Q st nm e M d fs ops ⟨dst,.mapUpdate ty m k x,t,pos,af,gd⟩ r i :=
 ⟨_,_,_,nU (.inl rfl) hm hM hk hx ht hkk kk kx hf,h⟩
def zeroOf (P:Program)(t:TypeId):Option Value:=(P.info? t).bind (·.zero)
def S6 (z:Value)(q:Option V)(ok:Bool):V:=if ok then .tup [q.getD (Q4 z),.bool q.isSome] else q.getD (Q4 z)
def kK {ty:TypeId}{m k:Operand}{ok:Bool}{y:Nat}{kv:V}{kvs:List (V×V)}{kt et:TypeId}{q:Option V}{z:Value}(hm:ap cx.G true e m = .mp y)(hM:M y=some (fE kvs))(hk:ap cx.G true e k=kv)
  (ht:yd cx.P ty=some (kt,et)) (hkk:iN cx.P kt kv=true) (kk:known kv=true) (hz:zeroOf cx.P et=some z) (hf:dX kv kvs=some q) (hq:∀ v,q=some v->known v=true)
  (h:bb cx Q st nm (e.putD dst (S6 z q ok)) M d (fs++[[y]]) ops r (i+1)):eH cx Q st nm e M d fs ops ⟨dst,.lookup ty m k ok,t,pos,af,gd⟩ r i:=by
 refine⟨_,[],_,⟨fun x hx=>by grind[al],fun x hx=>by grind[al],fun h=>absurd rfl h,fun _=>rfl,?_⟩,h⟩
 intro N X w0 I ρ e' M' a w hr he hin hev hMM hfr
 have hops:(Op.lookup ty m k ok).operands.toList=[m,k]:=rfl
 have hM':M' y=some (fE kvs):=by simp_all
 have e1:=he.eval hr (c:=true) rfl (hin m (by simp_all))
 rw[hev m (by simp_all),hm]at e1
 obtain⟨l,hl,hcv⟩:=M7 e1
 have e2:=he.eval hr (c:=true) rfl (hin k (by simp_all))
 rw[hev k (by simp_all),hk]at e2
 obtain⟨hh,_,_,_⟩:=sQ hr hM' hl
 have hrun:=Gx (Ht ht) hkk hf hh hz ok
 have hv:∀ D,Is ρ D w (q.getD (Q4 z)) ((q.map valOf).getD z):=fun D=>by
  cases q with
  | none=>exact ML _ _ _ _
  | some v=>exact MN _ _ _ (hq v rfl)
 refine⟨_,w,(db.still (nm:=nm+16*i) (cv:=if ok then .tuple #[(q.map valOf).getD z,.bool q.isSome] else (q.map valOf).getD z) hr ?_).n,iX (s:=Instr.lookup ty (a.eval m) (a.eval k) ok) rfl ?_⟩
 ·unfold S6
  cases ok with
  | false=>exact hv _
  | true =>
   refine .tup rfl (fun i u cv hi hc=>?_)
   match i with
   | 0=>simp_all
   | 1=>simp at hi hc;subst hi;subst hc;exact .bool _
   | i+2=>simp at hi
 ·rw[hcv,xo kk e2];exact hrun
end
section
variable {cx:Cx} {f:FuncId} {nm:Nat} {args:List V} {M:ah} {v:V} {eff:List (Nat×Option Blk)}
def Ev.frame (l:ZB)(h:Ev cx f nm args (M.only l) v eff)(heff:∀ x∈al eff,x∈l\/b9 nm x)(hfr:∀ x,b9 nm x->M x=none):Ev cx f nm args M v eff:=by
 refine⟨h.1,fun X w ρ cargs B hr hf hB hn hargs=>(h.2 (FX X ρ M l) w ρ cargs B (hr.focus l) hf (fun x hx=>⟨by unfold ah.only;simp_all,(hB x hx).2⟩) hn (fun i u cv hi hc=>(hargs i u cv hi hc).focus)).mono ?_⟩
 rintro e w' ⟨cv,rfl,hs⟩
 exact⟨cv,rfl,hr.unfocus hfr heff hs⟩
def ah.app_drop {y:Nat} : ∀ {eff:List (Nat×Option Blk)} {M:ah},∀ x k,(M.app ((y,none)::eff)) x=some k->(M.app eff) x=some k:=by
 intro eff
 induction eff with
 | nil =>
  intro M x k h
  simp only[ah.app]at h ⊢
  by_cases e:x=y
  ·subst e;rw[ah.put_same]at h;cases h
  ·rwa[ah.put_ne _ _ e]at h
 | cons p r ih =>
  intro M x k h
  obtain⟨z,kz⟩:=p
  simp only[ah.app]at h ⊢
  by_cases hx:x∈al r
  ·rw[<- h];exact ah.app_congr (fun hn=>absurd hx hn)
  ·rw[ah.app_of_notin hx]at h ⊢
   by_cases e:x=z
   ·subst e;rw[ah.put_same]at h ⊢;exact h
   ·rw[ah.put_ne _ _ e]at h ⊢
    by_cases e2:x=y
    ·subst e2;rw[ah.put_same]at h;cases h
    ·rwa[ah.put_ne _ _ e2]at h
def Ev.dropM (y:Nat)(h:Ev cx f nm args M v eff):Ev cx f nm args M v ((y,none)::eff):=by
 refine⟨h.1,fun X w ρ cargs B hr hf hB hn hargs=>(h.2 X w ρ cargs B hr hf hB hn hargs).mono ?_⟩
 rintro e w' ⟨cv,rfl,ρ',r,m,hv,hnn⟩
 obtain⟨r1,m1⟩:=r.drop (M':=M.app ((y,none)::eff)) (fun x k hk=>ah.app_drop x k hk)
 exact⟨cv,rfl,ρ',r1,m.trans m1,m1.is hv,hnn⟩
def Ev.eff_eq {eff':List (Nat×Option Blk)}(h:Ev cx f nm args M v eff)(he:M.app eff=M.app eff'):Ev cx f nm args M v eff':=by
 refine⟨h.1,fun X w ρ cargs B hr hf hB hn hargs=>?_⟩
 have:=h.2 X w ρ cargs B hr hf hB hn hargs
 simp_all
end
def l7 (z:Value)(q:Option V):S6 z q true = .tup [q.getD (Q4 z),.bool q.isSome]:=rfl
mutual
def su (σ:Y8)(M:ah):∀ v:V,v.plain=true->v.fin σ M=v/\v.finOk σ M
 | .agg cs,h=>by
  simp only[V.plain]at h
  obtain⟨h1,h2⟩:=finL_plain σ M cs h
  simp only[V.fin,V.finOk,h1];exact⟨trivial,h2⟩
 | .tup cs,h=>by
  simp only[V.plain]at h
  obtain⟨h1,h2⟩:=finL_plain σ M cs h
  simp only[V.fin,V.finOk,h1];exact⟨trivial,h2⟩
 | .fn f cs,h=>by
  simp only[V.plain]at h
  obtain⟨h1,h2⟩:=finL_plain σ M cs h
  simp only[V.fin,V.finOk,h1];exact⟨trivial,h2⟩
 | .fnb f cs,h=>by
  simp only[V.plain]at h
  obtain⟨h1,h2⟩:=finL_plain σ M cs h
  simp only[V.fin,V.finOk,h1];exact⟨trivial,h2⟩
 | .gd b v,h=>by
  simp only[V.plain]at h
  obtain⟨h1,h2⟩:=su σ M v h
  simp only[V.fin,V.finOk,h1];exact⟨trivial,h2⟩
 | .iface t v,h=>by
  simp only[V.plain]at h
  obtain⟨h1,h2⟩:=su σ M v h
  simp only[V.fin,V.finOk,h1];exact⟨trivial,h2⟩
 | .rp cs,h=>by simp only[V.plain]at h;simp only[V.fin,V.finOk];exact⟨trivial,h⟩
 | .sl t s rows,h=>by simp only[V.plain]at h;simp only[V.fin,V.finOk];exact⟨trivial,h⟩
 | .ys t s rows,h=>by simp only[V.plain]at h;simp only[V.fin,V.finOk];exact⟨trivial,h⟩
 | .own _ _ _,h | .ownc _ _ _ _,h | .ptr _ _ _,h | .chan _,h | .mp _,h=>by simp[V.plain]at h
 | .any,_ | .bool _,_ | .bit _ _,_ | .int _ _,_ | .str _,_ | .nilp,_ | .upt,_ | .nils,_ | .val _,_=>⟨by simp only[V.fin],by simp only[V.finOk]⟩
def finL_plain (σ:Y8)(M:ah):∀ cs:List V,plainL cs=true->finL σ M cs=cs/\finLOk σ M cs
 | [],_=>⟨by simp only[finL],by simp only[finLOk]⟩
 | v::r,h=>by
  simp only[plainL,In]at h
  obtain⟨h1,h2⟩:=su σ M v h.1
  obtain⟨h3,h4⟩:=finL_plain σ M r h.2
  simp only[finL,finLOk,h1,h3]
  exact⟨trivial,h2,h4⟩
end
def nC (σ:Y8)(M:ah)(rows:List (List V)):List (List V):=rows.map (finL σ M)
def ju (σ:Y8)(M:ah)(rows:List (List V)):Prop:=∀ r∈rows,finLOk σ M r
def IA (σ:Y8)(M:ah):nC σ M []=[]:=rfl
def Ff (σ:Y8)(M:ah)(r:List V)(rows:List (List V)):nC σ M (r::rows)=finL σ M r::nC σ M rows:=rfl
def Az (σ:Y8)(M:ah)(a b:List (List V)):nC σ M (a++b)=nC σ M a++nC σ M b:=WM
def jF (σ:Y8)(M:ah){rows:List (List V)}(h:plainLL rows=true):nC σ M rows=rows:=by
 unfold nC
 rw[jR,WI]at h
 conv=>rhs;rw[<- Y4 rows]
 exact W7 (fun r hr=>(finL_plain σ M r (h r hr)).1)
def CD (σ:Y8)(M:ah):ju σ M []=True:=X0 (fun r hr=>by simp at hr)
def Ay (σ:Y8)(M:ah)(r:List V)(rows:List (List V)):ju σ M (r::rows)=(finLOk σ M r/\ju σ M rows):=by
 unfold ju;simp
def vA (σ:Y8)(M:ah)(a b:List (List V)):ju σ M (a++b)=(ju σ M a/\ju σ M b):=by
 unfold ju
 simp only[Wf,eq_iff_iff]
 exact⟨fun h=>⟨fun r hr=>h r (.inl hr),fun r hr=>h r (.inr hr)⟩,fun h r hr=>hr.elim (h.1 r) (h.2 r)⟩
def gG (σ:Y8)(M:ah){rows:List (List V)}(h:plainLL rows=true):ju σ M rows=True:=by
 rw[jR,WI]at h
 exact X0 (fun r hr=>(finL_plain σ M r (h r hr)).2)
def Jx (o:Ob):Ob.le o o=True:=X0 (.inl rfl)
def md (x y:List V)(xs ys:List (List V)):iP (x::xs) (y::ys)=(leL x y/\iP xs ys):=rfl
def lu {a b c:List (List V)}(h:iP b c):iP (a++b) (a++c):=by
 induction a with
 | nil=>exact h
 | cons x a ih=>exact⟨leL_refl x,ih⟩
def xX (σ:Y8)(M:ah)(k0 k:Blk):Prop:=sX σ k0 k\/(k0.ob.isRow=true/\ju σ M k0.rows/\k0.sz=k.sz/\k0.ob.le k.ob/\iP (nC σ M k0.rows) k.rows)
def ph {cx:Cx}(σ:Y8)(M:ah):Lg (xX σ M) σ M cx:=fun X w0 I ρ ρ' D' w hr hnew hdom hout k0 k h=>by
 rcases h with h|⟨h1,h2,h3,h4,h5⟩
 ·exact yY σ M X w0 I ρ ρ' D' w hr hnew hdom hout k0 k h
 ·obtain⟨f1,f2⟩:=rA h5
  have hlen:k.rows.length=k0.rows.length:=by rw[<- f1];simp[nC]
  refine⟨fun l hb=>?_,fun hz=>by rw[hz]at hlen;exact Wp (by simpa using hlen)⟩
  rcases hb with ⟨cs,e,g1,g2,g3,g4,g5,g6,g7⟩|⟨o,_,msgs,buf,_,_,g1,_⟩
  ·refine .inl ⟨cs,e,Ob.le_ok g1 h4,g2,by rw[<- h3];exact g3,by rw[hlen];exact g4,g5,fun i row hi=>?_,fun i j row u hi hj=>?_⟩
   ·obtain⟨x,q1,q2⟩:=f2 i row hi
    unfold nC at q1
    rw[WG]at q1
    obtain⟨row',q3,rfl⟩:=BY.1 q1
    rw[<-(ke q2).1,dR];exact g6 i row' q3
   ·obtain⟨x,q1,q2⟩:=f2 i row hi
    unfold nC at q1
    rw[WG]at q1
    obtain⟨row',q3,rfl⟩:=BY.1 q1
    obtain⟨v,q4,q5⟩:=(ke q2).2 j u hj
    rw[gH]at q4
    obtain⟨v',q6,rfl⟩:=BY.1 q4
    obtain⟨cv,c1,c2⟩:=g7 i j row' v' q3 q6
    exact⟨cv,c1,(qh (cx:=cx) hr hnew hdom hout c2 (eQ (h2 row' (By q3)) q6)).le u q5⟩
  ·exfalso
   cases ho:k0.ob with
   | cells=>rw[ho]at g1;exact g1
   | typed t=>rw[ho]at g1;exact g1
   | chan a b c=>rw[ho]at h1;cases h1
   | obj o=>rw[ho]at h1;cases h1
section
variable {cx:Cx} {Q:Post} {st:List Frm} {nm:Nat} {e:Env} {M:ah}
def Ez (hG:∀ g,(cx.G g).plain=true){α:Type}{μ:α->Nat}{P:α->Prop}{nmS:Nat}{Es:α->List (Nat×V)}{Ms:α->List (Nat×Blk)}{g:Nat}(x:α)(src:List ZC)(hg:μ x<g)(h0:P x)(hb:Q.b0<=nmS)
  (hM:jb (xX (dL (cn (Ms x) src)) M) Q.b0 nmS M (cn (Ms x) src)) (hE:kC M (dL (cn (Ms x) src)) e (Es x)):dP cx Q (.again (pD μ P nmS Es Ms) g::st) nm e M .normal :=
 BP (μ x) hg (mM hG src (ph _ _) hb hM hE) ⟨x,rfl,h0,rfl,rfl,rfl⟩
def Jf {c:Code}(hG:∀ g,(cx.G g).plain=true){α:Type}(μ:α->Nat)(P:α->Prop)(nmS:Nat)(Es:α->List (Nat×V))(Ms:α->List (Nat×Blk))(x0:α)(src:List ZC)(h0:P x0)(hb:Q.b0<=nmS)
  (hM:jb (xX (dL (cn (Ms x0) src)) M) Q.b0 nmS M (cn (Ms x0) src)) (hE:kC M (dL (cn (Ms x0) src)) e (Es x0))
  (hr:∀ x,P x->go cx Q (.again (pD μ P nmS Es Ms) (μ x)::st) nmS (lh (Es x)) (iS (Ms x)) c):mZ cx Q st nm e M c :=
 Hp (pD μ P nmS Es Ms) (μ x0) (mM hG src (ph _ _) hb hM hE) ⟨x0,rfl,h0,rfl,rfl,rfl⟩ (by rintro g nm e M ⟨x,rfl,hP,rfl,rfl,rfl⟩;exact hr x hP)
end
end Go.Proofs.YtgboofebldgdjaaGreatDoor.Vm
namespace Go.Proofs.YtgboofebldgdjaaGreatDoor.Vm
open Go Go.RowKit
set_option linter.defProp false
def VP :=
 (Ai (Ai (Ai (Ai @dB @eG) (Ai @cN (Ai @dq @Go.maxLen.eq_1))) (Ai (Ai @forall_eq'.{1} (Ai @forall_eq'.{0} @exists_eq'.{1})) (Ai @exists_eq'.{0} (Ai @Prod.mk.injEq.{0,0} @W8)))) (Ai (Ai (Ai @XN @XG) (Ai @XD (Ai @Wq @Wy))) (Ai (Ai @Wm (Ai @F8 @JI)) (Ai @CO (Ai @Option.bind_some.{0,0} @Option.bind_none.{0,0})))))
def aF:=VP
def Uh :=
 (Ai (Ai (Ai (Ai @jb.eq_1 (Ai @jb.eq_2 @jb.eq_3)) (Ai @sX.eq_1 (Ai @kC.eq_1 @kC.eq_2))) (Ai (Ai @Nat.lt_add_right_iff_pos (Ai @Nat.add_lt_add_iff_left @vU)) (Ai @vV (Ai @aS @iP.eq_1)))) (Ai (Ai (Ai @iP.eq_2 (Ai @cn.eq_1 @cn.eq_2)) (Ai @cn.eq_3 (Ai @dL.eq_1 @dL.eq_2))) (Ai (Ai @dL.eq_3 (Ai @G9 @dB)) (Ai @eG (Ai @cN @dq)))))
def Ui :=
 (Ai (Ai (Ai (Ai @N6 (Ai @DN @j8.eq_1)) (Ai @gA.eq_1 (Ai @renL.eq_1 @renL.eq_2))) (Ai (Ai @renOkL.eq_1 (Ai @renOkL.eq_2 @V.ren.eq_1)) (Ai @V.ren.eq_2 (Ai @V.ren.eq_3 @V.ren.eq_4)))) (Ai (Ai (Ai @V.ren.eq_5 (Ai @V.ren.eq_6 @V.ren.eq_7)) (Ai @V.ren.eq_8 (Ai @V.ren.eq_9 @V.ren.eq_10))) (Ai (Ai @V.ren.eq_11 (Ai @V.ren.eq_12 @V.renOk.eq_1)) (Ai @V.renOk.eq_2 (Ai @V.renOk.eq_3 @V.renOk.eq_4)))))
def Uj :=
 (Ai (Ai (Ai (Ai @V.renOk.eq_5 (Ai @V.renOk.eq_6 @V.renOk.eq_7)) (Ai @V.renOk.eq_8 (Ai @V.renOk.eq_9 @V.renOk.eq_10))) (Ai (Ai @V.renOk.eq_11 (Ai @V.renOk.eq_12 @V.renOk.eq_13)) (Ai @V.renOk.eq_14 (Ai @V.renOk.eq_15 @V.fin.eq_1)))) (Ai (Ai (Ai @V.fin.eq_2 (Ai @V.fin.eq_3 @V.fin.eq_4)) (Ai @V.fin.eq_5 (Ai @V.fin.eq_6 @V.fin.eq_7))) (Ai (Ai @V.fin.eq_8 (Ai @V.fin.eq_9 @V.fin.eq_10)) (Ai @V.fin.eq_11 (Ai @V.fin.eq_12 @V.finOk.eq_1)))))
def Uk :=
 (Ai (Ai (Ai (Ai @V.finOk.eq_2 (Ai @V.finOk.eq_3 @V.finOk.eq_4)) (Ai @V.finOk.eq_5 (Ai @V.finOk.eq_6 @V.finOk.eq_7))) (Ai (Ai @V.finOk.eq_8 (Ai @V.finOk.eq_9 @V.finOk.eq_10)) (Ai @V.finOk.eq_11 (Ai @V.finOk.eq_12 @V.finOk.eq_13)))) (Ai (Ai (Ai @finL.eq_1 (Ai @finL.eq_2 @finLOk.eq_1)) (Ai @finLOk.eq_2 (Ai @eJ @gy))) (Ai (Ai @List.mem_cons.{0} (Ai @List.not_mem_nil.{0} @forall_eq.{1})) (Ai @forall_eq.{0} (Ai @forall_eq_or_imp.{1} @forall_eq_or_imp.{0})))))
def Ul :=
 (Ai (Ai (Ai @ne_eq.{1} @ne_eq.{0}) (Ai @Xw (Ai @Yh @XG))) (Ai (Ai @W8 (Ai @XN @XD)) (Ai @ry (Ai @Option.some.injEq.{0} @XW))))
def bL:=(Ai (Ai Uh Ui) (Ai Uj (Ai Uk Ul)))
def SC :=
 (Ai (Ai (Ai (Ai @xX.eq_1 @IA) (Ai @Ff @Az)) (Ai (Ai @CD @Ay) (Ai @vA @Jx))) (Ai (Ai (Ai @md @true_or) (Ai @Yp @false_or)) (Ai (Ai @XU @eq_self.{1}) (Ai @eq_self.{0} (Ai @Yx @true_and)))))
def kD:=SC
def Vl :=
 (Ai (Ai (Ai (Ai @tgt.eq_1 (Ai @ba.eq_1 @qn.eq_1)) (Ai @qn.eq_2 (Ai @qn.eq_3 @He.eq_1))) (Ai (Ai @G5.eq_1 (Ai @N6 @DN)) (Ai @j8.eq_1 (Ai @gA.eq_1 @renL.eq_1)))) (Ai (Ai (Ai @renL.eq_2 (Ai @renOkL.eq_1 @renOkL.eq_2)) (Ai @V.ren.eq_1 (Ai @V.ren.eq_2 @V.ren.eq_3))) (Ai (Ai @V.ren.eq_4 (Ai @V.ren.eq_5 @V.ren.eq_6)) (Ai @V.ren.eq_7 (Ai @V.ren.eq_8 @V.ren.eq_9)))))
def Vn :=
 (Ai (Ai (Ai (Ai @V.ren.eq_10 (Ai @V.ren.eq_11 @V.ren.eq_12)) (Ai @V.renOk.eq_1 (Ai @V.renOk.eq_2 @V.renOk.eq_3))) (Ai (Ai @V.renOk.eq_4 (Ai @V.renOk.eq_5 @V.renOk.eq_6)) (Ai @V.renOk.eq_7 (Ai @V.renOk.eq_8 @V.renOk.eq_9)))) (Ai (Ai (Ai @V.renOk.eq_10 (Ai @V.renOk.eq_11 @V.renOk.eq_12)) (Ai @V.renOk.eq_13 (Ai @V.renOk.eq_14 @V.renOk.eq_15))) (Ai (Ai @eJ (Ai @gy @List.mem_cons.{0})) (Ai @List.not_mem_nil.{0} (Ai @forall_eq.{1} @forall_eq.{0})))))
def Vo :=
 (Ai (Ai (Ai @forall_eq_or_imp.{1} @forall_eq_or_imp.{0}) (Ai @ne_eq.{1} (Ai @ne_eq.{0} @Xw))) (Ai (Ai @Yh (Ai @XW @XG)) (Ai @W8 (Ai @XN @XD))))
def hH:=(Ai Vl (Ai Vn Vo))
def UX :=
 (Ai (Ai (Ai (Ai @Fm (Ai @CK @pO.eq_1)) (Ai @pO.eq_2 (Ai @Ol.eq_1 @rV.eq_1))) (Ai (Ai @Om (Ai @KC @Pi)) (Ai @Le (Ai @V.owns.eq_1 @V.owns.eq_2)))) (Ai (Ai (Ai @V.owns.eq_3 (Ai @V.owns.eq_4 @ownsL.eq_1)) (Ai @ownsL.eq_2 (Ai @eJ @gy))) (Ai (Ai @List.mem_cons.{0} (Ai @List.not_mem_nil.{0} @XU)) (Ai @forall_eq.{1} (Ai @forall_eq.{0} @forall_eq_or_imp.{1})))))
def UY :=
 (Ai (Ai @forall_eq_or_imp.{0} (Ai @ne_eq.{1} @ne_eq.{0})) (Ai @XW (Ai @Xw @Yh)))
def Bd:=(Ai UX UY)
def UV :=
 (Ai (Ai @nd (Ai @List.mem_cons.{0} @List.not_mem_nil.{0})) (Ai (Ai @forall_eq.{1} @forall_eq.{0}) (Ai @forall_eq_or_imp.{1} @forall_eq_or_imp.{0})))
def aK:=UV
def UF :=
 (Ai (Ai (Ai @V.bool.injEq @V.int.injEq) (Ai @V.str.injEq (Ai @V.agg.injEq @V.tup.injEq))) (Ai (Ai @V.sl.injEq (Ai @V.own.injEq @List.cons.injEq.{0})) (Ai @Yx (Ai @true_and @XJ))))
def aB:=UF
def UD :=
 (Ai (Ai (Ai @finL.eq_1 (Ai @finL.eq_2 @V.fin.eq_1)) (Ai (Ai @V.fin.eq_2 @V.fin.eq_3) (Ai @V.fin.eq_4 @V.fin.eq_5))) (Ai (Ai (Ai @V.fin.eq_6 @V.fin.eq_7) (Ai @V.fin.eq_8 @V.fin.eq_9)) (Ai (Ai @V.fin.eq_10 @V.fin.eq_11) (Ai @V.fin.eq_12 @eJ))))
def cC:=UD
def uP {cx:Cx}{Q:Post}{st:List Frm}{nm:Nat}{e:Env}{M:ah}(hG:∀ g,(cx.G g).plain=true){α:Type}{μ:α->Nat}{P:α->Prop}{nmS:Nat}{Es:α->List (Nat×V)}{Ms:α->List (Nat×Blk)}{g:Nat}(x:α)(src:List ZC)(hg:μ x<g)(h0:P x)(hb:Q.b0<=nmS)(hME:jb (sX (dL (cn (Ms x) src))) Q.b0 nmS M (cn (Ms x) src)/\kC M (dL (cn (Ms x) src)) e (Es x)):dP cx Q (.again (pD μ P nmS Es Ms) g::st) nm e M .normal:=HT hG x src hg h0 hb hME.1 hME.2
def y9 {cx:Cx}{Q:Post}{st:List Frm}{nm:Nat}{e:Env}{M:ah}{c:Code}(hG:∀ g,(cx.G g).plain=true){α:Type}(μ:α->Nat)(P:α->Prop)(nmS:Nat)(Es:α->List (Nat×V))(Ms:α->List (Nat×Blk))(x0:α)(src:List ZC)(h0:P x0)(hb:Q.b0<=nmS)(hME:jb (sX (dL (cn (Ms x0) src))) Q.b0 nmS M (cn (Ms x0) src)/\kC M (dL (cn (Ms x0) src)) e (Es x0))(hr:∀ x,P x->go cx Q (.again (pD μ P nmS Es Ms) (μ x)::st) nmS (lh (Es x)) (iS (Ms x)) c):mZ cx Q st nm e M c:=MX hG μ P nmS Es Ms x0 src h0 hb hME.1 hME.2 hr
def BO {cx:Cx}{Q:Post}{st:List Frm}{nm:Nat}{e:Env}{M:ah}(hG:∀ g,(cx.G g).plain=true){α:Type}{μ:α->Nat}{P:α->Prop}{nmS:Nat}{Es:α->List (Nat×V)}{Ms:α->List (Nat×Blk)}{g:Nat}(x:α)(src:List ZC)(hg:μ x<g)(h0:P x)(hb:Q.b0<=nmS)(hME:jb (xX (dL (cn (Ms x) src)) M) Q.b0 nmS M (cn (Ms x) src)/\kC M (dL (cn (Ms x) src)) e (Es x)):dP cx Q (.again (pD μ P nmS Es Ms) g::st) nm e M .normal:=Ez hG x src hg h0 hb hME.1 hME.2
def FP {cx:Cx}{Q:Post}{st:List Frm}{nm:Nat}{e:Env}{M:ah}{c:Code}(hG:∀ g,(cx.G g).plain=true){α:Type}(μ:α->Nat)(P:α->Prop)(nmS:Nat)(Es:α->List (Nat×V))(Ms:α->List (Nat×Blk))(x0:α)(src:List ZC)(h0:P x0)(hb:Q.b0<=nmS)(hME:jb (xX (dL (cn (Ms x0) src)) M) Q.b0 nmS M (cn (Ms x0) src)/\kC M (dL (cn (Ms x0) src)) e (Es x0))(hr:∀ x,P x->go cx Q (.again (pD μ P nmS Es Ms) (μ x)::st) nmS (lh (Es x)) (iS (Ms x)) c):mZ cx Q st nm e M c:=Jf hG μ P nmS Es Ms x0 src h0 hb hME.1 hME.2 hr
def Ev.makeNoZero {cx : Cx} {f : FuncId} {fn : Func} {ps : ZF} {t e : TypeId} (hf : cx.P.funcs[f]? = some fn) (hname : (fn.name == "runtime.NumGoroutine") = false) (hb : fn.body.isNone = true) (hn : Extern.findNext fn = none)
  (he:Extern.find fn=some (Extern.BytealgMakeNoZero.makeNoZero ps #[t])) (ht:cx.P.underlying t=some (.slice e)) (n:Nat) (hle:n<=281474976710656) (M:ah) (nm:Nat) (hM:M nm=none):Ev cx f nm [.int .i64 n] M (.own nm 0 n) [(nm,some (@Blk.mk 1 [] (.typed e)))]:=by
 refine⟨trivial,fun X w ρ cargs B hr hfr hB hlen hargs=>?_⟩
 match cargs,hlen,hargs with
 |⟨[v0]⟩,_,hargs =>
 have h0:=hargs 0 _ v0 rfl rfl
 cases h0
 obtain⟨cs,h1,h2,_⟩:=Lib.run_makeNoZero (P:=cx.P) w ps t e ht n hle
 obtain⟨d1,d2⟩:=hr.draw (w.drawn+1)
 obtain⟨d3,d4⟩:=d1.draw (w.drawn+1+1)
 have hρ:ρ nm=none:=hfr nm ⟨IS _,by omega⟩
 obtain⟨r1,r2⟩:=d3.alloc hM hρ cs e (@Blk.mk 1 [] (.typed e)) cs.size (WB _) (by show cs.size*1<=cs.size;omega) (fun i row hi=>by simp at hi) (fun i j row u hi=>by simp at hi) ⟨rfl,rfl⟩
 refine .inr ⟨_,_,(by rw[run_callFunc_extern hf hname hb hn he,h1];rfl),_,rfl,_,r1,(d2.trans d4).trans r2,?_,fun x hx=>Names.put_ne _ _ (fun h=>hx (by subst h;exact⟨IS _,by omega⟩))⟩
 have:=Is.own (ρ:=ρ.put nm ⟨w.heap.size,0,1,cs.size⟩) (D:=bV X (ρ.put nm ⟨w.heap.size,0,1,cs.size⟩) (M.put nm (some (@Blk.mk 1 [] (.typed e))))) (w:=w.drew.drew.alloc (.cells cs e)) (nm:=nm) (lo:=0) (n:=n) (c:=cs.size) (Names.put_same _ _ _) ZH h2
 exact this
def Sa.cell {cx:Cx}{f:FuncId}{nm:Nat}{args:List V}{M:ah}{v:Nat->V}{eff:List (Nat×Option Blk)}(q j y lo n sz:Nat)(row:List V)(ob:Ob)(hM:M q=some (@Blk.mk sz [row] ob))(hj:row[j]? = some (.own y lo n))(hob:ob.isRow=true)(hq:q∈al eff)
  (h:∀ c,n<=c->Ev cx f nm args (M.put q (some (@Blk.mk sz [row.set j (.ownc y lo n c)] ob))) (v c) eff):Sa cx f nm args M (fun u=>∃ c,n<=c/\u=v c) eff:=by
 refine⟨trivial,fun X w ρ cargs B hr hfr hB hn hargs=>?_⟩
 obtain⟨l,a1,a2,a3,cs,e,hok,a4,a5,a6,a7,a8,a9⟩:∃ l,ρ q=some l/\(bQ ρ M l.b\/w.heap.size<=l.b) /\ ¬ X l.b/\GX ρ (bV X ρ M) w l (@Blk.mk sz [row] ob):=by
  rcases hr.live q _ hM with ⟨b1,_⟩|⟨l,b1,b2,b3,b4|⟨o,_,ms,buf,_,_,c1,_,_,c4,_⟩⟩
  ·cases b1
  ·exact⟨l,b1,b2,b3,b4⟩
  ·cases c4
 obtain⟨cv0,c1,c2⟩:=a9 0 j row _ rfl hj
 obtain⟨c,hnc,hic⟩:∃ c,n<=c/\Is ρ (bV X ρ M) w (.ownc y lo n c) cv0:=by
  cases c2 with
  | own0=>exact⟨0,IS _,.ownc0⟩
  | own hl hlc hnc =>
   rename_i c l
   by_cases h0:c=0
   ·have hn0:n=0:=Y6
    subst h0;subst hn0
    exact⟨0,IS _,.ownc0⟩
   ·exact⟨c,hnc,.ownc hl hlc hnc Y6⟩
 generalize hk:(@Blk.mk sz [row.set j (.ownc y lo n c)] ob)=k' at *
 have hs:∀ x,((M.put q (some k')) x).isSome=(M x).isSome:=fun x=>by
  by_cases e:x=q
  ·subst e;rw[ah.put_same,hM];rfl
  ·rw[ah.put_ne _ _ e]
 have hsb:∀ x,(((M.put q (some k')) x).isSome=true)=((M x).isSome=true):=fun x=>by rw[hs x]
 have hblk:bQ ρ (M.put q (some k'))=bQ ρ M:=by
  funext b;simp only[bQ,hsb]
 have hdom:bV X ρ (M.put q (some k'))=bV X ρ M:=by
  funext b;simp only[bV,hsb]
 have happ:(M.put q (some k')).app eff=M.app eff:=by
  funext x
  by_cases e:x=q
  ·subst e;exact ah.app_congr (fun hx=>absurd hq hx)
  ·exact ah.app_congr (fun _=>ah.put_ne _ _ e)
 have hr':Rel cx.G X w (bQ ρ (M.put q (some k'))) ρ (M.put q (some k')) w:=by
  rw[hblk]
  refine { size:=hr.size,os:=hr.os,tape:=hr.tape,output:=hr.output,old:=hr.old,live:=?_,inj:=?_,hX:=hr.hX,glob:=?_ }
  ·intro x k hx
   rw[hdom]
   by_cases e:x=q
   ·subst e
    rw[ah.put_same]at hx;cases hx
    subst hk
    refine .inr ⟨l,a1,a2,a3,.inl ⟨cs,e,hok,a4,a5,a6,a7,fun i r hi=>?_,fun i p r u hi hp=>?_⟩⟩
    ·cases i with
     | zero =>
      have hi':row.set j (.ownc y lo n c)=r:=by simpa using hi
      rw[<- hi',YL];exact a8 0 row rfl
     | succ i=>simp at hi
    ·cases i with
     | zero =>
      have hi':row.set j (.ownc y lo n c)=r:=by simpa using hi
      rw[<- hi',Xb]at hp
      split at hp
      ·rename_i hjp
       split at hp
       ·cases hp
        subst hjp
        exact⟨cv0,c1,hic⟩
       ·cases hp
      ·exact a9 0 p row u rfl hp
     | succ i=>simp at hi
   ·rw[ah.put_ne _ _ e]at hx
    exact hr.live x k hx
  ·intro a b l l' h1 h2
   rw[hs]at h1 h2
   exact hr.inj a b l l' h1 h2
  ·intro g;rw[hdom];exact hr.glob g
 have hB':∀ x,B<=x->(M.put q (some k')) x=none:=fun x hx=>by
  have h0:=hs x
  rw[(hB x hx).1]at h0
  cases hq:(M.put q (some k')) x with
  | none=>rfl
  | some k=>rw[hq]at h0;cases h0
 have hcc:=h c hnc
 rw[hk]at hcc
 refine(hcc.2 X w ρ cargs B hr' hfr (fun x hx=>⟨hB' x hx,(hB x hx).2⟩) hn (fun i u cv hi hc=>by rw[hdom];exact hargs i u cv hi hc)).mono ?_
 rintro e w' ⟨cv,rfl,ρ',r,m,hv,hnn⟩
 rw[happ]at r m hv
 rw[hblk]at r
 refine⟨cv,rfl,v c,⟨c,hnc,rfl⟩,ρ',r,⟨m.names,m.size,m.os,m.tape,m.output,fun b hb hk2=>m.kept b hb (fun x l h1 h2=>hk2 x l (by rw[<- hs x];exact h1) h2),fun x l h1 h2 h3=>?_⟩,hv,hnn⟩
 obtain⟨x',l',k1,k2,k3⟩:=m.dom x l h1 h2 h3
 exact⟨x',l',by rw[<- hs x'];exact k1,k2,k3⟩
section
variable {P:Program}
def GU {c:Code}{Q:Exit->Act->List Frame->World->Prop}{a:Act}{cs:List Frame}{w:World}(h:kA P c (fun e a' w'=>Q e a' cs w') a w):c.wpS P Q a cs w :=
 fun b k hb _=>let ⟨e,a',w',q,r⟩:=h b k cs (by rw[hb];simp);⟨e,a',cs,w',q,r⟩
def pC {f:FuncId}{fn:Func}{c:Code}{args:ZG}{w:World}{R:Ending->World->Prop}
  (hf:P.funcs[f]? = some fn) (hb:fn.body=some c)
  (h:kA P c (bodyPostD P fn R) { tmps:=args++Array.replicate (fn.ntmps-args.size) undef,defers:=[] } w):Calls P f args w R:=by
 intro cs
 let b:Frame:={ (default:Frame) with fn:=f,kind:=.normal }
 have henter:Frame.enter P f args .normal =
   b.at { tmps:=args++Array.replicate (fn.ntmps-args.size) undef,defers:=[] } [.code c]:=by
  simp_all[Frame.enter,Frame.at,b]
 obtain⟨e,a',w',hq,harr⟩:=h b [] cs (by simp[b])
 rw[<- henter]at harr
 cases e with
 | normal =>
  obtain⟨e',w'',fr',hR,hs,hfn,hl⟩:=leaves_steps a'.defers .returning w' { b.at a' [] with mode:=.returning } cs rfl rfl rfl hf rfl hq
  exact⟨e',w'',fr',hR,Comes.of_steps (Steps.trans harr (.one step_end)) hs,hfn,hl⟩
 | ret =>
  obtain⟨todo,hs₀⟩:=harr
  obtain⟨e',w'',fr',hR,hs,hfn,hl⟩:=leaves_steps a'.defers .returning w' { b.at a' todo with mode:=.returning } cs rfl rfl rfl hf rfl hq
  exact⟨e',w'',fr',hR,Comes.of_steps hs₀ hs,hfn,hl⟩
 | panic chain =>
  obtain⟨todo,hs₀⟩:=harr
  obtain⟨e',w'',fr',hR,hs,hfn,hl⟩:=leaves_steps a'.defers (.panicking chain) w' { b.at a' todo with mode:=.panicking chain } cs rfl rfl rfl hf rfl hq
  exact⟨e',w'',fr',hR,Comes.of_steps hs₀ hs,hfn,hl⟩
 | exit id=>exact hq.elim
 | goto l=>exact hq.elim
 | outgrown=>exact⟨.outgrown,w',b,hq,harr.resolve_left (by simp[b]),rfl,trivial⟩
end
def vw {ρ:Names}{D:Nat->Prop}{w:World}{N:Nat}{args:List V}{cargs:ZG}(hn:args.length=cargs.size)(hle:args.length<=N)(his:∀(i:Nat) (u:V) (cv:Value),args[i]? = some u->cargs[i]? = some cv->Is ρ D w u cv) :
  EnvAt [] ρ D w N (fp args) { tmps:=cargs++Array.replicate (N-cargs.size) undef,defers:=[] }:=by
 refine⟨by simp;omega,rfl,fun t ht=>?_⟩
 simp only[fp,Wu]
 by_cases hlt:t<args.length
 ·grind
 ·rw[W0 Y6]
  exact .any _
def JZ:FrameMode->Option (Value×FrameMode)
 | .returning=>some (.nilIface,.returning)
 | .panicking [{ v,recovered:=false,goexit:=false }]=>some (v,.panicking [{ v,recovered:=true }])
 | _=>none
def Gn {u u2:FrameMode}{v:Value}(h:JZ u=some (v,u2)):settle u2 = .returning:=by
 unfold JZ at h
 split at h
 ·cases h;rfl
 ·cases h;rfl
 ·cases h
def Rn {u u2:FrameMode}{v:Value}(h:JZ u=some (v,u2))(c₀:Frame)(cs:List Frame)(hu:c₀.mode=u) :
  (u = .returning/\v = .nilIface/\recoverD (c₀::cs)=none/\c₀ = { c₀ with mode:=u2 })\/recoverD (c₀::cs)=some (v,{ c₀ with mode:=u2 } :: cs):=by
 subst hu
 unfold JZ at h
 split at h
 ·rename_i hm
  cases h
  refine .inl ⟨hm,rfl,?_,?_⟩
  ·simp_all[recoverD]
  ·rw[<- hm]
 ·rename_i v' hm
  cases h
  simp_all[recoverD]
 ·cases h
structure Clo (P:Program) (g:FuncId) (N t2 t3:Nat) (rest:Code):Prop where
 fn:∃ fnc i o1 o2,P.funcs[g]? = some fnc/\fnc.body=some (.seq (.region i #[o1,o2] false) rest)/\fnc.ntmps=N/\fnc.results = #[]/\t2<N/\t3<N /\
  (∃ ats ty pos af,o1=⟨some t3,.call ⟨.builtin .recover,#[],ats⟩,ty,pos,af,none⟩) /\ ∃ ty pos af,o2=⟨some t2,.assign (.tmp t3),ty,pos,af,none⟩
variable {cx:Cx} {X:Nat->Prop} {w0:World} {I:Nat->Prop} {ρ:Names} {M:ah} {w:World}
def Ij (hD:cx.D=[])(hm:cx.P.follows .mixedOrders=true){g N t2 t3:Nat}{rest:Code}(hc:Clo cx.P g N t2 t3 rest)(hin:dc N rest=true){n:Nat}(hr:Rel cx.G X w0 I ρ M w)(hfree:∀ x,n<=x->M x=none/\ρ x=none){caps:List V}{ccaps:ZG}(hn:caps.length=ccaps.size)(hle:caps.length<=N)
  (his:∀(i:Nat) (u:V) (cv:Value),caps[i]? = some u->ccaps[i]? = some cv->Is ρ (bV X ρ M) w u cv) {u u2:FrameMode} {r:V} {cr:Value} (hrec:JZ u=some (cr,u2)) (hri:Is ρ (bV X ρ M) w r cr) (K:Nat->ah->Prop)
  (hvc:go cx ⟨n,fun x n' _ M'=>x = .normal/\K n' M'⟩ [] n (((fp caps).put t3 r).put t2 r) M rest) :
  CallsD cx.P g ccaps u w fun e u' w'=>(∃ v,e = .returned v)/\u'=u2 /\ ∃ n' ρ' M',K n' M'/\n<=n'/\Rel cx.G X w0 I ρ' M' w'/\(∀ x,n'<=x->M' x=none/\ρ' x=none)/\(∀ x l,ρ x=some l->ρ' x=some l) /\ ∀ x,x<n->ρ' x=ρ x:=by
 obtain⟨fnc,i,o1,o2,hf,hb,rfl,hres,ht2,ht3,⟨ats,ty,pos,af,rfl⟩,ty2,pos2,af2,rfl⟩:=hc.fn
 refine callsD_of_wpS hf hb fun c₀ cs hu=>?_
 have henv:=((vw hn hle his).put (some t3) (fun t h=>by simp_all) hri).put (some t2) (fun t h=>by simp_all) hri
 have hbody:rest.wpS cx.P (bodyPostS cx.P fnc c₀ cs fun e u' w'=>(∃ v,e = .returned v)/\u'=u2 /\ ∃ n' ρ' M',K n' M'/\n<=n'/\Rel cx.G X w0 I ρ' M' w'/\(∀ x,n'<=x->M' x=none/\ρ' x=none)/\(∀ x l,ρ x=some l->ρ' x=some l) /\ ∀ x,x<n->ρ' x=ρ x)
   ((({ tmps:=ccaps++Array.replicate (fnc.ntmps-ccaps.size) undef,defers:=[] } : Act).put (some t3) cr).put (some t2) cr) ({ c₀ with mode:=u2 } :: cs) w:=by
  refine GU ?_
  have hl:Lies cx fnc.ntmps X w0 I ρ n n (((fp caps).put t3 r).put t2 r) M ρ ((({ tmps:=ccaps++Array.replicate (fnc.ntmps-ccaps.size) undef,defers:=[] } : Act).put (some t3) cr).put (some t2) cr) w :=
   ⟨hr,by rw[hD];exact henv,hfree,fun _ _ h=>h,IS _,fun _ _=>rfl,fun x hx=>(hfree x hx).2⟩
  refine kA.mono (dM hm rest _ n _ M ρ _ w hin hl hvc) ?_
  rintro x a' w' ⟨n',e',M',ρ',h',hq⟩
  have done:K n' M'->a'.defers=[] /\ ∃ u',({ c₀ with mode:=u2 } :: cs:List Frame) = { c₀ with mode:=u' } :: cs /\ ∃ v,(results fnc a'.tmps).run cx.P w' = .ok v w'/\((∃ v',Ending.returned v = .returned v')/\u'=u2 /\ ∃ n' ρ' M',K n' M'/\n<=n'/\Rel cx.G X w0 I ρ' M' w'/\(∀ x,n'<=x->M' x=none/\ρ' x=none)/\(∀ x l,ρ x=some l->ρ' x=some l) /\ ∀ x,x<n->ρ' x=ρ x):=fun hk =>
   ⟨h'.env.defers.trans hD,u2,rfl,.tuple #[],by simp[results,hres],⟨_,rfl⟩,rfl,n',ρ',M',hk,h'.base,h'.rel,h'.free,h'.names,h'.low⟩
  cases x with
  | normal=>exact done hq.2
  | exit id=>obtain⟨h,_⟩:=hq;cases h
  | ret=>obtain⟨h,_⟩:=hq;cases h
  | goto l=>exact hq.elim
  | panic ch=>obtain⟨_,_,_,_,h,_⟩:=hq;cases h
  | outgrown=>exact hq.elim
 have hsz:t3<ccaps.size+(fnc.ntmps-ccaps.size):=Y6
 refine wpS_seq (wpS_region ?_)
 rcases Rn hrec c₀ cs hu with ⟨_,rfl,h1,h2⟩|h1
 ·rw[<- h2]at hbody
  simp[wpOpsS,go_sem,h1,Region.wanted,Exit.thenS,List.range,List.range.loop]
  rw[if_pos hsz]
  exact hbody
 simp_all[wpOpsS,go_sem,Exit.thenS]
def vR (c1 c2 y1 y2:Nat):Env:=fun t=>if t=c1 then .ptr y1 0 0 else if t=c2 then .ptr y2 0 0 else .any
def SD (cx:Cx)(fn:Func)(nm:Nat)(M:ah)(v:V)(eff:List (Nat×Option Blk))(b0 c1 c2 y1 y2 t2 t3:Nat)(restc:Code)(u:V)(n':Nat)(e':Env)(M':ah):Prop :=
 e' c1 = .ptr y1 0 0/\e' c2 = .ptr y2 0 0/\go cx ⟨n',fun x n2 _ M2=>x = .normal/\pV cx fn.ntmps fn.results.toList nm M v eff b0 n2 (vR c1 c2 y1 y2) M2⟩ [] n' (((fp [.ptr y1 0 0,.ptr y2 0 0]).put t3 u).put t2 u) M' restc
def SE (cx:Cx)(fn:Func)(nm:Nat)(M:ah)(v:V)(eff:List (Nat×Option Blk))(b0 c1 c2 y1 y2 t2 t3:Nat)(restc:Code):Ex->Nat->Env->ah->Prop
 | .exit _=>fun _ _ _=>False
 | .normal | .ret=>SD cx fn nm M v eff b0 c1 c2 y1 y2 t2 t3 restc (.val .nilIface)
 | .panic u=>SD cx fn nm M v eff b0 c1 c2 y1 y2 t2 t3 restc u
def SF (cx:Cx)(fn:Func)(nm:Nat)(M:ah)(v:V)(eff:List (Nat×Option Blk))(b0 c1 c2 t t2 t3:Nat)(rest restc:Code):Ex->Nat->Env->ah->Prop:=fun x n e M1 =>
 x = .normal /\ ∃ y1 y2,e c1 = .ptr y1 0 0/\e c2 = .ptr y2 0 0 /\ ∀ D,go ⟨cx.P,cx.G,D⟩ ⟨n,SE cx fn nm M v eff b0 c1 c2 y1 y2 t2 t3 restc⟩ [] n (e.put t .any) M1 rest
def rN {ρ ρ2:Names}{D D2:Nat->Prop}{w w2:World}{y:Nat}{p:Value}(h:Is ρ D w (.ptr y 0 0) p)(hn:∀ x l,ρ x=some l->ρ2 x=some l):Is ρ2 D2 w2 (.ptr y 0 0) p:=by
 cases h with
 | ptr h=>exact .ptr (hn _ _ h)
def O1 {P:Program}{i:Nat}{o1 o2:Oper}{t c1 c2 g:Nat}{a:Act}{w:World}{Q:Exit->Act->World->Prop}(ht:t<a.tmps.size)(h1:∃ ty pos af,o1=⟨some t,.makeFunc (.func g) #[] #[.tmp c1,.tmp c2],ty,pos,af,none⟩)(h2:∃ ats ty pos af,o2=⟨none,.defer ⟨.value (.tmp t),#[],ats⟩,ty,pos,af,none⟩)
  (h:Q .normal { a.put (some t) (.func (.func g) #[] #[a.eval (.tmp c1),a.eval (.tmp c2)]) with defers:=⟨.fn (.func g) #[a.eval (.tmp c1),a.eval (.tmp c2)],#[]⟩::a.defers } w):(Code.region i #[o1,o2] false).wp P Q a w:=by
 obtain⟨ty,pos,af,rfl⟩:=h1
 obtain⟨ats,ty2,pos2,af2,rfl⟩:=h2
 have hmf:∀(fn:Fn) (first cap:ZG) (w:World),(Instr.makeFunc fn first cap).run P w = .ok (.func fn first cap) w:=fun _ _ _ _=>rfl
 refine wp_region ?_
 simp_all[wpOps,go_sem]
def nX {cx:Cx}(hD:cx.D=[])(hm:cx.P.follows .mixedOrders=true){f:FuncId}{nm:Nat}{args:List V}{M:ah}{v:V}{eff:List (Nat×Option Blk)}{fn:Func}{c0 rest restc:Code}{i1:Nat}{o1 o2:Oper}{g N t2 t3 t c1 c2:Nat}
  (hcall:∀ cargs w,(callFunc f cargs).run cx.P w = .ok (.enter f cargs) w) (hcallg:∀ cargs w,(callFunc g cargs).run cx.P w = .ok (.enter g cargs) w) (hf:cx.P.funcs[f]? = some fn) (hb:fn.body=some (.seq c0 (.seq (.region i1 #[o1,o2] false) rest)))
  (ho1:∃ ty pos af,o1=⟨some t,.makeFunc (.func g) #[] #[.tmp c1,.tmp c2],ty,pos,af,none⟩) (ho2:∃ ats ty pos af,o2=⟨none,.defer ⟨.value (.tmp t),#[],ats⟩,ty,pos,af,none⟩)
  (hc:Clo cx.P g N t2 t3 restc) (hinc:dc N restc=true) (hin0:dc fn.ntmps c0=true) (hin1:dc fn.ntmps rest=true) (hle:(decide (args.length<=fn.ntmps)&&decide (2<=N)&&decide (t<fn.ntmps)&&decide (c1<fn.ntmps)&&decide (c2<fn.ntmps))=true)
  (hvc:∀ b0,(∀ x,b0<=x->M x=none)->go cx ⟨b0,SF cx fn nm M v eff b0 c1 c2 t t2 t3 rest restc⟩ [] b0 (fp args) M c0):Ev cx f nm args M v eff:=by
 simp only[In,WD]at hle
 obtain⟨⟨⟨⟨hle,hN⟩,ht⟩,hc1⟩,hc2⟩:=hle
 refine⟨trivial,fun X w ρ cargs B hrel hfr hB hlen his=>?_⟩
 have hstart:Lies cx fn.ntmps X w (bQ ρ M) ρ B B (fp args) M ρ { tmps:=cargs++Array.replicate (fn.ntmps-cargs.size) undef,defers:=[] } w :=
  ⟨hrel,by rw[hD];exact vw hlen hle his,hB,fun _ _ h=>h,IS _,fun _ _=>rfl,fun x hx=>(hB x hx).2⟩
 refine .inl ⟨hcall _ _,?_⟩
 refine pC hf hb (kA.seq (kA.mono (dM hm c0 _ B (fp args) M ρ _ w hin0 hstart (hvc B (fun x hx=>(hB x hx).1))) ?_))
 rintro x a w1 ⟨n,e,M1,ρ1,h1,hq⟩
 cases x with
 | exit id=>cases hq.1
 | ret=>cases hq.1
 | goto l=>exact hq.elim
 | panic ch=>obtain⟨_,_,_,_,h,_⟩:=hq;cases h
 | outgrown=>exact hq.elim
 | normal =>
 obtain⟨_,y1,y2,he1,he2,hrest⟩:=hq
 have hv1:=h1.env.is c1 hc1
 have hv2:=h1.env.is c2 hc2
 rw[he1]at hv1
 rw[he2]at hv2
 have hda:a.defers=[]:=h1.env.defers.trans hD
 refine kA.seq (kA.of (O1 (by simp_all[h1.env.size]) ho1 ho2 ?_))
 rw[hda]
 have e1:a.eval (.tmp c1)=a.tmps.getD c1 undef:=rfl
 have e2:a.eval (.tmp c2)=a.tmps.getD c2 undef:=rfl
 rw[e1,e2]
 generalize hp1:a.tmps.getD c1 undef=p1 at hv1
 generalize hp2:a.tmps.getD c2 undef=p2 at hv2
 show kA cx.P rest _ _ w1
 have hl2:Lies ⟨cx.P,cx.G,[⟨.fn (.func g) #[p1,p2],#[]⟩]⟩ fn.ntmps X w (bQ ρ M) ρ1 n n (e.put t .any) M1 ρ1 { a.put (some t) (.func (.func g) #[] #[p1,p2]) with defers:=[⟨.fn (.func g) #[p1,p2],#[]⟩] } w1:=by
  have:=h1.env.put (some t) (fun x h=>by simp_all) (.any (.func (.func g) #[] #[p1,p2]))
  exact⟨h1.rel,⟨this.size,rfl,this.is⟩,h1.free,fun _ _ h=>h,IS _,fun _ _=>rfl,fun x hx=>(h1.free x hx).2⟩
 refine kA.mono (dM (cx:=⟨cx.P,cx.G,[⟨.fn (.func g) #[p1,p2],#[]⟩]⟩) hm rest _ n _ M1 ρ1 _ w1 hin1 hl2 (hrest _)) ?_
 have key:∀(u:FrameMode) (r:V) (cr:Value) (u2:FrameMode) (n':Nat) (e':Env) (M':ah) (ρ':Names) (a':Act) (w2:World),u ≠ .run->JZ u=some (cr,u2)->Lies ⟨cx.P,cx.G,[⟨.fn (.func g) #[p1,p2],#[]⟩]⟩ fn.ntmps X w (bQ ρ M) ρ1 n n' e' M' ρ' a' w2->Is ρ' (bV X ρ' M') w2 r cr->SD cx fn nm M v eff B c1 c2 y1 y2 t2 t3 restc r n' e' M' ->
   Leaves cx.P fn a'.tmps (fun e w'=>∃ cv,e = .returned cv/\fb cx.G X w (bQ ρ M) ρ M w nm v (M.app eff) cv w') a'.defers u w2:=by
  intro u r cr u2 n' e' M' ρ' a' w2 hu hrec h' hri hcl
  obtain⟨k1,k2,hgo⟩:=hcl
  have hd:a'.defers=[⟨.fn (.func g) #[p1,p2],#[]⟩]:=h'.env.defers
  rw[hd]
  refine leaves_cons (f:=g) (args:=#[p1,p2]) hu (by simp_all[invoke]) ?_
  refine(Ij (n:=n') hD hm hc hinc h'.rel h'.free (caps:=[.ptr y1 0 0,.ptr y2 0 0]) (ccaps:=#[p1,p2]) rfl hN ?_ hrec hri (fun n2 M2=>pV cx fn.ntmps fn.results.toList nm M v eff B n2 (vR c1 c2 y1 y2) M2) hgo).mono ?_
  ·intro i u' cv hi hcv
   match i,hi,hcv with
   | 0,hi,hcv=>cases hi;cases hcv;exact rN hv1 h'.names
   | 1,hi,hcv=>cases hi;cases hcv;exact rN hv2 h'.names
  ·rintro ee u' w3 ⟨⟨v',rfl⟩,rfl,n2,ρ2,M2,⟨gs,hfin⟩,g1,g2,g3,g4,g5⟩
   show Leaves _ _ _ _ [] (settle _) w3
   rw[Gn hrec]
   have q1:=h'.env.is c1 hc1
   have q2:=h'.env.is c2 hc2
   rw[k1]at q1
   rw[k2]at q2
   have hl3:Lies cx fn.ntmps X w (bQ ρ M) ρ B n2 (vR c1 c2 y1 y2) M2 ρ2 { a' with defers:=[] } w3:=by
    refine⟨g2,⟨h'.env.size,hD.symm,fun x hx=>?_⟩,g3,fun x l h=>g4 x l (h'.names x l (h1.names x l h)),W4 h1.base (W4 h'.base g1),fun x hx=>?_,fun x hx=>(hB x hx).2⟩
    ·unfold vR
     split
     ·rename_i e;subst e
      exact rN q1 g4
     ·split
      ·rename_i e;subst e
       exact rN q2 g4
      ·exact .any _
    ·have l1:=h1.base
     have l2:=h'.base
     rw[g5 x Y6,h'.low x Y6,h1.low x hx]
   have hl4:=hl3.ghosts gs
   obtain⟨cv,r1,r2⟩:=sY hl4.rel hl4.env fn hfin.1
   exact⟨cv,r1,cv,rfl,sv hrel hfr hB hl4 hfin r2⟩
 rintro x a' w2 ⟨n',e',M',ρ',h',hq⟩
 cases x with
 | normal=>exact key .returning _ _ _ n' e' M' ρ' a' w2 ZH rfl h' (.val _) hq
 | ret=>exact key .returning _ _ _ n' e' M' ρ' a' w2 ZH rfl h' (.val _) hq
 | exit id=>exact hq.elim
 | goto l=>exact hq.elim
 | outgrown=>exact hq.elim
 | panic ch =>
  obtain⟨u,cu,rfl,hiu,hq⟩:=hq
  exact key (.panicking [{ v:=cu,recovered:=false }]) u cu _ n' e' M' ρ' a' w2 ZH rfl h' hiu hq
section
variable {cx:Cx} {fn:Func} {nm:Nat} {M:ah} {v:V} {eff:List (Nat×Option Blk)} {b0 c1 c2 y1 y2 t2 t3:Nat} {restc:Code} {n':Nat} {e':Env} {M':ah}
def ra (h1:e' c1 = .ptr y1 0 0)(h2:e' c2 = .ptr y2 0 0)(h3:go cx ⟨n',fun x n2 _ M2=>x = .normal/\pV cx fn.ntmps fn.results.toList nm M v eff b0 n2 (vR c1 c2 y1 y2) M2⟩ [] n' (((fp [.ptr y1 0 0,.ptr y2 0 0]).put t3 (.val .nilIface)).put t2 (.val .nilIface)) M' restc):SE cx fn nm M v eff b0 c1 c2 y1 y2 t2 t3 restc .ret n' e' M':=⟨h1,h2,h3⟩
def vk {u:V}(h1:e' c1 = .ptr y1 0 0)(h2:e' c2 = .ptr y2 0 0)(h3:go cx ⟨n',fun x n2 _ M2=>x = .normal/\pV cx fn.ntmps fn.results.toList nm M v eff b0 n2 (vR c1 c2 y1 y2) M2⟩ [] n' (((fp [.ptr y1 0 0,.ptr y2 0 0]).put t3 u).put t2 u) M' restc):SE cx fn nm M v eff b0 c1 c2 y1 y2 t2 t3 restc (.panic u) n' e' M':=⟨h1,h2,h3⟩
end
def m8 (c1 c2 y1 y2 x:Nat):vR c1 c2 y1 y2 x=if x=c1 then .ptr y1 0 0 else if x=c2 then .ptr y2 0 0 else .any:=rfl
variable {cx:Cx}
section
variable {Q:Post} {st:List Frm} {nm:Nat} {e:Env} {M:ah}
end
def rF (cx:Cx)(fn:Func)(nm:Nat)(M:ah)(v:V)(eff:List (Nat×Option Blk))(b0:Nat):Code->Ex->Nat->Env->ah->Prop
 | .seq c1 r1,.normal,n,e,M1=>∃ n' e' M',pW cx b0 n e M1 n' e' M'/\(go cx (vv cx fn nm M v eff b0) [] n' e' M' (.seq c1 r1)\/go cx ⟨b0,rF cx fn nm M v eff b0 r1⟩ [] n' e' M' c1)
 | rest,.normal,n,e,M1=>∃ n' e' M',pW cx b0 n e M1 n' e' M'/\go cx (vv cx fn nm M v eff b0) [] n' e' M' rest
 | _,.ret,n,e,M1=>nx cx fn nm M v eff b0 .ret n e M1
 | _,_,_,_,_=>False
def M5 (cx:Cx)(fn:Func)(nm:Nat)(M:ah)(v:V)(eff:List (Nat×Option Blk))(b0:Nat)(c:Code)(n:Nat)(e:Env)(M1:ah):rF cx fn nm M v eff b0 c .ret n e M1=nx cx fn nm M v eff b0 .ret n e M1:=by
 cases c<;>rfl
def Jn {cx:Cx}{fn:Func}{nm:Nat}{M:ah}{v:V}{eff:List (Nat×Option Blk)}{b0:Nat}{c:Code}{n:Nat}{e:Env}{M1:ah}{id:Nat} : ¬ rF cx fn nm M v eff b0 c (.exit id) n e M1:=by
 cases c<;>exact fun h=>h
def M4 {cx:Cx}{fn:Func}{nm:Nat}{M:ah}{v:V}{eff:List (Nat×Option Blk)}{b0:Nat}{c:Code}{n:Nat}{e:Env}{M1:ah}{u:V} : ¬ rF cx fn nm M v eff b0 c (.panic u) n e M1:=by
 cases c<;>exact fun h=>h
def Do {cx:Cx}{fn:Func}{nm:Nat}{M:ah}{v:V}{eff:List (Nat×Option Blk)}{b0:Nat}{rest:Code}{n:Nat}{e:Env}{M1:ah}(n':Nat)(e':Env)(M':ah)(hw:pW cx b0 n e M1 n' e' M')(h:go cx (vv cx fn nm M v eff b0) [] n' e' M' rest):rF cx fn nm M v eff b0 rest .normal n e M1:=by
 cases rest<;>first|exact⟨n',e',M',hw,h⟩|exact⟨n',e',M',hw,.inl h⟩
def Jo {cx:Cx}(hm:cx.P.follows .mixedOrders=true){fn:Func}{nm:Nat}{M:ah}{v:V}{eff:List (Nat×Option Blk)}{b0:Nat}{X:Nat->Prop}{w0:World}{I:Nat->Prop}{ρ0:Names} : ∀(rest:Code) {n:Nat} {e:Env} {M1:ah} {ρ:Names} {a:Act} {w:World},dc fn.ntmps rest=true->Lies cx fn.ntmps X w0 I ρ0 b0 n e M1 ρ a w->rF cx fn nm M v eff b0 rest .normal n e M1 ->
  kA cx.P rest (GY cx fn.ntmps X w0 I ρ0 b0 (nx cx fn nm M v eff b0)) a w:=by
 intro rest
 have base:∀(rest:Code) {n:Nat} {e:Env} {M1:ah} {ρ:Names} {a:Act} {w:World},dc fn.ntmps rest=true->Lies cx fn.ntmps X w0 I ρ0 b0 n e M1 ρ a w->(∃ n' e' M',pW cx b0 n e M1 n' e' M'/\go cx (vv cx fn nm M v eff b0) [] n' e' M' rest)->kA cx.P rest (GY cx fn.ntmps X w0 I ρ0 b0 (nx cx fn nm M v eff b0)) a w:=by
  rintro rest n e M1 ρ a w hin hl ⟨n2,e2,M2,hw,hrest⟩
  obtain⟨ρ2,h2⟩:=hw _ _ _ _ _ _ _ _ hl
  exact dM hm rest _ n2 e2 M2 ρ2 _ w hin h2 hrest
 induction rest with
 | seq c1 r1 _ ih =>
  intro n e M1 ρ a w hin hl hq
  obtain⟨n2,e2,M2,hw,hrest⟩:=hq
  rcases hrest with hrest|hrest
  ·grind
  ·obtain⟨ρ2,h2⟩:=hw _ _ _ _ _ _ _ _ hl
   simp only[dc,In]at hin
   refine kA.seq (kA.mono (dM hm c1 _ n2 e2 M2 ρ2 _ w hin.1 h2 hrest) ?_)
   rintro x a w1 ⟨n,e,M1,ρ1,h1,hq⟩
   cases x with
   | exit id=>exact(Jn hq).elim
   | ret=>exact⟨n,e,M1,ρ1,h1,by simp_all[lj,M5]⟩
   | goto l=>exact hq.elim
   | panic ch=>obtain⟨_,_,_,_,h⟩:=hq;exact(M4 h).elim
   | outgrown=>exact hq.elim
   | normal=>exact ih hin.2 h1 hq
 | _=>intro n e M1 ρ a w hin hl hq;exact base _ hin hl hq
def mW {cx:Cx}(hD:cx.D=[]){f:FuncId}{nm:Nat}{args:List V}{M:ah}{v:V}{eff:List (Nat×Option Blk)}{fn:Func}{c0 rest:Code}
  (hcall:∀ cargs w,(callFunc f cargs).run cx.P w = .ok (.enter f cargs) w) (hf:cx.P.funcs[f]? = some fn) (hb:fn.body=some (.seq c0 rest)) (hm:cx.P.follows .mixedOrders=true) (hin:dc fn.ntmps (.seq c0 rest)=true) (hargs:decide (args.length<=fn.ntmps)=true)
  (hvc:∀ b0,(∀ x,b0<=x->M x=none)->go cx ⟨b0,rF cx fn nm M v eff b0 rest⟩ [] b0 (fp args) M c0):Ev cx f nm args M v eff:=by
 have hargs:=Xl hargs
 refine⟨trivial,fun X w ρ cargs B hrel hfr hB hlen his=>?_⟩
 have hstart:Lies cx fn.ntmps X w (bQ ρ M) ρ B B (fp args) M ρ { tmps:=cargs++Array.replicate (fn.ntmps-cargs.size) undef,defers:=[] } w :=
  ⟨hrel,by rw[hD];exact vw hlen hargs his,hB,fun _ _ h=>h,IS _,fun _ _=>rfl,fun x hx=>(hB x hx).2⟩
 refine .inl ⟨hcall _ _,?_⟩
 have hmid:rF cx fn nm M v eff B (.seq c0 rest) .normal B (fp args) M:=⟨B,_,M,pW.refl _ _ _ _ _,.inr (hvc B (fun x hx=>(hB x hx).1))⟩
 refine mT hf hb (kA.mono (Jo hm _ hin hstart hmid) ?_)
 rintro x a w' ⟨n,e,M',ρ',h',hq⟩
 have done:pV cx fn.ntmps fn.results.toList nm M v eff B n e M'->a.defers=[] /\ ∃ cv,(results fn a.tmps).run cx.P w' = .ok cv w' /\ ∃ cv',Ending.returned cv = .returned cv'/\fb cx.G X w (bQ ρ M) ρ M w nm v (M.app eff) cv' w':=fun ⟨gs,hfin⟩=>by
  have h':=h'.ghosts gs
  obtain⟨cv,h1,h2⟩:=sY h'.rel h'.env fn hfin.1
  exact⟨h'.env.defers.trans hD,cv,h1,cv,rfl,sv hrel hfr hB h' hfin h2⟩
 cases x<;>simp only[nx]at hq<;>try (exact hq.elim)
 case normal=>exact done hq
 case ret=>exact done hq
 simp_all
section
variable {cx:Cx} {fn:Func} {nm0:Nat} {M0:ah} {v:V} {eff:List (Nat×Option Blk)} {b0:Nat} {rest c1 r1:Code} {nm:Nat} {e:Env} {M:ah}
def eI (h:go cx ⟨b0,rF cx fn nm0 M0 v eff b0 r1⟩ [] nm e M c1):rF cx fn nm0 M0 v eff b0 (.seq c1 r1) .normal nm e M :=
 ⟨nm,e,M,pW.refl _ _ _ _ _,.inr h⟩
def nb (hG:∀ g,(cx.G g).plain=true)(nmS:Nat)(Es:List (Nat×V))(Ms:List (Nat×Blk))(src:List ZC)(hb:b0<=nmS)
  (hME:jb (sX (dL (cn Ms src))) b0 nmS M (cn Ms src)/\kC M (dL (cn Ms src)) e Es) (h:go cx (vv cx fn nm0 M0 v eff b0) [] nmS (lh Es) (iS Ms) rest):rF cx fn nm0 M0 v eff b0 rest .normal nm e M :=
 Do nmS (lh Es) (iS Ms) (xu hG src hb hME.1 hME.2) h
def Dp (hG:∀ g,(cx.G g).plain=true)(nmS:Nat)(Es:List (Nat×V))(Ms:List (Nat×Blk))(src:List ZC)(hb:b0<=nmS)
  (hME:jb (xX (dL (cn Ms src)) M) b0 nmS M (cn Ms src)/\kC M (dL (cn Ms src)) e Es) (h:go cx (vv cx fn nm0 M0 v eff b0) [] nmS (lh Es) (iS Ms) rest):rF cx fn nm0 M0 v eff b0 rest .normal nm e M :=
 Do nmS (lh Es) (iS Ms) (mM hG src (ph _ _) hb hME.1 hME.2) h
def kR (hG:∀ g,(cx.G g).plain=true)(nmS:Nat)(Es:List (Nat×V))(Ms:List (Nat×Blk))(src:List ZC)(hb:b0<=nmS)
  (hME:jb (xX (dL (cn Ms src)) M) b0 nmS M (cn Ms src)/\kC M (dL (cn Ms src)) e Es) (h:go cx ⟨b0,rF cx fn nm0 M0 v eff b0 r1⟩ [] nmS (lh Es) (iS Ms) c1):rF cx fn nm0 M0 v eff b0 (.seq c1 r1) .normal nm e M :=
 ⟨nmS,lh Es,iS Ms,mM hG src (ph _ _) hb hME.1 hME.2,.inr h⟩
end
def Ev.lose {cx:Cx}{f:FuncId}{nm:Nat}{args:List V}{M:ah}{v:V}{eff eff':List (Nat×Option Blk)}(h:Ev cx f nm (finL [] M args) ah.nil v eff)(hok:finLOk [] M args)(he:M.app eff'=ah.nil.app eff):Ev cx f nm args M v eff':=by
  refine⟨h.1,fun X w ρ cargs B hr hfresh hB hn hargs=>?_⟩
  have hdom:∀ b,bV X ρ ah.nil b->bV X ρ M b:=by
    rintro b (hx|⟨nm,l,h1,_⟩)
    · exact .inl hx
    · simp[ah.nil]at h1
  have hr0:Rel cx.G X w (bQ ρ ah.nil) ρ ah.nil w :=
    { size:=IS _,os:=rfl,tape:=rfl,output:=rfl,old:=fun _ _ _=>rfl
      live:=fun nm k hk=>by simp[ah.nil]at hk
      inj:=fun nm nm' l l' h1=>by simp[ah.nil]at h1
      hX:=fun b hb=>⟨(hr.hX b hb).1,by rintro ⟨nm,q,h1,_⟩;simp[ah.nil]at h1⟩
      glob:=fun g=>(hr.glob g).step (fun _ _ h=>h) (IS _) (fun _ _ _=>rfl) (fun b _ hb=>hdom b hb) }
  refine(h.2 X w ρ cargs B hr0 hfresh (fun x hx=>⟨rfl,(hB x hx).2⟩) (by rw[dR];exact hn) ?_).mono ?_
  · intro i u cv hi hc
    rw[gH]at hi
    obtain⟨u',h1,rfl⟩:=BY.1 hi
    refine qh (cx:=cx) hr (fun nm y hy=>by simp[aO]at hy) hdom (fun nm l _ hM hl=>?_) (hargs i u' cv h1 hc) (eQ hok h1)
    rintro (hx|⟨nm',q,h2,_⟩)
    · exact(hr.block_lt hM hl).2.1 hx
    · simp[ah.nil]at h2
  · rintro e' w' ⟨cv,rfl,ρ',r,m,hvv,hn'⟩
    have hkept:∀ b,b<w.heap.size->w'.heap[b]? = w.heap[b]?:=fun b hb=>m.kept b hb (fun nm l h1=>by simp[ah.nil]at h1)
    rw[he]
    refine⟨cv,rfl,ρ',⟨r.size,r.os,r.tape,r.output,fun b hb _=>hkept b hb,fun x k hx=>?_,r.inj,hr.hX,r.glob⟩,⟨m.names,m.size,m.os,m.tape,m.output,fun b hb _=>hkept b hb,fun x l h1 h2 h3=>?_⟩,hvv,hn'⟩
    · rcases r.live x k hx with h1|⟨l,h1,h2,h3⟩
      · exact .inl h1
      · refine .inr ⟨l,h1,?_,h3⟩
        rcases h2 with ⟨nm',q,c1,_⟩|h2
        · simp[ah.nil]at c1
        · exact .inr h2
    · obtain⟨nm',l',c1,_⟩:=m.dom x l h1 h2 h3
      simp[ah.nil]at c1
section
variable {cx:Cx} {Q:Post} {st:List Frm} {nm:Nat} {e:Env} {M:ah}
end
def S8 (M M':ah):Prop:=∀ x,match M x,M' x with
 | none,none=>True
 | some k,some k'=>rz k k'
 | _,_=>False
def me {M M':ah}(h:S8 M M')(x:Nat):(M' x).isSome=(M x).isSome:=by
 have:=h x
 grind
def Rel.weaken {G:Nat->V}{X:Nat->Prop}{w0:World}{I:Nat->Prop}{ρ:Names}{M M':ah}{w:World}(h:Rel G X w0 I ρ M w)(hle:S8 M M'):Rel G X w0 I ρ M' w/\Moves ρ M w ρ M' w:=by
 have hD:bV X ρ M'=bV X ρ M:=by
  funext b
  unfold bV
  refine propext (or_congr XO (exists_congr fun nm=>exists_congr fun l=>?_))
  rw[me hle]
 refine⟨⟨h.size,h.os,h.tape,h.output,h.old,fun nm k hk=>?_,fun a b l l' h1 h2=>h.inj a b l l' (by rw[<- me hle];exact h1) (by rw[<- me hle];exact h2),h.hX,fun g=>by rw[hD];exact h.glob g⟩,fun _ _ h=>h,IS _,rfl,rfl,rfl,fun _ _ _=>rfl,fun nm l h1 h2 _=>⟨nm,l,by rw[<- me hle];exact h1,h2,rfl⟩⟩
 have hx:=hle nm
 rw[hk]at hx
 cases hm:M nm with
 | none=>simp_all
 | some k0 =>
  rw[hm]at hx
  simp only at hx
  rcases h.live nm k0 hm with ⟨h1,h2⟩|⟨l,h1,h2,h3,h4⟩
  ·left
   refine⟨?_,h2⟩
   have:=hx.2.2
   rw[h1]at this
   cases hr:k.rows with
   | nil=>rfl
   | cons a b=>rw[hr]at this;exact this.elim
  ·right
   refine⟨l,h1,h2,h3,?_⟩
   rw[hD]
   exact h4.le hx
def Ev.eff_le {cx:Cx}{f:FuncId}{nm:Nat}{args:List V}{M:ah}{v:V}{eff eff':List (Nat×Option Blk)}(h:Ev cx f nm args M v eff)(hle:S8 (M.app eff) (M.app eff')):Ev cx f nm args M v eff':=by
 refine⟨h.1,fun X w ρ cargs B hr hf hB hn hargs=>(h.2 X w ρ cargs B hr hf hB hn hargs).mono ?_⟩
 rintro e w' ⟨cv,rfl,ρ',r,m,hv,hnn⟩
 obtain⟨r1,m1⟩:=r.weaken hle
 exact⟨cv,rfl,ρ',r1,m.trans m1,m1.is hv,hnn⟩
def Dc (M:ah):S8 M M:=fun x=>by
 cases M x with
 | none=>trivial
 | some k=>simp_all[vV]
def QE {M M':ah}(h:S8 M M')(x:Nat){k k':Blk}(hk:rz k k'):S8 (M.put x (some k)) (M'.put x (some k')):=fun y=>by
 by_cases e:y=x
 ·simp_all[ah.put_same]
 ·rw[ah.put_ne _ _ e,ah.put_ne _ _ e];exact h y
def Ev.last_le {cx:Cx}{f:FuncId}{nm:Nat}{args:List V}{M:ah}{v:V}{eff:List (Nat×Option Blk)}{x:Nat}{k k':Blk}(h:Ev cx f nm args M v (eff++[(x,some k)]))(hk:rz k k'):Ev cx f nm args M v (eff++[(x,some k')]):=by
 refine h.eff_le ?_
 have e:∀(eff:List (Nat×Option Blk)) (M:ah) (k:Blk),M.app (eff++[(x,some k)])=(M.app eff).put x (some k):=by
  intro eff
  induction eff with
  | nil=>intro M k;rfl
  | cons p r ih=>intro M k;obtain⟨a,b⟩:=p;exact ih _ _
 rw[e,e]
 exact QE (Dc _) x hk
section
variable {cx:Cx} {Q:Post} {st:List Frm} {nm:Nat} {e:Env} {M:ah} {d:Bool} {fs:Y9} {ops r:ZD} {dst:Option Tmp} {t:TypeId} {pos:String} {af:Array Edge} {gd:Option (Nat×Bool)} {i:Nat}
def qE {P:Program}{w:World}{ty xT:TypeId}{v:Value}{d:TypeDesc}(hu:P.underlying ty=some d)(hd:∀ ms,d ≠ .interface ms):(Instr.typeAssert (.iface ty v) xT ty false).run P w = .ok v w:=by
 cases d<;>first|exact absurd rfl (hd _)|simp[Instr.typeAssert,Sem.run_bind,run_underlying hu]
def GD (P:Program)(t:TypeId):Bool:=match P.underlying t with
 | some (.interface _)=>false
 | some _=>true
 | none=>false
def kI {ty xT:TypeId}{x:Operand}{u:V}(hx:ap cx.G true e x = .iface ty u)(ht:GD cx.P ty=true)
  (h:bb cx Q st nm (e.putD dst u) M d (fs++[[]]) ops r (i+1)):eH cx Q st nm e M d fs ops ⟨dst,.typeAssert x xT ty false,t,pos,af,gd⟩ r i:=by
 refine⟨_,[],_,⟨fun x hx=>by simp[al]at hx,fun x hx=>by simp[al]at hx,fun h=>absurd rfl h,fun h=>absurd rfl h,?_⟩,h⟩
 intro N X w0 I ρ e' M' a w hr he hin hev hMM hf
 have hxi:=he.eval hr (c:=true) rfl (hin x (by simp[Op.operands]))
 rw[hev x (by simp[Op.operands]),hx]at hxi
 unfold GD at ht
 generalize hcv:a.eval x=cv at hxi
 cases hxi with
 | iface hu =>
  refine⟨_,w,(db.still (nm:=nm+16*i) hr hu).n,iX (s:=Instr.typeAssert (a.eval x) xT ty false) rfl ?_⟩
  rw[hcv]
  split at ht
  ·cases ht
  ·rename_i d h1 h2;exact qE h2 (fun ms hm=>h1 ms hm)
  ·cases ht
end
def Ev.clone {cx : Cx} {f : FuncId} {fn : Func} (hf : cx.P.funcs[f]? = some fn) (hname : (fn.name == "runtime.NumGoroutine") = false) (hb : fn.body.isNone = true) (hn : Extern.findNext fn = none)
    (he:Extern.find fn=some Extern.MapsClone.clone) (t:TypeId) (y:Nat) (kvs:List (V×V)) (M:ah) (nm:Nat) (hM:M y=some (fE kvs)) (ho:∀ z,(M z).isSome=true->z∈[y]) (hlt:y<nm) :
    Ev cx f nm [.iface t (.mp y)] M (.iface t (.mp nm)) [(nm,some (fE kvs))]:=by
  have hMn:M nm=none:=by
    cases h:M nm with
    | none=>rfl
    | some k=>have:=ho nm (by rw[h];rfl);simp at this;omega
  refine⟨trivial,fun X w ρ cargs B hr hfr hB hlen hargs=>?_⟩
  match cargs,hlen,hargs with
  |⟨[v0]⟩,_,hargs =>
  have h0:=hargs 0 _ v0 rfl rfl
  cases h0 with
  | iface h =>
    obtain⟨l,hl,rfl⟩:=M7 h
    · obtain⟨hh,_,_,_⟩:=sQ hr hM hl
      refine .inr ⟨.iface t (.map (some w.heap.size)),w.alloc (.map (jC kvs) kvs.length),?_,_,rfl,?_⟩
      · rw [run_callFunc_extern hf hname hb hn he]
        have e:Extern.MapsClone.clone #[.iface t (.map (some l.b))]=(getObj l.b >>= fun o=>match o with
            | .map entries clock=>(newObj (.map entries clock) >>= fun n=>pure (.iface t (.map (some n))))
            | _ => stuck "maps.clone: a map expected") := rfl
        have hg:(getObj l.b).run cx.P w = .ok (.map (jC kvs) kvs.length) w:=by simp[getObj,Sem.run,hh,Result.andThen]
        rw[e]
        simp[Sem.run_bind,hg]
      · exact(Rel.newObj (v:=.iface t (.mp nm)) hr hMn (hfr nm ⟨IS _,by omega⟩) (.map (jC kvs) kvs.length) (cv:=.iface t (.map (some w.heap.size))) (fun ρ D w' hl=>.iface (.mp hl))).n
def aN:Nat:=140737488355328
def BQ {α:Type}{p:α->Bool}{l:List α}{k:Nat}{x:α}(h:l[k]? = some x):(l.take (k+1)).all p=((l.take k).all p&&p x):=by
 rw[List.take_add_one,h];simp
def ac {M:ah}{l:ZB} : ∀ z,((M.only l) z).isSome=true->z∈l:=fun z h=>(dC.1 h).2
def ga {M:ah}{b0 x:Nat}(h:∀ z,b0<=z->M z=none)(hx:(M x).isSome=true):x<b0:=by
 rcases YE x b0 with h1|h1
 ·exact h1
 ·rw[h x h1]at hx;cases hx
def fR {q b:Nat}(h:q<b):(q=b)=False/\(∀ c,(q=b+c)=False)/\(b=q)=False/\(∀ c,(b+c=q)=False):=⟨aE h,ak h,ay h,ae h⟩
def aq {M:ah}{b0 q:Nat}{k:Blk}(h:∀ x,b0<=x->M x=none)(hq:M q=some k):q<b0:=ga h (by rw [hq];rfl)
section
variable {cx:Cx}
def Ev.args_le {f:FuncId}{nm:Nat}{xs ys:List V}{M:ah}{v:V}{eff:List (Nat×Option Blk)}(h:Ev cx f nm ys M v eff)(hle:leL xs ys):Ev cx f nm xs M v eff:=by
 obtain⟨h1,h2⟩:=ke hle
 refine⟨h.1,fun X w ρ cargs B hr hfr hB hn hargs=>h.2 X w ρ cargs B hr hfr hB Y6 (fun i u cv hi hc=>?_)⟩
 obtain⟨u',h3,h4⟩:=h2 i u hi
 exact(hargs i u' cv h3 hc).le u h4
def Pj.res_le {f:FuncId}{nm:Nat}{xs:List V}{v u:V}(h:Ev cx f nm xs ah.nil v [])(hv:v.flat=true)(hle:v.le u):Pj cx f nm xs u :=
 ⟨v,[],h,qm _ v hv,fun p hp=>by simp at hp,fun x hx=>by simp[al]at hx,(jG _ v hv).1,by rw[(jG _ v hv).2];exact hle⟩
end
end Go.Proofs.YtgboofebldgdjaaGreatDoor.Vm
