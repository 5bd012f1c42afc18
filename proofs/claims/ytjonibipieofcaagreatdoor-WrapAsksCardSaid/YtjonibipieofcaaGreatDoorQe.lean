/-
 Texts joined: XVF,XVJ,XVL,XVM,XVN,XVO,XVP,XVQ,XVR,XVS,XVT,XVW,XVX,XVY,XVZ,XVH.
-/
import Derived.Lib.Overlaps
import Derived.Conc.LoneSelect
import Derived.Lib.ConvBytes
import Derived.Laws.BytesString
import Derived.Laws.MakeOwn
import Derived.Laws.RangeAny
import Derived.Lib.Bytealg
import Derived.Lib.Builder
import Derived.Lib.UnsafeStr
import Derived.Laws.Externs
import Derived.Laws.Entries
import Derived.Laws.NewFold
import Derived.Lib.MakeNoZero
import Derived.Recover
import Derived.Test.YtjonibipieofcaaGreatDoorQd
set_option linter.all false
namespace Go.Proofs.YtjonibipieofcaaGreatDoor.Vm
open Go Go.RowKit
def Hu (σ:List (Nat×Nat))(sz:Nat)(rows:List (List V)):Blk.ren σ ⟨sz,rows⟩=⟨sz,hU σ rows⟩:=rfl
def y5 (σ:List (Nat×Nat))(sz:Nat)(rows:List (List V)):Blk.renOk σ ⟨sz,rows⟩=fp σ rows:=by
 show(fp σ rows&&true)=_
 rw[Bool.and_true]
def tgt (nm:Nat)(p:Nat×Option Nat):Nat:=match p.2 with|none=>p.1|some j=>nm+j
def bt (nm:Nat)(g:List (Nat×Option Nat)):List (Nat×Nat):=g.map (fun p=>(p.1,tgt nm p))
def pC (nm b0:Nat)(M0 M:ao)(σ:List (Nat×Nat)):List (Nat×Option Nat)->Prop
 | []=>True
 |(x,o)::r=>(match o with|none=>(M0 x).isSome=true|some j=>j<16/\(b0<=x\/(M0 x).isSome=true))/\(match M x with|some k=>k.renOk σ=true|none=>False)/\(∀ p∈r,p.1≠x/\tgt nm p≠tgt nm (x,o))/\pC nm b0 M0 M σ r
def so {nm b0:Nat}{M0 M:ao}{σ:List (Nat×Nat)} : ∀ {g:List (Nat×Option Nat)},pC nm b0 M0 M σ g->((bt nm g).map (·.1)).Nodup/\((bt nm g).map (·.2)).Nodup /\ ∀ p∈bt nm g,((p.1=p.2/\(M0 p.2).isSome=true)\/(cm nm p.2/\(b0<=p.1\/(M0 p.1).isSome=true))) /\ ∃ k,M p.1=some k/\k.renOk σ=true
  | [],_=>⟨List.nodup_nil,List.nodup_nil,fun p hp=>by cases hp⟩
  |(x,o)::r,h=>by
    obtain⟨h1,h2,h3,h4⟩:=h
    obtain⟨a,b,c⟩:=so h4
    refine⟨List.nodup_cons.2 ⟨fun hm=>?_,a⟩,List.nodup_cons.2 ⟨fun hm=>?_,b⟩,fun p hp=>?_⟩
    · simp only[bt,List.map_map,List.mem_map,Function.comp_apply]at hm
      obtain⟨p,hp,e⟩:=hm
      exact(h3 p hp).1 e
    · simp only[bt,List.map_map,List.mem_map,Function.comp_apply]at hm
      obtain⟨p,hp,e⟩:=hm
      exact(h3 p hp).2 e
    · rcases List.mem_cons.1 hp with rfl|hp
      · refine⟨?_,?_⟩
        · cases o with
          | none=>exact .inl ⟨rfl,h1⟩
          | some j=>exact .inr ⟨⟨Nat.le_add_right _ _,by simp only[tgt];have:=h1.1;omega⟩,h1.2⟩
        · split at h2
          · rename_i k hk;exact⟨k,hk,h2⟩
          · exact h2.elim
      · exact c p hp
def Gi (nm:Nat)(M:ao)(σ:List (Nat×Nat))(g:List (Nat×Option Nat)):List (Nat×Option Blk):=g.map (fun p=>(tgt nm p,(M p.1).map (Blk.ren σ)))
def FG (δ:List Nat):List (Nat×Option Blk):=δ.map (fun x=>(x,none))
def Fin.give {cx:Cx}{N:Nat}{rs:List ResultVar}{nm:Nat}{M0:ao}{v:V}{eff:List (Nat×Option Blk)}{b0 n:Nat}{e:Env}{M:ao}(g:List (Nat×Option Nat))(δ:List Nat)(h1:kX cx.P N rs e M)(h2:(li cx.P rs e M).finOk (bt nm g) M)(h3:((li cx.P rs e M).fin (bt nm g) M).le v)
  (h4:FG δ++Gi nm M (bt nm g) g=eff) (h5:pC nm b0 M0 M (bt nm g) g) (h6:∀ x,(M0 x).isSome=true->x∈(bt nm g).map (·.2)\/x∈δ):tK cx N rs nm M0 v eff b0 n e M:=by
 obtain⟨a,b,c⟩:=so h5
 exact⟨[],h1,bt nm g,δ,h2,h3,by rw[<- h4];simp[FG,Gi,bt,ao.ghosts],a,b,c,h6⟩
def bA {M:ao}{nm:Nat}{g:List (Nat×Option Nat)}{dl L:List Nat}(ho:∀ z,(M z).isSome=true->z∈L)(h:∀ z∈L,z∈(bt nm g).map (fun x=>x.2)\/z∈dl):∀ z,(M z).isSome=true->z∈(bt nm g).map (fun x=>x.2)\/z∈dl:=fun z hz=>h z (ho z hz)
open Go Go.RowKit Go.Conc
def BN (cap:Nat)(closed:Bool)(ms:List V):Blk:=@Blk.mk 0 [] (.chan cap closed ms)
section
variable {cx:Cx} {P:Program} {G:Nat->V} {X:Nat->Prop} {w0:World} {I:Nat->Prop} {ρ:Names} {M:ao} {w w':World} {D:Nat->Prop}
def Rel.grow (h:Rel G X w0 I ρ M w)(hs:w.heap.size<=w'.heap.size)(hos:w'.os=w.os)(htp:w'.tape=w.tape)(hout:w'.output=w.output)(hk:∀ b,b<w.heap.size->w'.heap[b]? = w.heap[b]?):Rel G X w0 I ρ M w'/\Moves ρ M w ρ M w':=by
 have m:Moves ρ M w ρ M w':=⟨fun _ _ h=>h,hs,hos,htp,hout,fun b hb _=>hk b hb,fun nm l h1 h2 _=>⟨nm,l,h1,h2,rfl⟩⟩
 exact⟨h.move m h.inj (fun nm k hM=>.inl ⟨hM,id,fun l hl=>hk l.b (h.block_lt (by rw[hM];rfl) hl).1⟩),m⟩
def Rel.chan (h:Rel G X w0 I ρ M w){y:Nat}{k:Blk}{l:Loc}(hM:M y=some k)(hl:ρ y=some l)(hz:l.sz=0)(ht:l.tot=0){cap s r:Nat}{closed:Bool}{buf:Array Value}{ms:List V}(hlt:l.b<w.heap.size)
  (hn:buf.size=ms.length) (hm:∀(i:Nat) (u:V),ms[i]? = some u -> ∃ cv,buf[i]? = some cv/\Is ρ (bP X ρ M) w u cv) :
  Rel G X w0 I ρ (M.put y (some (BN cap closed ms))) (w.setChan l.b cap buf closed s r false)/\Moves ρ M w ρ (M.put y (some (BN cap closed ms))) (w.setChan l.b cap buf closed s r false):=by
 have hk:∀ b,b≠l.b->(w.setChan l.b cap buf closed s r false).heap[b]? = w.heap[b]?:=fun b hb=>by
  simp only[World.setChan];rw[Array.getElem?_setIfInBounds_ne (Ne.symm hb)]
 have hs:∀ x,((M.put y (some (BN cap closed ms))) x).isSome=true->(M x).isSome=true:=fun x hx=>by
  by_cases e:x=y
  ·subst e;rw[hM];rfl
  ·rwa[ao.put_ne _ _ e]at hx
 have m:Moves ρ M w ρ (M.put y (some (BN cap closed ms))) (w.setChan l.b cap buf closed s r false) :=
  ⟨fun _ _ h=>h,by simp[World.setChan],rfl,rfl,rfl,fun b _ hn=>hk b (fun e=>hn y l (by rw[hM];rfl) hl e.symm),fun n l' a1 a2 _=>⟨n,l',hs n a1,a2,rfl⟩⟩
 refine⟨h.move m (fun a b l1 l2 a1 a2 a3 a4 a5=>h.inj a b l1 l2 (hs a a1) (hs b a2) a3 a4 a5) ?_,m⟩
 intro x kx hx
 by_cases e:x=y
 ·subst e
  rw[ao.put_same]at hx
  cases hx
  obtain⟨b1,b2,b3⟩:=h.block_lt (by rw[hM];rfl) hl
  refine .inr (.inr ⟨l,hl,b3,b2,.inr ⟨_,(),ms,buf,(),(),⟨rfl,s,r,rfl⟩,heap_setChan w l.b cap buf closed s r false hlt,hz.symm,rfl,ht,hn,fun i u hi=>?_⟩⟩)
  obtain⟨cv,c1,c2⟩:=hm i u hi
  exact⟨cv,c1,m.is c2⟩
 ·rw[ao.put_ne _ _ e]at hx
  exact .inl ⟨hx,id,fun lx hlx=>hk _ (fun e2=>e (h.inj x y lx l (by rw[hx];rfl) (by rw[hM];rfl) hlx hl e2))⟩
end
def jd {P:Program}{o:Oper}{a:Act}{w:World}{s:Sem Value}{cv:Value}{w':World}(h1:execOp a.eval o=(do pure (.value (<- s))))(h2:s.run P w = .ok cv w'):∀(K:Act->World->Prop) (Q:Exit->Act->World->Prop),K (a.put o.dst cv) w'->o.wp P a w K Q:=by
 intro K Q h3
 unfold Oper.wp
 rw[h1,Sem.run_bind,h2]
 exact h3
def kO {P:Program}{b:Builtin}{as:Array Operand}{ts:Array TypeId}{dst:Option Tmp}{t:TypeId}{pos:String}{af:Array Edge}{gd:Option (Nat×Bool)}{a:Act}{w:World}{s:Sem Value}{cv:Value}{w':World}
  (h1:∀ consts,builtin b ts t consts (as.map a.eval)=(do pure (.value (<- s)))) (h2:s.run P w = .ok cv w'):∀(K:Act->World->Prop) (Q:Exit->Act->World->Prop),K (a.put dst cv) w'->(⟨dst,.call ⟨.builtin b,as,ts⟩,t,pos,af,gd⟩:Oper).wp P a w K Q:=by
 intro K Q h3
 unfold Oper.wp execOp
 simp only[resolve,Sem.run_bind,Sem.run_pure,Result.andThen_ok,invoke,h1,h2]
 exact h3
section
variable {cx:Cx} {Q:Post} {st:List Frm} {nm:Nat} {e:Env} {M:ao} {d:Bool} {fs:List (List Nat)} {ops r:List Oper} {dst:Option Tmp} {t:TypeId} {pos:String} {af:Array Edge} {gd:Option (Nat×Bool)} {i:Nat}
def DF {ρ:Names}{D:Nat->Prop}{w:World}{u v z:V}{c1 c2 c3:Value}(h1:Is ρ D w u c1)(h2:Is ρ D w v c2)(h3:Is ρ D w z c3):Is ρ D w (.tup [u,v,z]) (.tuple #[c1,c2,c3]) :=
 .tup rfl (fun i q cv hi hc=>by
  rcases i with _|_|_|i
  ·simp at hi hc;subst hi;subst hc;exact h1
  ·simp at hi hc;subst hi;subst hc;exact h2
  ·simp at hi hc;subst hi;subst hc;exact h3
  ·simp at hi)
end
def lu (P:Program)(t:TypeId):Bool:=match P.underlying t with
 | some (.slice e)=>(match P.underlying e with|some (.int .u8)=>true|_=>false)
 | _=>false
def qh {P:Program}{t:TypeId}(h:lu P t=true):∃ e,P.underlying t=some (.slice e)/\P.underlying e=some (.int .u8):=by
 unfold lu at h
 split at h
 ·rename_i e he
  split at h
  ·rename_i he2;exact⟨e,he,he2⟩
  ·cases h
 ·cases h
def V.isStr:V->Bool
 | .str _=>true
 | _=>false
def sn:∀(l:List UInt8) (s:ByteArray),(l.map fun b=>(b.toNat:Int)).foldl (fun r n=>r.push (UInt8.ofNat n.toNat)) s=⟨s.data++l.toArray⟩
 | [],s=>by simp
 | b::l,s=>by
  simp only[List.map_cons,List.foldl_cons]
  rw[sn l]
  apply ByteArray.ext
  simp[ByteArray.push]
section
variable {cx:Cx} {X:Nat->Prop} {w0:World} {I:Nat->Prop} {ρ:Names} {M:ao} {w:World}
def vM {P:Program}{G:Nat->V}(h:Rel G X w0 I ρ M w){x:V}{cv:Value}{bs:List UInt8}(hx:Is ρ (bP X ρ M) w x cv)(hok:dW M 1 x)(hns:x.isStr=false)(hr:aK M x=bs.map aL){s d:TypeId}(hs:lu P s=true)(hd:P.underlying d=some .string) :
  (convert s d cv).run P w = .ok (.string ⟨bs.toArray⟩) w:=by
 obtain⟨e,hs,he⟩:=qh hs
 obtain⟨h1,arr,h2,h3,h4⟩:=j6 (P:=P) h (by decide:0<1) hx hok
 have form:∃ A n c,cv = .slice A n c:=by
  cases x<;>first|exact hok.elim|(simp[V.isStr]at hns;done)|skip
  all_goals cases hx<;>exact⟨_,_,_,rfl⟩
 obtain⟨A,n,c,rfl⟩:=form
 have hn:n=bs.length:=by
  have:(Builtin.lenOf (.slice A n c)).run P w = .ok n w:=rfl
  rw[this]at h1
  have h1':n=(aK M x).length:=by injection h1
  rw[h1',hr,List.length_map]
 subst hn
 rw[run_convert_bytes_string w s d e A _ c hs he hd]
 cases A with
 | none =>
  have hz:bs=[]:=by
   cases bs with
   | nil=>rfl
   | cons b bs =>
    exfalso
    have:(Builtin.firstCells 1 (aK M x).length (.slice none (b::bs).length c)).run P w = .ok #[] w:=rfl
    rw[this]at h2
    have h2':(#[]:Array Value)=arr:=by injection h2
    rw[<- h2',hr]at h3
    simp at h3
  subst hz
  rfl
 | some a =>
  have hl:(loadCells a (bs.length*1)).run P w = .ok arr w:=by
   have:=h2
   rw[hr,List.length_map]at this
   exact this
  rw[Nat.mul_one]at hl
  have harr:arr=((bs.map fun b=>(b.toNat:Int)).map (Value.int .u8)).toArray:=by
   rw[hr,List.length_map,Nat.mul_one]at h3
   apply Array.ext
   ·simp[h3]
   ·intro i hi1 hi2
    have hib:i<bs.length:=by omega
    obtain⟨cc,c1,c2⟩:=h4.2.2 i 0 (aL bs[i]) (.int .u8 bs[i].toNat) (by rw[hr,List.getElem?_map,List.getElem?_eq_getElem hib];rfl) rfl
    cases c2
    simp only[Nat.mul_one,Nat.add_zero]at c1
    rw[Array.getElem?_eq_getElem hi1]at c1
    simp only[Option.some.injEq]at c1
    rw[c1]
    simp
  have:=run_bytesToString (P:=P) w a bs.length c (bs.map fun b=>(b.toNat:Int)) (by rw[<- harr];exact hl)
  rw[this,sn]
  have h0:ByteArray.empty.data = #[]:=rfl
  simp[h0]
variable {Q:Post} {st:List Frm} {nm:Nat} {e:Env} {d:Bool} {fs:List (List Nat)} {ops r:List Oper} {dst:Option Tmp} {t:TypeId} {pos:String} {af:Array Edge} {gd:Option (Nat×Bool)} {i:Nat}
def zZ {s dt:TypeId}{x:Operand}{v:V}{bs:List UInt8}{n:Nat}(hs:lu cx.P s=true)(hd:cx.P.underlying dt=some .string)(hx:ax cx.G true e x=v)(hns:v.isStr=false)(hok:dW M 1 v)(hr:aK M v=bs.map aL) :
  ExtDoes cx ⟨dst,.convert s dt x,t,pos,af,gd⟩ n e M (.str bs) [] (bq v):=by
 refine⟨fun x hx=>by simp[ak]at hx,fun x hx=>by simp[ak]at hx,fun h=>absurd rfl h,fun _=>rfl,?_⟩
 intro N X w0 I ρ e' M' a w hr' he hin hev hM _
 have hxi:=he.eval hr' (c:=true) rfl (hin x (by simp[Op.operands]))
 rw[hev x (by simp[Op.operands]),hx]at hxi
 have hrun:=vM (P:=cx.P) hr' hxi (by rw[ia hM];exact hok) hns (bs:=bs) (by rw[cP hM];exact hr) hs hd
 exact⟨_,w,(cV.still (nm:=n) hr' (.str bs)).n,jd rfl hrun⟩
def gw {s dt:TypeId}{x:Operand}{v:V}{bs:List UInt8}(hs:lu cx.P s=true)(hd:cx.P.underlying dt=some .string)(hx:ax cx.G true e x=v)(hns:v.isStr=false)(hok:dW M 1 v)(hr:aK M v=bs.map aL)
  (h:aG cx Q st nm (e.putD dst (.str bs)) M d (fs++[bq v]) ops r (i+1)):cM cx Q st nm e M d fs ops ⟨dst,.convert s dt x,t,pos,af,gd⟩ r i :=
 ⟨_,[],_,zZ hs hd hx hns hok hr,h⟩
def vQ {s dt:TypeId}{x:Operand}{bs:List UInt8}{n:Nat}(hs:cx.P.underlying s=some .string)(hd:lu cx.P dt=true)(hx:ax cx.G true e x = .str bs) :
    ExtDoes cx ⟨dst,.convert s dt x,t,pos,af,gd⟩ n e M (.sl false 1 (bs.map aL)) [] []:=by
  refine⟨fun x hx=>by simp[ak]at hx,fun x hx=>by simp[ak]at hx,fun h=>absurd rfl h,fun h=>absurd rfl h,?_⟩
  intro N X w0 I ρ e' M' a w hr' he hin hev hM _
  have hxi:=he.eval hr' (c:=true) rfl (hin x (by simp[Op.operands]))
  rw[hev x (by simp[Op.operands]),hx]at hxi
  obtain⟨el,hd,hel⟩:=qh hd
  have hrun:=Lib.run_convert_string_bytes (P:=cx.P) w s dt el ⟨bs.toArray⟩ hs hd hel
  have hsz:(⟨bs.toArray⟩:ByteArray).size=bs.length:=by simp[ByteArray.size]
  rw[hsz]at hrun
  obtain⟨g1,g2⟩:=hr'.grow (w':=Lib.bytesWorld w el ⟨bs.toArray⟩) (by rw[Lib.bytesWorld_size];omega) rfl rfl rfl (fun b hb=>Lib.bytesWorld_at_old w el _ b hb)
  have hv:Is ρ (bP X ρ M') (Lib.bytesWorld w el ⟨bs.toArray⟩) (.sl false 1 (bs.map aL)) (.slice (some ⟨w.heap.size,0,none⟩) bs.length (grownCap w bs.length 0 el)):=by
    have:=Is.sl (ρ:=ρ) (D:=bP X ρ M') (w:=Lib.bytesWorld w el ⟨bs.toArray⟩) (t:=false) (sz:=1) (rows:=bs.map aL) (b:=w.heap.size) (o:=0) (c:=grownCap w bs.length 0 el)
      (fun i _=>.int .u8 (bs.getD i 0).toNat) (by rw[List.length_map];exact grownCap_ge _ _ _ _) (fun h=>by cases h) (by
        rintro (hX|⟨nm,l,k1,k2,k3⟩)
        · have:=(hr'.hX _ hX).1;have:=hr'.size;omega
        · have:=(hr'.block_lt k1 k2).1;omega) (by rw[Lib.bytesWorld_size];omega) (fun i row hi=>by
        rw[List.getElem?_map]at hi
        obtain⟨b,_,rfl⟩:=Option.map_eq_some_iff.1 hi
        rfl) (fun i j row u hi hj=>by
        rw[List.getElem?_map]at hi
        obtain⟨b,hb,rfl⟩:=Option.map_eq_some_iff.1 hi
        have hj0:j=0:=by
          have:=(List.getElem?_eq_some_iff.1 hj).1
          simp[aL]at this;exact this
        subst hj0
        have hlt:=(List.getElem?_eq_some_iff.1 hb).1
        have:=Lib.bytesWorld_cell w el ⟨bs.toArray⟩ i (by rw[hsz];exact hlt)
        simpa using this) (fun i j row u hi hj=>by
        rw[List.getElem?_map]at hi
        obtain⟨b,hb,rfl⟩:=Option.map_eq_some_iff.1 hi
        have hj0:j=0:=by
          have:=(List.getElem?_eq_some_iff.1 hj).1
          simp[aL]at this;exact this
        subst hj0
        simp only[aL,List.getElem?_cons_zero,Option.some.injEq]at hj
        subst hj
        have:bs.getD i 0=b:=by rw[List.getD_eq_getElem?_getD,hb];rfl
        rw[this]
        exact .int _ _)
    rwa[List.length_map]at this
  refine⟨_,_,⟨ρ,g1,g2,hv,fun _ _=>rfl⟩,jd (s:=convert s dt (a.eval x)) rfl ?_⟩
  generalize hcv:a.eval x=cv at hxi
  cases hxi
  exact hrun
def xY {s dt:TypeId}{x:Operand}{bs:List UInt8}(hs:cx.P.underlying s=some .string)(hd:lu cx.P dt=true)(hx:ax cx.G true e x = .str bs)
  (h:aG cx Q st nm (e.putD dst (.sl false 1 (bs.map aL))) M d (fs++[[]]) ops r (i+1)):cM cx Q st nm e M d fs ops ⟨dst,.convert s dt x,t,pos,af,gd⟩ r i :=
 ⟨_,[],_,vQ hs hd hx,h⟩
def tY (gs hs:List Nat):∀(M:ao) (n:Nat),(M.ghosts n gs).ghosts (n+gs.length) hs=M.ghosts n (gs++hs):=by
 induction gs with
 | nil=>intro M n;rfl
 | cons g gs ih =>
  intro M n
  simp only[ao.ghosts,List.cons_append,List.length_cons]
  rw[<- ih]
  congr 1
  omega
def Fin.more {N:Nat}{rs:List ResultVar}{M0:ao}{v:V}{eff:List (Nat×Option Blk)}{b0 n:Nat}(gs:List Nat)(h:tK cx N rs nm M0 v eff b0 (n+gs.length) e (M.ghosts n gs)):tK cx N rs nm M0 v eff b0 n e M:=by
 obtain⟨hs,h⟩:=h
 rw[tY]at h
 exact⟨_,h⟩
def bo {o:Oper}(h:cM cx Q st nm e M d fs ops o r i):pD cx Q st nm e M d fs true ops o r i:=.inr ⟨fun _=>h,fun h=>by cases h⟩
def bc {o:Oper}(h:aG cx Q st nm (e.putD o.dst .any) M d (fs++[[]]) ops r (i+1)):pD cx Q st nm e M d fs false ops o r i:=.inr ⟨fun h=>(by cases h),fun _=>h⟩
def uY (P:Program)(ty:TypeId)(n:Nat):Blk:=match cp P ty with
 | some (zc,_)=>⟨zc.length,List.replicate n zc⟩
 | none=>⟨0,[]⟩
def sK (P:Program)(ty:TypeId)(n:Nat):Prop:=match cp P ty with
 | some (zc,b)=>n*zc.length<=16777216/\b*n<=281474976710656
 | none=>False
def C5 {ty:TypeId}{x y:Operand}{kx ky:IntKind}{n c:Nat}(hx:ax cx.G true e x = .int kx n)(hy:ax cx.G true e y = .int ky c)(hn:n<=c)(hok:sK cx.P ty c)
  (h:aG cx Q st nm (e.putD dst (.own (nm+16*i) 0 n)) (M.app [(nm+16*i,some (uY cx.P ty c))]) d (fs++[[nm+16*i]]) ops r (i+1)):cM cx Q st nm e M d fs ops ⟨dst,.makeSlice ty x y,t,pos,af,gd⟩ r i:=by
 refine⟨_,_,_,⟨fun x hx=>hx,fun x hx=>?_,fun _=>rfl,fun _=>rfl,?_⟩,h⟩
 ·simp only[ak,List.map_cons,List.map_nil,List.mem_singleton]at hx
  subst hx;exact .inr ⟨Nat.le_refl _,by omega⟩
 ·intro N X w0 I ρ e' M' a w hr he hin hev _ hf
  obtain⟨f1,f2⟩:=hf (nm+16*i) ⟨Nat.le_refl _,by omega⟩
  have hxi:=he.eval hr (c:=true) rfl (hin x (by simp[Op.operands]))
  rw[hev x (by simp[Op.operands]),hx]at hxi
  have hyi:=he.eval hr (c:=true) rfl (hin y (by simp[Op.operands]))
  rw[hev y (by simp[Op.operands]),hy]at hyi
  unfold sK at hok
  cases hel:cp cx.P ty with
  | none=>rw[hel]at hok;exact hok.elim
  | some q =>
   obtain⟨zc,b⟩:=q
   rw[hel]at hok
   obtain⟨el,inf,z,hu,hi,hz,hzs,hpos,hzc,hzl,hb⟩:=eH hel
   obtain⟨ho1,ho2⟩:=hok
   have hc63:c<=16777216:=by
    have:c*1<=c*zc.length:=Nat.mul_le_mul_left _ (by omega)
    omega
   have hrun:=run_makeSlice (P:=cx.P) w ty el inf z hu hi hz kx ky n c (by omega) (by omega) (by simp only[Int.toNat_natCast];rw[<- hzl];exact ho1) (by rw[hb,<- Int.natCast_mul];exact Int.ofNat_le.2 ho2) (by omega)
   simp only[Int.toNat_natCast]at hrun
   have hrows:cI ρ (bP X ρ M') w inf.size (List.replicate c zc) (madeCells z.cells (c*inf.size)):=tH hzs hpos hzc c _ (size_madeCells _ _) (fun k hk=>by simp[madeCells,hzs,hk])
   obtain⟨g1,g2⟩:=hr.alloc f1 f2 (madeCells z.cells (c*inf.size)) el ⟨inf.size,List.replicate c zc⟩ c (by simp) (by simp[size_madeCells]) hrows.2.1 hrows.2.2
   have hK:uY cx.P ty c=⟨inf.size,List.replicate c zc⟩:=by simp only[uY,hel,hzl]
   rw[hK]
   refine⟨_,_,(show cV _ _ _ _ _ _ _ _ _ _ _ _ from ⟨_,g1,g2,.own (c:=c) (Names.put_same _ _ _) (by simp) hn,fun x hx=>Names.put_ne _ _ hx⟩).n,jd (s:=Instr.makeSlice ty (a.eval x) (a.eval y)) rfl ?_⟩
   generalize hcv:a.eval x=cv at hxi
   generalize hcw:a.eval y=cw at hyi
   cases hxi
   cases hyi
   simpa using hrun
def xW {ty:TypeId}{x y:Operand}{kx ky:IntKind}{n c:Int}(hx:ax cx.G true e x = .int kx n)(hy:ax cx.G true e y = .int ky c)(h0:0<=n)(hn:n<=c)(hok:sK cx.P ty c.toNat)
  (h:aG cx Q st nm (e.putD dst (.own (nm+16*i) 0 n.toNat)) (M.app [(nm+16*i,some (uY cx.P ty c.toNat))]) d (fs++[[nm+16*i]]) ops r (i+1)):cM cx Q st nm e M d fs ops ⟨dst,.makeSlice ty x y,t,pos,af,gd⟩ r i :=
 C5 (n:=n.toNat) (c:=c.toNat) (by rw[Int.toNat_of_nonneg h0];exact hx) (by rw[Int.toNat_of_nonneg (by omega)];exact hy) (by omega) hok h
end
def jv:List (Nat×V)->Env
 | [],_=>.any
 |(t,v)::r,x=>if x=t then v else jv r x
def gl:List (Nat×Blk)->ao
 | [],_=>none
 |(y,k)::r,x=>if x=y then some k else gl r x
def bz (t:Nat)(v:V)(r:List (Nat×V))(x:Nat):jv ((t,v)::r) x=if x=t then v else jv r x:=rfl
def bT (x:Nat):jv [] x = .any:=rfl
def aH (y:Nat)(k:Blk)(r:List (Nat×Blk))(x:Nat):gl ((y,k)::r) x=if x=y then some k else gl r x:=rfl
def aO (x:Nat):gl [] x=none:=rfl
def il:List (List V)->List (List V)->Prop
 | [],[]=>True
 | x::xs,y::ys=>leL x y/\il xs ys
 | _,_=>False
def gz:∀(l:List (List V)),il l l
 | []=>trivial
 | x::l=>⟨leL_refl x,gz l⟩
def az (l:List (List V)):il l l=True:=eq_true (gz l)
def oD:∀ {a b:List (List V)},il a b->a.length=b.length /\ ∀(i:Nat) (y:List V),b[i]? = some y -> ∃ x,a[i]? = some x/\leL x y
 | [],[],_=>⟨rfl,fun i y h=>by simp at h⟩
 | x::xs,y::ys,h=>by
  obtain⟨h1,h2⟩:=oD h.2
  refine⟨by simp[h1],fun i u hu=>?_⟩
  cases i with
  | zero=>simp at hu;subst hu;exact⟨x,rfl,h.1⟩
  | succ i=>exact h2 i u (by simpa using hu)
 | [],_::_,h=>h.elim
 | _::_,[],h=>h.elim
def Ob.le (a b:Ob):Prop:=a=b\/(b = .cells/\a.isRow=true)
def Ob.le_ok {a b:Ob}{e:TypeId}{l:Loc}(h:a.okCells e l)(hl:a.le b):b.okCells e l:=by
 rcases hl with rfl|⟨rfl,_⟩
 ·exact h
 ·trivial
def Ob.le_lies {a b:Ob}{x:Obj}{ms:List V}{buf:Array Value}{off:Nat}(h:a.lies x ms buf off)(hl:a.le b):b.lies x ms buf off:=by
 rcases hl with rfl|⟨rfl,hr⟩
 ·exact h
 ·cases a<;>first|exact h.elim|cases hr
def qr (a b:Blk):Prop:=a.sz=b.sz/\a.ob.le b.ob/\il a.rows b.rows
def yE (o:Ob)(s s':Nat)(r r':List (List V)):qr (@Blk.mk s r o) (@Blk.mk s' r' o)=(s=s'/\il r r'):=propext ⟨fun h=>⟨h.1,h.2.2⟩,fun h=>⟨h.1,.inl rfl,h.2⟩⟩
def sF (k:Blk):qr k k=True:=eq_true ⟨rfl,.inl rfl,gz _⟩
def jC.le {ρ:Names}{D:Nat->Prop}{w:World}{l:Loc}{a b:Blk}(h:jC ρ D w l a)(hle:qr a b):jC ρ D w l b:=by
 obtain⟨e1,e2,e3⟩:=hle
 obtain⟨f1,f2⟩:=oD e3
 rcases h with ⟨cs,e,h1,h2,h3,h4,h5,h6,h7⟩|⟨cap,closed,msgs,buf,s,r,h1,h2,h3,h4,h5,h6,h7⟩
 ·refine .inl ⟨cs,e,Ob.le_ok h1 e2,h2,by rw[<- e1];exact h3,by rw[<- f1];exact h4,h5,fun i row hi=>?_,fun i j row u hi hj=>?_⟩
  ·obtain⟨x,g1,g2⟩:=f2 i row hi
   rw[<-(ks g2).1];exact h6 i x g1
  ·obtain⟨x,g1,g2⟩:=f2 i row hi
   obtain⟨v,g3,g4⟩:=(ks g2).2 j u hj
   obtain⟨cv,c1,c2⟩:=h7 i j x v g1 g3
   exact⟨cv,c1,c2.le u g4⟩
 ·refine .inr ⟨cap,closed,msgs,buf,s,r,Ob.le_lies h1 e2,h2,by rw[<- e1];exact h3,?_,h5,h6,h7⟩
  rw[h4]at f1
  cases hb:b.rows with
  | nil=>rfl
  | cons x y=>rw[hb]at f1;simp at f1
def b8:List (Nat×Blk)->List (Option Nat)->List (Nat×Option Nat×Blk)
 |(y,k)::r,o::s=>(y,o,k)::b8 r s
 |(y,k)::r,[]=>(y,none,k)::b8 r []
 | [],_=>[]
def dj:List (Nat×Option Nat×Blk)->List (Nat×Nat)
 | []=>[]
 |(y,some x,_)::r=>(x,y)::dj r
 |(_,none,_)::r=>dj r
def sZ (σ:List (Nat×Nat))(k0 k:Blk):Prop:=k0.renOk σ=true/\qr (k0.ren σ) k
def ib (R:Blk->Blk->Prop)(b0 nm':Nat)(M:ao):List (Nat×Option Nat×Blk)->Prop
  | []=>True
  |(y,o,k)::r=>y<nm'/\(match o with
    | some x=>(b0<=y\/x=y)/\(match M x with|some k0=>R k0 k|none=>False)
    | none=>b0<=y/\k.rows=[]/\k.ob.isRow=true)/\(∀ p∈r,p.1≠y/\(o≠none->p.2.1≠o))/\ib R b0 nm' M r
def ju (M:ao)(σ:List (Nat×Nat))(e:Env):List (Nat×V)->Prop
 | []=>True
 |(t,v)::r=>((e t).finOk σ M/\((e t).fin σ M).le v)/\ju M σ e r
def lv {R:Blk->Blk->Prop}{b0 nm':Nat}{M:ao} : ∀ {C:List (Nat×Option Nat×Blk)},ib R b0 nm' M C -> ∀ {y:Nat} {o:Option Nat} {k:Blk},(y,o,k)∈C->y<nm'/\(match o with
    | some x=>(b0<=y\/x=y)/\(match M x with|some k0=>R k0 k|none=>False)
    | none=>b0<=y/\k.rows=[]/\k.ob.isRow=true)
  |(y',o',k')::C,h,y,o,k,hm=>by
    rcases List.mem_cons.1 hm with e|hm
    · cases e;exact⟨h.1,h.2.1⟩
    · exact lv h.2.2.2 hm
def hY:∀ {C:List (Nat×Option Nat×Blk)} {x y:Nat},(x,y)∈dj C ↔ ∃ k,(y,some x,k)∈C
  | [],x,y=>by simp[dj]
  |(y',none,k')::C,x,y=>by
    simp only[dj,hY (C:=C),List.mem_cons,Prod.mk.injEq,reduceCtorEq,false_and,and_false,false_or]
  |(y',some x',k')::C,x,y=>by
    simp only[dj,List.mem_cons,hY (C:=C),Prod.mk.injEq,Option.some.injEq]
    constructor
    · rintro (⟨rfl,rfl⟩|⟨k,h⟩)
      · exact⟨k',.inl ⟨rfl,rfl,rfl⟩⟩
      · exact⟨k,.inr h⟩
    · rintro ⟨k,⟨rfl,rfl,_⟩|h⟩
      · exact .inl ⟨rfl,rfl⟩
      · exact .inr ⟨k,h⟩
def nc {R:Blk->Blk->Prop}{b0 nm':Nat}{M:ao} : ∀ {C:List (Nat×Option Nat×Blk)},ib R b0 nm' M C->((dj C).map (·.1)).Nodup/\((dj C).map (·.2)).Nodup
  | [],_=>⟨List.nodup_nil,List.nodup_nil⟩
  |(y,none,k)::C,h=>by
    obtain⟨a,b⟩:=nc (C:=C) h.2.2.2
    exact⟨a,b⟩
  |(y,some x,k)::C,h=>by
    obtain⟨a,b⟩:=nc h.2.2.2
    refine⟨List.nodup_cons.2 ⟨fun hm=>?_,a⟩,List.nodup_cons.2 ⟨fun hm=>?_,b⟩⟩
    · obtain⟨⟨x',y'⟩,hp,he⟩:=List.mem_map.1 hm
      simp only at he;subst he
      obtain⟨k',hk⟩:=hY.1 hp
      exact(h.2.2.1 _ hk).2 (by simp) rfl
    · obtain⟨⟨x',y'⟩,hp,he⟩:=List.mem_map.1 hm
      simp only at he;subst he
      obtain⟨k',hk⟩:=hY.1 hp
      exact(h.2.2.1 _ hk).1 rfl
def xA {R:Blk->Blk->Prop}{b0 nm':Nat}{M:ao} : ∀ {C:List (Nat×Option Nat×Blk)},ib R b0 nm' M C -> ∀ {y:Nat} {o o':Option Nat} {k k':Blk},(y,o,k)∈C->(y,o',k')∈C->o=o'
  | [],_,_,_,_,_,_,h1,_=>by simp at h1
  |(y',o'',k'')::C,h,y,o,o',k,k',h1,h2=>by
    have h3:=h.2.2.1
    have h4:=h.2.2.2
    clear h
    rcases List.mem_cons.1 h1 with e1|g1<;>rcases List.mem_cons.1 h2 with e2|g2
    · cases e1;cases e2;rfl
    · cases e1;exact absurd rfl (h3 _ g2).1
    · cases e2;exact absurd rfl (h3 _ g1).1
    · exact xA h4 g1 g2
def oF:∀ {Ms:List (Nat×Blk)} {src:List (Option Nat)} {y:Nat} {k:Blk},gl Ms y=some k -> ∃ o,(y,o,k)∈b8 Ms src
  |(y',k')::Ms,src,y,k,h=>by
    simp only[gl]at h
    split at h
    · rename_i he;subst he;cases h
      cases src with
      | nil=>exact⟨none,by simp[b8]⟩
      | cons o s=>exact⟨o,by simp[b8]⟩
    · cases src with
      | nil =>
        obtain⟨o,ho⟩:=oF (src:=[]) h
        exact⟨o,by simp[b8,ho]⟩
      | cons o' s =>
        obtain⟨o,ho⟩:=oF (src:=s) h
        exact⟨o,by simp[b8,ho]⟩
def DR {R:Blk->Blk->Prop}{b0 nm':Nat}{M:ao}{Ms:List (Nat×Blk)}{src:List (Option Nat)}(h:ib R b0 nm' M (b8 Ms src)){y:Nat}(hy:nm'<=y):gl Ms y=none:=by
 cases hm:gl Ms y with
 | none=>rfl
 | some k =>
  obtain⟨o,ho⟩:=oF (src:=src) hm
  have:=(lv h ho).1
  omega
def AM {σ:List (Nat×Nat)}(hn:(σ.map (·.1)).Nodup){x y:Nat}(h:(x,y)∈σ):aS σ x=some y:=by
 induction σ with
 | nil=>cases h
 | cons p r ih =>
  simp only[List.map_cons,List.nodup_cons]at hn
  obtain⟨x',y'⟩:=p
  rw[eV]
  rcases List.mem_cons.1 h with e|h
  ·cases e;rw[if_pos rfl]
  ·have hne:x'≠x:=fun e=>hn.1 (List.mem_map.2 ⟨(x,y),h,e.symm⟩)
   rw[if_neg hne]
   exact ih hn.2 h
section
variable {cx:Cx}
def E9 (R:Blk->Blk->Prop)(σ:List (Nat×Nat))(M:ao)(cx:Cx):Prop:=∀(X:Nat->Prop) (w0:World) (I:Nat->Prop) (ρ ρ':Names) (D':Nat->Prop) (w:World),Rel cx.G X w0 I ρ M w->(∀ x y,aS σ x=some y->ρ' y=ρ x)->(∀ b,D' b->bP X ρ M b)->(∀ x l,aS σ x=none->(M x).isSome=true->ρ x=some l -> ¬ D' l.b) ->
 ∀ k0 k,R k0 k->(∀ l,jC ρ (bP X ρ M) w l k0->jC ρ' D' w l k)/\(k0.rows=[]->k.rows=[])
def uT (σ:List (Nat×Nat))(M:ao):E9 (sZ σ) σ M cx:=fun X w0 I ρ ρ' D' w hr hnew hdom hout k0 k h=>by
 obtain⟨g3,g4⟩:=h
 refine⟨fun l a4=>(a4.ren hnew hdom g3).le g4,fun a1=>?_⟩
 have hz:(k0.ren σ).rows=[]:=by simp[Blk.ren,hU,a1,plainLL]
 have:=(oD g4.2.2).1
 rw[hz]at this
 cases hb:k.rows with
 | nil=>rfl
 | cons x y=>rw[hb]at this;simp at this
def j7 {R:Blk->Blk->Prop}(hG:∀ g,(cx.G g).plain=true){b0 nm nm':Nat}{e:Env}{M:ao}{Es:List (Nat×V)}{Ms:List (Nat×Blk)}(src:List (Option Nat))(hK:E9 R (dj (b8 Ms src)) M cx)(hn:b0<=nm')(hM:ib R b0 nm' M (b8 Ms src))(hE:ju M (dj (b8 Ms src)) e Es):mJ cx b0 nm e M nm' (jv Es) (gl Ms):=by
  intro N X w0 I ρ0 ρ a w h
  generalize hC:b8 Ms src=C at hM hE
  rw[hC]at hK
  generalize hσ:dj C=σ at hM hE hK
  obtain⟨nd1,nd2⟩:=nc hM
  rw[hσ]at nd1 nd2
  let ρ':Names:=fun y=>if y<b0 then ρ0 y else match bu σ y with|some x=>ρ x|none=>none
  have hnew:∀ x y,aS σ x=some y->ρ' y=ρ x:=fun x y hxy=>by
    have hmem:=iB hxy
    rw[<- hσ,hY]at hmem
    obtain⟨k,hk⟩:=hmem
    obtain⟨g1,g2,g3⟩:=lv hM hk
    show(if y<b0 then ρ0 y else match bu σ y with|some x=>ρ x|none=>none)=ρ x
    by_cases hy:y<b0
    · rw[if_pos hy]
      rcases g2 with g2|rfl
      · omega
      · exact(h.low x hy).symm
    · rw[if_neg hy,nD nd2 (iB hxy)]
  have src':∀ y k,gl Ms y=some k->(∃ x k0,(y,some x,k)∈C/\M x=some k0/\R k0 k/\ρ' y=ρ x/\aS σ x=some y)\/(k.rows=[]/\ρ' y=none):=fun y k hk=>by
    obtain⟨o,ho⟩:=oF (src:=src) hk
    rw[hC]at ho
    obtain⟨g1,g2⟩:=lv hM ho
    cases o with
    | some x =>
      simp only at g2
      obtain⟨g2,g3⟩:=g2
      cases hx:M x with
      | none=>rw[hx]at g3;exact g3.elim
      | some k0 =>
        rw[hx]at g3
        have hin:(x,y)∈σ:=by rw[<- hσ,hY];exact⟨k,ho⟩
        have hnn:aS σ x=some y:=AM nd1 hin
        exact .inl ⟨x,k0,ho,hx,g3,hnew x y hnn,hnn⟩
    | none =>
      simp only at g2
      refine .inr ⟨g2.2.1,?_⟩
      show(if y<b0 then ρ0 y else match bu σ y with|some x=>ρ x|none=>none)=none
      rw[if_neg (by omega)]
      cases hon:bu σ y with
      | none=>rfl
      | some x =>
        have hin:=cN hon
        rw[<- hσ,hY]at hin
        obtain⟨k',hk'⟩:=hin
        cases xA hM ho hk'
  have hdom:∀ b,bP X ρ' (gl Ms) b->bP X ρ M b:=by
    rintro b (hx|⟨y,l,h1,h2,h3⟩)
    · exact .inl hx
    · obtain⟨k,hk⟩:=Option.isSome_iff_exists.1 h1
      rcases src' y k hk with ⟨x,k0,_,g1,_,g2,_⟩|⟨_,g⟩
      · exact .inr ⟨x,l,by rw[g1];rfl,by rw[<- g2];exact h2,h3⟩
      · rw[h2]at g;cases g
  have hinj:∀ x y y',aS σ x=some y->aS σ x=some y'->y=y':=fun x y y' h1 h2=>by rw[h1]at h2;exact Option.some.inj h2
  have hout:∀ x l,aS σ x=none->(M x).isSome=true->ρ x=some l -> ¬ bP X ρ' (gl Ms) l.b:=by
    rintro x l hn hMx hl (hX|⟨y,l',h1,h2,h3⟩)
    · exact(h.rel.block_lt hMx hl).2.1 hX
    · obtain⟨k,hk⟩:=Option.isSome_iff_exists.1 h1
      rcases src' y k hk with ⟨x',k0,_,g1,_,g2,g5⟩|⟨_,g⟩
      · have:=h.rel.inj x' x l' l (by rw[g1];rfl) hMx (by rw[<- g2];exact h2) hl h3
        subst this
        rw[hn]at g5;cases g5
      · rw[h2]at g;cases g
  refine⟨ρ',⟨?_,⟨h.env.size,h.env.defers,fun t ht=>?_⟩,fun x hx=>⟨DR (src:=src) (by rw[hC];exact hM) hx,?_⟩,fun x l hx=>?_,hn,fun x hx=>?_,h.top⟩⟩
  · exact
    { size:=h.rel.size,os:=h.rel.os,tape:=h.rel.tape,output:=h.rel.output,old:=h.rel.old
      live:=fun y k hk=>by
        rcases src' y k hk with ⟨x,k0,_,g1,g3,g2,_⟩|⟨g1,g2⟩
        · obtain⟨q1,q2⟩:=hK X w0 I ρ ρ' (bP X ρ' (gl Ms)) w h.rel hnew hdom hout k0 k g3
          rcases h.rel.live x k0 g1 with ⟨a1,a2⟩|⟨l,a1,a2,a3,a4⟩
          · exact .inl ⟨q2 a1,by rw[g2];exact a2⟩
          · exact .inr ⟨l,by rw[g2];exact a1,a2,a3,q1 l a4⟩
        · exact .inl ⟨g1,g2⟩
      inj:=fun y y' l l' h1 h2 h3 h4 h5=>by
        obtain⟨k,hk⟩:=Option.isSome_iff_exists.1 h1
        obtain⟨k',hk'⟩:=Option.isSome_iff_exists.1 h2
        rcases src' y k hk with ⟨x,k0,_,g1,_,g2,g5⟩|⟨_,g⟩
        · rcases src' y' k' hk' with ⟨x',k0',_,g1',_,g2',g5'⟩|⟨_,g⟩
          · have:=h.rel.inj x x' l l' (by rw[g1];rfl) (by rw[g1'];rfl) (by rw[<- g2];exact h3) (by rw[<- g2'];exact h4) h5
            subst this
            exact hinj x y y' g5 g5'
          · rw[h4]at g;cases g
        · rw[h3]at g;cases g
      hX:=h.rel.hX
      glob:=fun g=>(h.rel.glob g).plain (Nat.le_refl _) (fun _ _ _=>rfl) (fun b _ hb=>hdom b hb) (hG g) }
  · have key:∀ {L:List (Nat×V)},ju M σ e L->Is ρ' (bP X ρ' (gl Ms)) w (jv L t) (a.tmps.getD t undef):=by
      intro L
      induction L with
      | nil=>intro _;exact .any _
      | cons p r ih =>
        obtain⟨t',v⟩:=p
        intro hc
        simp only[jv]
        split
        · rename_i he
          subst he
          exact(ni (cx:=cx) h.rel hnew hdom hout (h.env.is t ht) hc.1.1).le _ hc.1.2
        · exact ih hc.2
    exact key hE
  · show(if x<b0 then ρ0 x else match bu σ x with|some x=>ρ x|none=>none)=none
    rw[if_neg (by omega)]
    cases hon:bu σ x with
    | none=>rfl
    | some z =>
      have hin:=cN hon
      rw[<- hσ,hY]at hin
      obtain⟨k',hk'⟩:=hin
      have:=(lv hM hk').1
      omega
  · show(if x<b0 then ρ0 x else match bu σ x with|some x=>ρ x|none=>none)=some l
    by_cases hxb:x<b0
    · rw[if_pos hxb];exact hx
    · rw[h.top x (by omega)]at hx;cases hx
  · show(if x<b0 then ρ0 x else match bu σ x with|some x=>ρ x|none=>none)=ρ0 x
    rw[if_pos hx]
def tE (hG:∀ g,(cx.G g).plain=true){b0 nm nm':Nat}{e:Env}{M:ao}{Es:List (Nat×V)}{Ms:List (Nat×Blk)}(src:List (Option Nat))(hn:b0<=nm')(hM:ib (sZ (dj (b8 Ms src))) b0 nm' M (b8 Ms src))(hE:ju M (dj (b8 Ms src)) e Es):mJ cx b0 nm e M nm' (jv Es) (gl Ms) :=
 j7 hG src (uT _ _) hn hM hE
def nU {α:Type}(μ:α->Nat)(P:α->Prop)(nmS:Nat)(Es:α->List (Nat×V))(Ms:α->List (Nat×Blk))(g nm:Nat)(e:Env)(M:ao):Prop:=∃ x,μ x=g/\P x/\nm=nmS/\e=jv (Es x)/\M=gl (Ms x)
variable {Q:Post} {st:List Frm} {nm:Nat} {e:Env} {M:ao}
def GI {c:Code}(hG:∀ g,(cx.G g).plain=true){α:Type}(μ:α->Nat)(P:α->Prop)(nmS:Nat)(Es:α->List (Nat×V))(Ms:α->List (Nat×Blk))(x0:α)(src:List (Option Nat))(h0:P x0)(hb:Q.b0<=nmS)
  (hM:ib (sZ (dj (b8 (Ms x0) src))) Q.b0 nmS M (b8 (Ms x0) src)) (hE:ju M (dj (b8 (Ms x0) src)) e (Es x0))
  (hr:∀ x,P x->go cx Q (.again (nU μ P nmS Es Ms) (μ x)::st) nmS (jv (Es x)) (gl (Ms x)) c):lJ cx Q st nm e M c :=
 B7 (nU μ P nmS Es Ms) (μ x0) (tE hG src hb hM hE) ⟨x0,rfl,h0,rfl,rfl,rfl⟩ (by rintro g nm e M ⟨x,rfl,hP,rfl,rfl,rfl⟩;exact hr x hP)
def CA (hG:∀ g,(cx.G g).plain=true){α:Type}{μ:α->Nat}{P:α->Prop}{nmS:Nat}{Es:α->List (Nat×V)}{Ms:α->List (Nat×Blk)}{g:Nat}(x:α)(src:List (Option Nat))(hg:μ x<g)(h0:P x)(hb:Q.b0<=nmS)
  (hM:ib (sZ (dj (b8 (Ms x) src))) Q.b0 nmS M (b8 (Ms x) src)) (hE:ju M (dj (b8 (Ms x) src)) e (Es x)):eu cx Q (.again (nU μ P nmS Es Ms) g::st) nm e M .normal :=
 xi (μ x) hg (tE hG src hb hM hE) ⟨x,rfl,h0,rfl,rfl,rfl⟩
end
def uk (o:Obj):Blk:=@Blk.mk 0 [] (.obj o)
section
variable {G:Nat->V} {X:Nat->Prop} {w0:World} {I:Nat->Prop} {ρ:Names} {M:ao} {w w':World} {D:Nat->Prop}
def sO (h:Rel G X w0 I ρ M w){y:Nat}{o:Obj}(hM:M y=some (uk o)){l:Loc}(hl:ρ y=some l):w.heap[l.b]? = some o/\l.sz=0/\l.tot=0/\l.o=0:=by
 rcases h.live y _ hM with ⟨_,a⟩|⟨l',a1,_,_,⟨cs,e,a2,_⟩|⟨o',_,ms',buf,_,_,a2,a3,a4,_,a5,a6,a7⟩⟩
 ·rw[hl]at a;cases a
 ·exact a2.elim
 ·rw[hl]at a1;cases a1
  obtain⟨rfl,_,h0⟩:=a2
  exact⟨a3,a4.symm,a5,h0⟩
def setAt (w:World)(b:Nat)(o:Obj):World:={ w with heap:=w.heap.setIfInBounds b o }
def Bm {b:Nat}{o:Obj}(h:b<w.heap.size):(setAt w b o).heap[b]? = some o:=by simp[setAt,h]
def Rel.setObj (h:Rel G X w0 I ρ M w){y:Nat}{o o':Obj}(hM:M y=some (uk o)){l:Loc}(hl:ρ y=some l) :
  Rel G X w0 I ρ (M.put y (some (uk o'))) (setAt w l.b o')/\Moves ρ M w ρ (M.put y (some (uk o'))) (setAt w l.b o'):=by
 obtain⟨hh,hz,ht,h0⟩:=sO h hM hl
 have hk:∀ b,b≠l.b->(setAt w l.b o').heap[b]? = w.heap[b]?:=fun b hb=>by
  simp only[setAt];rw[Array.getElem?_setIfInBounds_ne (Ne.symm hb)]
 have hs:∀ x,((M.put y (some (uk o'))) x).isSome=true->(M x).isSome=true:=fun x hx=>by
  by_cases e:x=y
  ·subst e;rw[hM];rfl
  ·rwa[ao.put_ne _ _ e]at hx
 have m:Moves ρ M w ρ (M.put y (some (uk o'))) (setAt w l.b o') :=
  ⟨fun _ _ h=>h,by simp[setAt],rfl,rfl,rfl,fun b _ hn=>hk b (fun e=>hn y l (by rw[hM];rfl) hl e.symm),fun n l' a1 a2 _=>⟨n,l',hs n a1,a2,rfl⟩⟩
 refine⟨h.move m (fun a b l1 l2 a1 a2 a3 a4 a5=>h.inj a b l1 l2 (hs a a1) (hs b a2) a3 a4 a5) ?_,m⟩
 intro x kx hx
 by_cases e:x=y
 ·subst e
  rw[ao.put_same]at hx
  cases hx
  obtain⟨b1,b2,b3⟩:=h.block_lt (by rw[hM];rfl) hl
  exact .inr (.inr ⟨l,hl,b3,b2,.inr ⟨_,(),[],#[],(),(),⟨rfl,rfl,h0⟩,Bm b1,hz.symm,rfl,ht,rfl,fun i u hi=>by simp at hi⟩⟩)
 ·rw[ao.put_ne _ _ e]at hx
  exact .inl ⟨hx,id,fun lx hlx=>hk _ (fun e2=>e (h.inj x y lx l (by rw[hx];rfl) (by rw[hM];rfl) hlx hl e2))⟩
def Rel.newObj (h:Rel G X w0 I ρ M w){nm:Nat}(hM:M nm=none)(hρ:ρ nm=none)(o:Obj){v:V}{cv:Value}(hv:∀ ρ D w',ρ nm=some ⟨w.heap.size,0,0,0⟩->Is ρ D w' v cv) :
  cV G X w0 I ρ M w nm v (M.put nm (some (uk o))) cv (w.alloc o):=by
 have hne:∀ x,(M x).isSome=true->x≠nm:=fun x hx e=>by subst e;rw[hM]at hx;cases hx
 have hlt:∀ x l,(M x).isSome=true->ρ x=some l->l.b<w.heap.size:=fun x l hx hl=>(h.block_lt hx hl).1
 have m:Moves ρ M w (ρ.put nm ⟨w.heap.size,0,0,0⟩) (M.put nm (some (uk o))) (w.alloc o):=by
  refine⟨fun x l hx=>by rw[Names.put_ne _ _ (fun e=>by subst e;rw[hρ]at hx;cases hx)];exact hx,by simp,rfl,rfl,rfl,fun b hb _=>Below.heap_alloc _ _ _ hb,fun x l a1 a2 a3=>?_⟩
  by_cases e:x=nm
  ·subst e;rw[Names.put_same]at a2;cases a2;simp at a3
  ·rw[Names.put_ne _ _ e]at a2;rw[ao.put_ne _ _ e]at a1
   exact⟨x,l,a1,a2,rfl⟩
 refine⟨ρ.put nm ⟨w.heap.size,0,0,0⟩,h.move m ?_ ?_,m,hv _ _ _ (Names.put_same _ _ _),fun x hx=>Names.put_ne _ _ hx⟩
 ·intro x y l l' a1 a2 a3 a4 a5
  by_cases ex:x=nm
  ·subst ex
   rw[Names.put_same]at a3;cases a3
   by_cases ey:y=x
   ·exact ey.symm
   ·rw[Names.put_ne _ _ ey]at a4;rw[ao.put_ne _ _ ey]at a2
    have:=hlt y l' a2 a4
    simp at a5;omega
  ·rw[Names.put_ne _ _ ex]at a3;rw[ao.put_ne _ _ ex]at a1
   have:=hlt x l a1 a3
   by_cases ey:y=nm
   ·subst ey
    rw[Names.put_same]at a4;cases a4
    simp at a5;omega
   ·rw[Names.put_ne _ _ ey]at a4;rw[ao.put_ne _ _ ey]at a2
    exact h.inj x y l l' a1 a2 a3 a4 a5
 ·intro x kx hx
  by_cases ex:x=nm
  ·subst ex
   rw[ao.put_same]at hx;cases hx
   refine .inr (.inr ⟨_,Names.put_same _ _ _,.inr h.size,fun hX=>?_,.inr ⟨_,(),[],#[],(),(),⟨rfl,rfl,rfl⟩,heap_alloc_new w _,rfl,rfl,rfl,rfl,fun i u hi=>by simp at hi⟩⟩)
   have:=(h.hX _ hX).1
   have:=h.size
   simp at *;omega
  ·rw[ao.put_ne _ _ ex]at hx
   exact .inl ⟨hx,fun hn=>by rw[Names.put_ne _ _ ex];exact hn,fun lx hlx=>Below.heap_alloc _ _ _ (hlt x lx (by rw[hx];rfl) hlx)⟩
end
def lM (s:List UInt8)(pos:Nat):Blk:=uk (.stringIter ⟨s.toArray⟩ pos)
def oS (σ:List (Nat×Nat))(s:List UInt8)(p:Nat):Blk.ren σ (lM s p)=lM s p:=rfl
def kD (σ:List (Nat×Nat))(s:List UInt8)(p:Nat):Blk.renOk σ (lM s p)=true:=rfl
def bx (s:List UInt8)(pos:Nat):Nat×Nat:=Utf8.decode ⟨s.toArray⟩ pos
section
variable {cx:Cx} {Q:Post} {st:List Frm} {nm:Nat} {e:Env} {M:ao} {d:Bool} {fs:List (List Nat)} {ops r:List Oper} {dst:Option Tmp} {t:TypeId} {pos:String} {af:Array Edge} {gd:Option (Nat×Bool)} {i:Nat}
def uK {ty:TypeId}{x:Operand}{s:List UInt8}(hx:ax cx.G true e x = .str s)(ht:cx.P.underlying ty=some .string)
  (h:aG cx Q st nm (e.putD dst (.ptr (nm+16*i) 0 0)) (M.app [(nm+16*i,some (lM s 0))]) d (fs++[[nm+16*i]]) ops r (i+1)):cM cx Q st nm e M d fs ops ⟨dst,.range ty x,t,pos,af,gd⟩ r i:=by
 refine⟨_,_,_,⟨fun x hx=>hx,fun x hx=>?_,fun _=>rfl,fun _=>rfl,?_⟩,h⟩
 ·simp only[ak,List.map_cons,List.map_nil,List.mem_singleton]at hx
  subst hx;exact .inr ⟨Nat.le_refl _,by omega⟩
 ·intro N X w0 I ρ e' M' a w hr he hin hev _ hf
  obtain⟨f1,f2⟩:=hf (nm+16*i) ⟨Nat.le_refl _,by omega⟩
  have hxi:=he.eval hr (c:=true) rfl (hin x (by simp[Op.operands]))
  rw[hev x (by simp[Op.operands]),hx]at hxi
  generalize hcv:a.eval x=cv at hxi
  cases hxi
  refine⟨_,_,(Rel.newObj (v:=.ptr (nm+16*i) 0 0) hr f1 f2 (.stringIter ⟨s.toArray⟩ 0) (cv:=.pointer (some ⟨w.heap.size,0,none⟩)) (fun ρ D w' hl=>?_)).n,jd (s:=Instr.range ty (a.eval x)) rfl ?_⟩
  ·have:=Is.ptr (D:=D) (w:=w') (i:=0) (j:=0) hl
   simpa using this
  ·rw[hcv];exact run_range_string w ty _ ht
def run_next_at {P:Program}{w:World}{b:Nat}{s:ByteArray}{p:Nat}(ty:TypeId)(hb:w.heap[b]? = some (.stringIter s p))(h:p<s.size) :
  (Instr.next (.pointer (some ⟨b,0,none⟩)) true ty).run P w = .ok (.tuple #[.bool true,.int .i64 p,.int .i32 (Utf8.decode s p).1]) (setAt w b (.stringIter s (p+(Utf8.decode s p).2))):=by
 simp only[Instr.next,getObj,Go.setObj,Sem.run_bind,Sem.run,hb,Result.andThen,h,if_true]
 simp[goInt,setAt]
def un {P:Program}{w:World}{b:Nat}{s:ByteArray}{p:Nat}(ty:TypeId)(hb:w.heap[b]? = some (.stringIter s p))(h:¬ p<s.size) :
  (Instr.next (.pointer (some ⟨b,0,none⟩)) true ty).run P w = .ok (.tuple #[.bool false]) w:=by
 simp[Instr.next,getObj,Sem.run,hb,h]
def lE {x:Operand}{s:List UInt8}{y p:Nat}(hx:ax cx.G true e x = .ptr y 0 0)(hM:M y=some (lM s p))(hp:p<s.length)
  (h:aG cx Q st nm (e.putD dst (.tup [.bool true,.int .i64 p,.int .i32 (bx s p).1])) (M.app [(y,some (lM s (p+(bx s p).2)))]) d (fs++[[y]]) ops r (i+1)):cM cx Q st nm e M d fs ops ⟨dst,.next x true,t,pos,af,gd⟩ r i:=by
 refine⟨_,_,_,⟨fun x hx=>hx,fun x hx=>?_,fun _=>rfl,fun _=>rfl,?_⟩,h⟩
 ·simp only[ak,List.map_cons,List.map_nil,List.mem_singleton]at hx
  subst hx;exact .inl (by rw[hM];rfl)
 ·intro N X w0 I ρ e' M' a w hr he hin hev hMM hf
  have hxi:=he.eval hr (c:=true) rfl (hin x (by simp[Op.operands]))
  rw[hev x (by simp[Op.operands]),hx]at hxi
  have hM':M' y=some (lM s p):=by rw[hMM y (List.mem_singleton.2 rfl)];exact hM
  generalize hcv:a.eval x=cv at hxi
  cases hxi with
  | ptr hl =>
   rename_i l
   obtain⟨hh,hz,ht,h0⟩:=sO hr hM' hl
   obtain⟨g1,g2⟩:=Rel.setObj hr hM' hl (o':=.stringIter ⟨s.toArray⟩ (p+(bx s p).2))
   refine⟨_,_,⟨ρ,g1,g2,DF (.bool _) (.int _ _) (.int _ _),fun _ _=>rfl⟩,jd (s:=Instr.next (a.eval x) true t) rfl ?_⟩
   rw[hcv,h0,hz]
   exact run_next_at t hh (by simpa [ByteArray.size] using hp)
def xX {x:Operand}{s:List UInt8}{y p:Nat}(hx:ax cx.G true e x = .ptr y 0 0)(hM:M y=some (lM s p))(hp:¬ p<s.length)
  (h:aG cx Q st nm (e.putD dst (.tup [.bool false])) M d (fs++[[y]]) ops r (i+1)):cM cx Q st nm e M d fs ops ⟨dst,.next x true,t,pos,af,gd⟩ r i:=by
 refine⟨_,[],_,⟨fun x hx=>by simp[ak]at hx,fun x hx=>by simp[ak]at hx,fun _=>rfl,fun _=>rfl,?_⟩,h⟩
 intro N X w0 I ρ e' M' a w hr he hin hev hMM hf
 have hxi:=he.eval hr (c:=true) rfl (hin x (by simp[Op.operands]))
 rw[hev x (by simp[Op.operands]),hx]at hxi
 have hM':M' y=some (lM s p):=by rw[hMM y (List.mem_singleton.2 rfl)];exact hM
 generalize hcv:a.eval x=cv at hxi
 cases hxi with
 | ptr hl =>
  rename_i l
  obtain⟨hh,hz,ht,h0⟩:=sO hr hM' hl
  refine⟨.tuple #[.bool false],w,(cV.still (nm:=nm+16*i) hr (.tup rfl (fun i u cv hi hc=>?_))).n,jd (s:=Instr.next (a.eval x) true t) rfl ?_⟩
  ·cases i with
   | zero=>simp at hi hc;subst hi;subst hc;exact .bool _
   | succ i=>simp at hi
  ·rw[hcv,h0,hz]
   exact un t hh (by simpa [ByteArray.size] using hp)
end
def Ev.extern {cx : Cx} {f : FuncId} {fn : Func} {g : Array Value -> Sem Value} (hf : cx.P.funcs[f]? = some fn) (hname : (fn.name == "runtime.NumGoroutine") = false) (hb : fn.body.isNone = true) (hn : Extern.findNext fn = none)
  (he:Extern.find fn=some g) (args:List V) (M:ao) (v:V) (nm:Nat)
  (hrun:∀(ρ:Names) (D:Nat->Prop) (w:World) (cargs:Array Value),args.length=cargs.size->(∀(i:Nat) (u:V) (cv:Value),args[i]? = some u->cargs[i]? = some cv->Is ρ D w u cv) -> ∃ cv,(g cargs).run cx.P w = .ok cv w/\Is ρ D w v cv) :
  Ev cx f nm args M v []:=by
 refine⟨trivial,fun X w ρ cargs B hr hfr hB hlen hargs=>?_⟩
 obtain⟨cv,h1,h2⟩:=hrun ρ _ w cargs hlen hargs
 refine .inr ⟨cv,w,?_,cv,rfl,ρ,hr,.refl _ _ _,h2,fun _ _=>rfl⟩
 rw[run_callFunc_extern hf hname hb hn he,h1];rfl
def Ev.indexByte {cx : Cx} {f : FuncId} {fn : Func} (hf : cx.P.funcs[f]? = some fn) (hname : (fn.name == "runtime.NumGoroutine") = false) (hb : fn.body.isNone = true) (hn : Extern.findNext fn = none)
  (he:Extern.find fn=some Extern.BytealgIndexByte.indexByte) (s:List UInt8) (c:UInt8) (M:ao) (nm:Nat):Ev cx f nm [.str s,.int .u8 c.toNat] M (.int .i64 (Lib.indexByte s c)) []:=by
 refine Ev.extern hf hname hb hn he _ _ _ _ (fun ρ D w cargs hlen hargs=>?_)
 match cargs,hlen,hargs with
 |⟨[v0,v1]⟩,_,hargs =>
 have h0:=hargs 0 _ v0 rfl rfl
 have h1:=hargs 1 _ v1 rfl rfl
 cases h0;cases h1
 refine⟨_,Lib.run_indexByteString _ _ _,?_⟩
 simp only[Int.toNat_natCast]
 have:(c.toNat).toUInt8=c:=by simp
 rw[this]
 exact .int _ _
def Ev.noEscape {cx : Cx} {f : FuncId} {fn : Func} (hf : cx.P.funcs[f]? = some fn) (hname : (fn.name == "runtime.NumGoroutine") = false) (hb : fn.body.isNone = true) (hn : Extern.findNext fn = none)
  (he:Extern.find fn=some Extern.AbiNoEscape.same) (v:V) (M:ao) (nm:Nat):Ev cx f nm [v] M v []:=by
 refine Ev.extern hf hname hb hn he _ _ _ _ (fun ρ D w cargs hlen hargs=>?_)
 match cargs,hlen,hargs with
 |⟨[v0]⟩,_,hargs=>exact⟨v0,Lib.run_noEscape _ v0,hargs 0 _ v0 rfl rfl⟩
def yJ {P:Program}{e:TypeId}{s:Nat}(hs:0<s)(hc:P.cellsOf e=s)(count n:Nat)(hn:n<=count):liesAt P P.depth e count 0 e n=true:=by
 have hd:P.depth=(2*(P.types.size+Made.depth)+1)+1:=rfl
 have h0:¬ s=0:=by omega
 rw[hd]
 simp only[liesAt,Bool.or_eq_true]
 left
 rw[hd]
 simp[rowAt,hc,hn,sameLayout,h0]
def B0 (P:Program)(t:TypeId):Bool:=match P.info? t with
 | some j=>decide (j.size≠0)
 | none=>false
section
variable {cx:Cx} {Q:Post} {st:List Frm} {nm:Nat} {e:Env} {M:ao} {d:Bool} {fs:List (List Nat)} {ops r:List Oper} {dst:Option Tmp} {t:TypeId} {pos:String} {af:Array Edge} {gd:Option (Nat×Bool)} {i:Nat}
def oU {G:Nat->V}{X:Nat->Prop}{w0:World}{I:Nat->Prop}{ρ:Names}{w:World}(h:Rel G X w0 I ρ M w){y:Nat}{k:Blk}(hM:M y=some k)(hk:k.ob.isRow=true){l:Loc}(hl:ρ y=some l) :
  ∃ cs el,k.ob.okCells el l/\w.heap[l.b]? = some (.cells cs el l.frz)/\k.sz=l.sz/\k.rows.length<=l.tot/\l.o+l.tot*l.sz<=cs.size/\(∀(i:Nat) (row:List V),k.rows[i]? = some row->row.length=l.sz) /\
   ∀(i j:Nat) (row:List V) (u:V),k.rows[i]? = some row->row[j]? = some u -> ∃ cv,cs[l.o+i*l.sz+j]? = some cv/\Is ρ (bP X ρ M) w u cv:=by
 rcases h.live y k hM with ⟨_,a⟩|⟨l',a1,_,_,⟨cs,el,a2⟩|⟨o',_,ms',buf,_,_,a2,_⟩⟩
 ·rw[hl]at a;cases a
 ·rw[hl]at a1;cases a1
  exact⟨cs,el,a2⟩
 ·exfalso
  cases ho:k.ob with
  | cells=>rw[ho]at a2;exact a2
  | typed t=>rw[ho]at a2;exact a2
  | chan a b c=>rw[ho]at hk;cases hk
  | obj o=>rw[ho]at hk;cases hk
def tg {w:World}{b:Nat}{cs:Array Value}{el:TypeId}{fz:Nat×Nat}(h:w.heap[b]? = some (.cells cs el fz)):w.shape? b=some (el,cs.size):=by simp[World.shape?,h]
def oh {s dt te:TypeId}{x:Operand}{y sz:Nat}{row:List V}{rows:List (List V)}{o:Ob}(hx:ax cx.G true e x = .ptr y 0 0)(hM:M y=some (@Blk.mk sz (row::rows) o))(ho:o.isRow=true)(hz:0<sz)
  (hs:cx.P.underlying s=some (.pointer te)) (hd:cx.P.underlying dt=some .unsafePointer) (hinf:B0 cx.P te=true)
  (h:aG cx Q st nm (e.putD dst (.ptr y 0 0)) M d (fs++[[y]]) ops r (i+1)):cM cx Q st nm e M d fs ops ⟨dst,.convert s dt x,t,pos,af,gd⟩ r i:=by
 obtain⟨j,ht,hj⟩:∃ j,cx.P.info? te=some j/\j.size≠0:=by
  unfold B0 at hinf
  split at hinf
  ·rename_i j hj;exact⟨j,hj,by simpa using hinf⟩
  ·cases hinf
 refine⟨_,[],_,⟨fun x hx=>by simp[ak]at hx,fun x hx=>by simp[ak]at hx,fun h=>absurd rfl h,fun _=>rfl,?_⟩,h⟩
 intro N X w0 I ρ e' M' a w hr he hin hev hMM hf
 have hxi:=he.eval hr (c:=true) rfl (hin x (by simp[Op.operands]))
 rw[hev x (by simp[Op.operands]),hx]at hxi
 have hM':M' y=some (@Blk.mk sz (row::rows) o):=by rw[hMM y (List.mem_singleton.2 rfl)];exact hM
 generalize hcv:a.eval x=cv at hxi
 cases hxi with
 | ptr hl =>
  rename_i l
  obtain⟨cs,el,_,hh,h1,h2,h3,_⟩:=oU hr hM' ho hl
  simp only[List.length_cons]at h1 h2
  refine⟨_,w,(cV.still (nm:=nm+16*i) hr (.ptr (i:=0) (j:=0) hl)).n,jd (s:=convert s dt (a.eval x)) rfl ?_⟩
  rw[hcv]
  refine Lib.run_to_unsafe w ⟨l.b,l.o+0*l.sz+0,none⟩ hs hd ht hj (tg hh) ?_
  have:=Nat.le_mul_of_pos_left l.sz (show 0<l.tot by omega)
  show l.o+0*l.sz+0<cs.size
  omega
def lD {s dt u:TypeId}{x:Operand}{y sz:Nat}{row:List V}{rows:List (List V)}(hx:ax cx.G true e x = .ptr y 0 0)(hM:M y=some (@Blk.mk sz (row::rows) (.typed u)))(hz:0<sz)
  (hs:cx.P.underlying s=some .unsafePointer) (hd:cx.P.underlying dt=some (.pointer u)) (hu:(cx.P.info? u).isSome=true) (hc:cx.P.cellsOf u=sz)
  (h:aG cx Q st nm (e.putD dst (.ptr y 0 0)) M d (fs++[[y]]) ops r (i+1)):cM cx Q st nm e M d fs ops ⟨dst,.convert s dt x,t,pos,af,gd⟩ r i:=by
 obtain⟨j,hu⟩:=Option.isSome_iff_exists.1 hu
 refine⟨_,[],_,⟨fun x hx=>by simp[ak]at hx,fun x hx=>by simp[ak]at hx,fun h=>absurd rfl h,fun _=>rfl,?_⟩,h⟩
 intro N X w0 I ρ e' M' a w hr he hin hev hMM hf
 have hxi:=he.eval hr (c:=true) rfl (hin x (by simp[Op.operands]))
 rw[hev x (by simp[Op.operands]),hx]at hxi
 have hM':M' y=some (@Blk.mk sz (row::rows) (.typed u)):=by rw[hMM y (List.mem_singleton.2 rfl)];exact hM
 generalize hcv:a.eval x=cv at hxi
 cases hxi with
 | ptr hl =>
  rename_i l
  obtain⟨cs,el,hok,hh,h1,h2,h3,_⟩:=oU hr hM' rfl hl
  obtain⟨rfl,h0⟩:=hok
  simp only[List.length_cons]at h1 h2
  refine⟨_,w,(cV.still (nm:=nm+16*i) hr (.ptr (i:=0) (j:=0) hl)).n,jd (s:=convert s dt (a.eval x)) rfl ?_⟩
  rw[hcv]
  refine Lib.run_from_unsafe w ⟨l.b,l.o+0*l.sz+0,none⟩ hs hd hu (tg hh) ?_
  show liesAt cx.P cx.P.depth el (cs.size / cx.P.cellsOf el) (l.o+0*l.sz+0) el 1=true
  rw[h0,Nat.zero_mul]
  refine yJ hz hc _ _ ?_
  rw[hc,Nat.le_div_iff_mul_le hz,Nat.one_mul,h1]
  have:=Nat.le_mul_of_pos_left l.sz (show 0<l.tot by omega)
  omega
def tU {as:Array Operand}{ts:Array TypeId}{x:Operand}(has:as.toList=[x]){y n:Nat}(hx:ax cx.G true e x = .own y 0 n)(hn:0<n)
  (h:aG cx Q st nm (e.putD dst (.ptr y 0 0)) M d (fs++[[]]) ops r (i+1)):cM cx Q st nm e M d fs ops ⟨dst,.call ⟨.builtin .unsafeSliceData,as,ts⟩,t,pos,af,gd⟩ r i:=by
 obtain rfl:as = #[x]:=by cases as;simp at has;rw[has]
 refine⟨_,[],_,⟨fun x hx=>by simp[ak]at hx,fun x hx=>by simp[ak]at hx,fun h=>absurd rfl h,fun h=>absurd rfl h,?_⟩,h⟩
 intro N X w0 I ρ e' M' a w hr he hin hev _ hf
 have hxi:=he.eval hr (c:=true) rfl (hin x (by simp[Op.operands,Call.operands]))
 rw[hev x (by simp[Op.operands,Call.operands]),hx]at hxi
 generalize hcv:a.eval x=cv at hxi
 cases hxi with
 | own0=>omega
 | own hl hlc hnc =>
  rename_i c l
  refine⟨.pointer (some ⟨l.b,l.o+0*l.sz,none⟩),w,(cV.still (nm:=nm+16*i) hr ?_).n,kO (s:=Builtin.unsafeSliceData_ ts t (#[x].map a.eval)) (fun _=>rfl) ?_⟩
  ·have:=Is.ptr (D:=bP X ρ M') (w:=w) (i:=0) (j:=0) hl
   simpa using this
  ·rw[show #[x].map a.eval = #[a.eval x] by simp,hcv]
   exact Lib.run_unsafeSliceData_row w ts t _ _ _ (by omega)
def og {as:Array Operand}{ts:Array TypeId}{x:Operand}(has:as.toList=[x])(hx:ax cx.G true e x = .nils)
  (h:aG cx Q st nm (e.putD dst .nilp) M d (fs++[[]]) ops r (i+1)):cM cx Q st nm e M d fs ops ⟨dst,.call ⟨.builtin .unsafeSliceData,as,ts⟩,t,pos,af,gd⟩ r i:=by
 obtain rfl:as = #[x]:=by cases as;simp at has;rw[has]
 refine⟨_,[],_,⟨fun x hx=>by simp[ak]at hx,fun x hx=>by simp[ak]at hx,fun h=>absurd rfl h,fun h=>absurd rfl h,?_⟩,h⟩
 intro N X w0 I ρ e' M' a w hr he hin hev _ hf
 have hxi:=he.eval hr (c:=true) rfl (hin x (by simp[Op.operands,Call.operands]))
 rw[hev x (by simp[Op.operands,Call.operands]),hx]at hxi
 generalize hcv:a.eval x=cv at hxi
 cases hxi
 refine⟨.pointer none,w,(cV.still (nm:=nm+16*i) hr .nilp).n,kO (s:=Builtin.unsafeSliceData_ ts t (#[x].map a.eval)) (fun _=>rfl) ?_⟩
 rw[show #[x].map a.eval = #[a.eval x] by simp,hcv]
 exact Lib.run_unsafeSliceData_nil w ts t 0 0
def wb {w:World}{a:Addr}{n b:Nat}(hb:b≠a.block):(w.freeze a n).heap[b]? = w.heap[b]?:=by
 unfold World.freeze
 split
 ·rfl
 ·simp only[Array.getElem?_modify,if_neg (Ne.symm hb)]
def wa (w:World)(a:Addr)(n:Nat):(w.freeze a n).heap.size=w.heap.size/\(w.freeze a n).os=w.os/\(w.freeze a n).tape=w.tape/\(w.freeze a n).output=w.output:=by
 unfold World.freeze
 split
 ·exact⟨rfl,rfl,rfl,rfl⟩
 ·exact⟨by simp,rfl,rfl,rfl⟩
def Rel.lost {G:Nat->V}{X:Nat->Prop}{w0:World}{I:Nat->Prop}{ρ:Names}{w w':World}(h:Rel G X w0 I ρ M w){y:Nat}{l:Loc}(hM:(M y).isSome=true)(hl:ρ y=some l)(hs:w'.heap.size=w.heap.size)(hos:w'.os=w.os)(htp:w'.tape=w.tape)(hout:w'.output=w.output)
  (hk:∀ b,b≠l.b->w'.heap[b]? = w.heap[b]?):Rel G X w0 I ρ (M.put y none) w'/\Moves ρ M w ρ (M.put y none) w':=by
 have hne:∀ x,((M.put y none) x).isSome=true->x≠y/\(M x).isSome=true:=fun x hx=>by
  by_cases e:x=y
  ·subst e;rw[ao.put_same]at hx;cases hx
  ·rw[ao.put_ne _ _ e]at hx;exact⟨e,hx⟩
 have m:Moves ρ M w ρ (M.put y none) w':=⟨fun _ _ h=>h,Nat.le_of_eq hs.symm,hos,htp,hout,fun b _ hn=>hk b (fun e=>hn y l hM hl e.symm),fun n l' a1 a2 _=>⟨n,l',(hne n a1).2,a2,rfl⟩⟩
 refine⟨h.move m (fun a b l1 l2 a1 a2 a3 a4 a5=>h.inj a b l1 l2 (hne a a1).2 (hne b a2).2 a3 a4 a5) ?_,m⟩
 intro x kx hx
 obtain⟨e,hs'⟩:=hne x (by rw[hx];rfl)
 rw[ao.put_ne _ _ e]at hx
 exact .inl ⟨hx,id,fun lx hlx=>hk _ (fun e2=>e (h.inj x y lx l hs' hM hlx hl e2))⟩
def py {as:Array Operand}{pt it u:TypeId}{x z:Operand}(has:as.toList=[x,z]){y:Nat}{bs:List UInt8}(hx:ax cx.G true e x = .ptr y 0 0)(hz:ax cx.G true e z = .int .i64 bs.length)
  (hM:M y=some (@Blk.mk 1 (bs.map aL) (.typed u))) (h0:bs≠[]) (h63:bs.length<=9223372036854775807) (hp:cx.P.underlying pt=some (.pointer u)) (hc:cx.P.cellsOf u=1)
  (h:aG cx Q st nm (e.putD dst (.str bs)) (M.app [(y,none)]) d (fs++[[y]]) ops r (i+1)):cM cx Q st nm e M d fs ops ⟨dst,.call ⟨.builtin .unsafeString,as,#[pt,it]⟩,t,pos,af,gd⟩ r i:=by
 obtain rfl:as = #[x,z]:=by cases as;simp at has;rw[has]
 refine⟨_,_,_,⟨fun x hx=>hx,fun x hx=>?_,fun _=>rfl,fun _=>rfl,?_⟩,h⟩
 ·simp only[ak,List.map_cons,List.map_nil,List.mem_singleton]at hx
  subst hx;exact .inl (by rw[hM];rfl)
 ·intro N X w0 I ρ e' M' a w hr he hin hev hMM hf
  have hxi:=he.eval hr (c:=true) rfl (hin x (by simp[Op.operands,Call.operands]))
  rw[hev x (by simp[Op.operands,Call.operands]),hx]at hxi
  have hzi:=he.eval hr (c:=true) rfl (hin z (by simp[Op.operands,Call.operands]))
  rw[hev z (by simp[Op.operands,Call.operands]),hz]at hzi
  have hM':M' y=some (@Blk.mk 1 (bs.map aL) (.typed u)):=by rw[hMM y (List.mem_singleton.2 rfl)];exact hM
  generalize hcv:a.eval x=cv at hxi
  generalize hcz:a.eval z=cz at hzi
  cases hzi
  cases hxi with
  | ptr hl =>
   rename_i l
   obtain⟨cs,el,hok,hh,h1,h2,h3,_,h5⟩:=oU hr hM' rfl hl
   obtain⟨rfl,ho⟩:=hok
   simp only[List.length_map]at h1 h2
   obtain⟨f1,f2,f3,f4⟩:=wa w ⟨l.b,0,none⟩ bs.length
   obtain⟨g1,g2⟩:=Rel.lost hr (by rw[hM'];rfl) hl f1 f2 f3 f4 (fun b hb=>wb hb)
   refine⟨.string ⟨bs.toArray⟩,_,⟨ρ,g1,g2,.str _,fun _ _=>rfl⟩,kO (s:=Builtin.unsafeString_ #[pt,it] t (#[x,z].map a.eval)) (fun _=>rfl) ?_⟩
   rw[show #[x,z].map a.eval = #[a.eval x,a.eval z] by simp,hcv,hcz,ho,Nat.zero_mul]
   refine Lib.run_unsafeString_row w pt it t el hp hc l.b cs.size (tg hh) bs h0 (by rw[<- h1]at h3;omega) h63 (fun j b hj=>?_)
   obtain⟨cv,c1,c2⟩:=h5 j 0 (aL b) (.int .u8 b.toNat) (by rw[List.getElem?_map,hj];rfl) rfl
   cases c2
   rw[<- h1,ho]at c1
   have:(⟨l.b,0,none⟩:Addr).add j=⟨l.b,j,none⟩:=by
    unfold Addr.add
    split
    ·rename_i h;subst h;rfl
    ·simp
   rw[this]
   simp only[World.cell?,hh]
   simpa using c1
def lF {as:Array Operand}{pt it:TypeId}{x z:Operand}(has:as.toList=[x,z])(hx:ax cx.G true e x = .nilp)(hz:ax cx.G true e z = .int .i64 0)
  (h:aG cx Q st nm (e.putD dst (.str [])) M d (fs++[[]]) ops r (i+1)):cM cx Q st nm e M d fs ops ⟨dst,.call ⟨.builtin .unsafeString,as,#[pt,it]⟩,t,pos,af,gd⟩ r i:=by
 obtain rfl:as = #[x,z]:=by cases as;simp at has;rw[has]
 refine⟨_,[],_,⟨fun x hx=>by simp[ak]at hx,fun x hx=>by simp[ak]at hx,fun h=>absurd rfl h,fun h=>absurd rfl h,?_⟩,h⟩
 intro N X w0 I ρ e' M' a w hr he hin hev _ hf
 have hxi:=he.eval hr (c:=true) rfl (hin x (by simp[Op.operands,Call.operands]))
 rw[hev x (by simp[Op.operands,Call.operands]),hx]at hxi
 have hzi:=he.eval hr (c:=true) rfl (hin z (by simp[Op.operands,Call.operands]))
 rw[hev z (by simp[Op.operands,Call.operands]),hz]at hzi
 generalize hcv:a.eval x=cv at hxi
 generalize hcz:a.eval z=cz at hzi
 cases hxi;cases hzi
 refine⟨.string .empty,w,(cV.still (nm:=nm+16*i) hr (.str [])).n,kO (s:=Builtin.unsafeString_ #[pt,it] t (#[x,z].map a.eval)) (fun _=>rfl) ?_⟩
 rw[show #[x,z].map a.eval = #[a.eval x,a.eval z] by simp,hcv,hcz]
 exact Lib.run_unsafeString_none w pt it t none
end
def mc:V->Value
 | .bool b=>.bool b
 | .int k n=>.int k n
 | .str s=>.string ⟨s.toArray⟩
 | .nilp=>.pointer none
 | .nils=>.slice none 0 0
 | .val v=>v
 | _=>undef
def nx:V->Bool
 | .bool _ | .int _ _ | .str _ | .nilp | .nils | .val _=>true
 | _=>false
def valOf:V->Value
 | .agg cells=>.agg (cells.map mc).toArray
 | v=>mc v
def known:V->Bool
 | .agg cells=>cells.all nx
 | v=>nx v
def vy {ρ:Names}{D:Nat->Prop}{w:World}{v:V}{cv:Value}(hk:nx v=true)(h:Is ρ D w v cv):cv=mc v:=by
 cases h<;>first|rfl|(simp[nx]at hk;done)
def uQ (ρ:Names)(D:Nat->Prop)(w:World){v:V}(hk:nx v=true):Is ρ D w v (mc v):=by
 cases v<;>first|(simp[nx]at hk;done)|constructor
def yD {v:V}(ha:¬ ∃ cells,v = .agg cells):known v=nx v:=by
 cases v<;>first|rfl|exact absurd ⟨_,rfl⟩ ha
def zm {v:V}(ha:¬ ∃ cells,v = .agg cells):valOf v=mc v:=by
 cases v<;>first|rfl|exact absurd ⟨_,rfl⟩ ha
def tB {ρ:Names}{D:Nat->Prop}{w:World}{v:V}{cv:Value}(hk:known v=true)(h:Is ρ D w v cv):cv=valOf v:=by
 by_cases ha:∃ cells,v = .agg cells
 ·obtain⟨cells,rfl⟩:=ha
  cases h with
  | agg hn hu =>
   rename_i cvs
   simp only[known]at hk
   show Value.agg cvs = .agg _
   congr 1
   apply Array.ext
   ·simp[hn]
   ·intro i h1 h2
    have hi:i<cells.length:=by omega
    have:=hu i cells[i] cvs[i] (by simp[hi]) (by simp[h1])
    simp only[List.getElem_toArray,List.getElem_map]
    exact vy (List.all_eq_true.1 hk _ (List.getElem_mem hi)) this
 ·rw[yD ha]at hk;rw[zm ha];exact vy hk h
def Gu (ρ:Names)(D:Nat->Prop)(w:World){v:V}(hk:known v=true):Is ρ D w v (valOf v):=by
 by_cases ha:∃ cells,v = .agg cells
 ·obtain⟨cells,rfl⟩:=ha
  refine .agg (by simp) (fun i u cv h1 h2=>?_)
  simp only[known]at hk
  simp only[List.getElem?_toArray,List.getElem?_map,h1,Option.map_some,Option.some.injEq]at h2
  subst h2
  exact uQ _ _ _ (List.all_eq_true.1 hk _ (List.mem_of_getElem? h1))
 ·rw[yD ha]at hk;rw[zm ha];exact uQ _ _ _ hk
def iO (kvs:List (V×V)):Array MapEntry:=(kvs.mapIdx fun i p=>({ key:=valOf p.1,val:=valOf p.2,born:=i } : MapEntry)).toArray
def nz (kvs:List (V×V)):Blk:=uk (.map (iO kvs) kvs.length)
def kG (σ:List (Nat×Nat))(kvs:List (V×V)):Blk.ren σ (nz kvs)=nz kvs:=rfl
def gI (σ:List (Nat×Nat))(kvs:List (V×V)):Blk.renOk σ (nz kvs)=true:=rfl
def C1 (kvs:List (V×V))(p:V×V):iO (kvs++[p])=(iO kvs).push { key:=valOf p.1,val:=valOf p.2,born:=kvs.length }:=by
 apply Array.ext'
 simp[iO]
def l0:V->V->Option Bool
 | .int k a,.int k' b=>if k=k' then some (a==b) else none
 | .str a,.str b=>some (a==b)
 | _,_=>none
def fZ (k:V):List (V×V)->Option (Option V)
 | []=>some none
 | p::r=>match l0 k p.1 with
  | some true=>some (some p.2)
  | some false=>fZ k r
  | none=>none
def lT:TypeDesc->V->Bool
 | .int _,.int _ _=>true
 | .string,.str _=>true
 | _,_=>false
def iA (P:Program)(t:TypeId)(k:V):Bool:=match P.underlying t with
 | some d=>lT d k
 | none=>false
def s8 {d:TypeDesc}{k q:V}{b:Bool}(hd:lT d k=true)(h:l0 k q=some b):Instr.sameNow d (valOf k) (valOf q)=some b:=by
 cases k<;>cases q<;>simp only[l0]at h<;>try (cases h;done)
 ·cases d<;>simp[lT]at hd
  simpa [Instr.sameNow,valOf,mc] using h
 ·cases d<;>simp[lT]at hd
  rename_i a c
  simp only[Instr.sameNow,valOf,mc]
  rw[<- h]
  congr 1
  show(a.toArray==c.toArray)=(a==c)
  simp
def Ah {d:TypeDesc}{k:V}(hd:lT d k=true):∀ {kvs:List (V×V)} {r:Option V} (f:Nat->Nat) (i:Nat),fZ k kvs=some r ->
  ∃ q,Instr.findNow d (valOf k) (kvs.mapIdx fun i p=>({ key:=valOf p.1,val:=valOf p.2,born:=f i } : MapEntry)) i=some q/\q.map (·.2)=r.map valOf:=by
 intro kvs
 induction kvs with
 | nil=>intro r f i h;simp only[fZ,Option.some.injEq]at h;subst h;exact⟨none,rfl,rfl⟩
 | cons p l ih =>
  intro r f i h
  simp only[fZ]at h
  rw[List.mapIdx_cons]
  cases hs:l0 k p.1 with
  | none=>rw[hs]at h;cases h
  | some b =>
   rw[hs]at h
   simp only[Instr.findNow,s8 hd hs]
   cases b with
   | true=>cases h;exact⟨_,rfl,rfl⟩
   | false=>exact ih (fun i=>f (i+1)) (i+1) h
def qS (k x:V):List (V×V)->List (V×V)
 | []=>[(k,x)]
 | p::r=>match l0 k p.1 with
  | some true=>(k,x)::r
  | _=>p::qS k x r
def mz {k x:V} : ∀ {kvs:List (V×V)},fZ k kvs=some none->qS k x kvs=kvs++[(k,x)]
 | [],_=>rfl
 | p::r,h=>by
  simp only[fZ]at h
  cases hs:l0 k p.1 with
  | none=>rw[hs]at h;cases h
  | some b =>
   cases b with
   | true=>rw[hs]at h;cases h
   | false=>rw[hs]at h;simp only[qS,hs,mz h,List.cons_append]
def KG {k q:V}(h:l0 k q=some true):q=k:=by
 cases k<;>cases q<;>simp only[l0]at h<;>try (cases h;done)
 ·split at h
  ·rename_i e;subst e;simp at h;rw[h]
  ·cases h
 ·simp at h;rw[h]
def x5 {d:TypeDesc}{k x:V}(hd:lT d k=true):∀ {kvs:List (V×V)} {v:V} (f:Nat->Nat) (i:Nat),fZ k kvs=some (some v) ->
  ∃ j p,kvs[j]? = some p/\p.1=k/\Instr.findNow d (valOf k) (kvs.mapIdx fun i p=>({ key:=valOf p.1,val:=valOf p.2,born:=f i } : MapEntry)) i=some (some (i+j,valOf v))/\qS k x kvs=kvs.set j (k,x):=by
 intro kvs
 induction kvs with
 | nil=>intro v f i h;cases h
 | cons p l ih =>
  intro v f i h
  simp only[fZ]at h
  rw[List.mapIdx_cons]
  cases hs:l0 k p.1 with
  | none=>rw[hs]at h;cases h
  | some b =>
   rw[hs]at h
   simp only[Instr.findNow,s8 hd hs,qS,hs]
   cases b with
   | true=>cases h;exact⟨0,p,rfl,KG hs,rfl,rfl⟩
   | false =>
    obtain⟨j,q,h1,h2,h3,h4⟩:=ih (fun i=>f (i+1)) (i+1) h
    exact⟨j+1,q,by simpa using h1,h2,by simp only;rw[h3];congr 3;omega,by simp only[h4,List.set_cons_succ]⟩
def sameBits_self {d:TypeDesc}{k:V}(hd:lT d k=true):Instr.sameBits 10000 (valOf k) (valOf k)=true:=by
 cases k<;>cases d<;>simp[lT]at hd<;>simp[valOf,mc,Instr.sameBits]
 rename_i s
 show(s.toArray==s.toArray)=true
 simp
def FJ {kvs:List (V×V)}{j:Nat}{k x:V}{p:V×V}(hp:kvs[j]? = some p):((iO kvs).modify j fun e=>{ e with key:=valOf k,val:=valOf x })=iO (kvs.set j (k,x)):=by
 have hj:=(List.getElem?_eq_some_iff.1 hp).1
 apply Array.ext'
 refine List.ext_getElem? fun i=>?_
 by_cases e:j=i
 ·subst e;simp[iO,List.getElem?_modify,hp,hj]
 ·simp[iO,List.getElem?_modify,e]
def nw {P:Program}{t:TypeId}{k:V}(h:iA P t k=true):∃ d,P.underlying t=some d/\lT d k=true:=by
 unfold iA at h
 split at h
 ·rename_i d hu;exact⟨d,hu,h⟩
 ·cases h
def AL (P:Program)(t:TypeId):Option (TypeId×TypeId):=match P.underlying t with
 | some (.map k e)=>some (k,e)
 | _=>none
def B9 {P:Program}{t k e:TypeId}(h:AL P t=some (k,e)):P.underlying t=some (.map k e):=by
 unfold AL at h
 split at h
 ·rename_i hu;cases h;exact hu
 ·cases h
def run_checkKey {P:Program}{w:World}{t:TypeId}{d:TypeDesc}{k:V}{em:Bool}(hu:P.underlying t=some d)(hd:lT d k=true){n:Nat} :
  (Instr.checkKey em (n+1) t (valOf k)).run P w = .ok () w:=by
 unfold Instr.checkKey
 have:=run_underlying hu w
 simp only[Sem.run_bind,this,Result.andThen_ok]
 cases d<;>cases k<;>simp[lT]at hd<;>rfl
def run_findKey {P:Program}{w:World}{t:TypeId}{k:V}{kvs:List (V×V)}{r:Option V}(hk:iA P t k=true)(hf:fZ k kvs=some r) :
  ∃ q,(Instr.findKey t (valOf k) (iO kvs).toList).run P w = .ok q w/\q.map (·.2)=r.map valOf:=by
 obtain⟨d,hu,hd⟩:=nw hk
 obtain⟨q,h1,h2⟩:=Ah hd (fun i=>i) 0 hf
 refine⟨q,?_,h2⟩
 unfold Instr.findKey
 have:=run_underlying hu w
 simp only[Sem.run_bind,this,Result.andThen_ok]
 rw[show(iO kvs).toList=kvs.mapIdx fun i p=>({ key:=valOf p.1,val:=valOf p.2,born:=i } : MapEntry) from rfl,h1]
 rfl
section
variable {cx:Cx} {Q:Post} {st:List Frm} {nm:Nat} {e:Env} {M:ao} {d:Bool} {fs:List (List Nat)} {ops r:List Oper} {dst:Option Tmp} {t:TypeId} {pos:String} {af:Array Edge} {gd:Option (Nat×Bool)} {i:Nat}
def run_makeMap {P:Program}{w:World}(t:TypeId):(Instr.makeMap t none).run P w = .ok (.map (some w.heap.size)) (w.alloc (.map #[] 0)):=by
 simp[Instr.makeMap,Sem.run_bind]
def Bj {P:Program}{w:World}{t kt et:TypeId}{b:Nat}{k x:V}{kvs:List (V×V)}{q:Option V}(ht:P.underlying t=some (.map kt et))(hk:iA P kt k=true)(hf:fZ k kvs=some q)(hh:w.heap[b]? = some (.map (iO kvs) kvs.length)) :
  (Instr.mapUpdate t (.map (some b)) (valOf k) (valOf x)).run P w = .ok () (setAt w b (.map (iO (qS k x kvs)) (qS k x kvs).length)):=by
 obtain⟨d,hu,hd⟩:=nw hk
 have hc:=run_checkKey (w:=w) (em:=false) hu hd (n:=9999)
 have hg:(getObj b).run P w = .ok (.map (iO kvs) kvs.length) w:=by simp[getObj,Sem.run,hh,Result.andThen]
 cases q with
 | none =>
  obtain⟨q,h1,h2⟩:=run_findKey (w:=w) hk hf
  have hq:q=none:=by cases q<;>simp at h2 ⊢
  subst hq
  rw[mz hf]
  simp only[Instr.mapUpdate,Sem.run_bind,run_underlying ht w,Result.andThen_ok,hg,hc,h1]
  simp[Go.setObj,setAt,C1,Sem.run,hh]
 | some v =>
  obtain⟨j,p,hp,hpk,h1,h2⟩:=x5 (x:=x) hd (fun i=>i) 0 hf
  have h3:(Instr.findKey kt (valOf k) (iO kvs).toList).run P w = .ok (some (j,valOf v)) w:=by
   unfold Instr.findKey
   simp only[Sem.run_bind,run_underlying hu w,Result.andThen_ok]
   rw[show(iO kvs).toList=kvs.mapIdx fun i p=>({ key:=valOf p.1,val:=valOf p.2,born:=i } : MapEntry) from rfl,h1]
   simp
  have h4:(((iO kvs)[j]?).map (·.key)).getD (valOf k)=valOf k:=by
   have:(iO kvs)[j]? = some { key:=valOf p.1,val:=valOf p.2,born:=j }:=by simp[iO,hp]
   rw[this,<- hpk];rfl
  have h5:(Instr.keyThatStays (valOf k) (valOf k)).run P w = .ok (valOf k) w:=by
   unfold Instr.keyThatStays
   rw[if_pos (sameBits_self hd)];rfl
  rw[h2,List.length_set]
  simp only[Instr.mapUpdate,Sem.run_bind,run_underlying ht w,Result.andThen_ok,hg,hc,h3,h4,h5,FJ hp]
  simp[Go.setObj,setAt,Sem.run,hh]
def Bi {P:Program}{w:World}{t kt et:TypeId}{b:Nat}{k:V}{kvs:List (V×V)}{q:Option V}{z:Value}(ht:P.underlying t=some (.map kt et))(hk:iA P kt k=true)(hf:fZ k kvs=some q)(hh:w.heap[b]? = some (.map (iO kvs) kvs.length))
  (hz:((P.info? et).bind (·.zero))=some z) (ok:Bool) :
  (Instr.lookup t (.map (some b)) (valOf k) ok).run P w = .ok (if ok then .tuple #[(q.map valOf).getD z,.bool q.isSome] else (q.map valOf).getD z) w:=by
 obtain⟨d,hu,hd⟩:=nw hk
 obtain⟨q',h1,h2⟩:=run_findKey (w:=w) hk hf
 have hc:=run_checkKey (w:=w) (em:=(iO kvs).isEmpty) hu hd (n:=9999)
 have hg:(getObj b).run P w = .ok (.map (iO kvs) kvs.length) w:=by simp[getObj,Sem.run,hh,Result.andThen]
 have hzz:(zeroValue et).run P w = .ok z w:=by
  obtain⟨inf,a1,a2⟩:=Option.bind_eq_some_iff.1 hz
  simp[zeroValue,typeInfo,a1,a2]
 simp only[Instr.lookup,Sem.run_bind,run_underlying ht w,Result.andThen_ok,hg,Sem.run_pure,hc,h1]
 cases q' with
 | none =>
  cases q with
  | none=>simp[hzz,Sem.run_bind]
  | some v=>simp at h2
 | some p =>
  cases q with
  | none=>simp at h2
  | some v =>
   simp only[Option.map_some,Option.some.injEq]at h2
   simp[<- h2]
def qm {ty:TypeId}(h:aG cx Q st nm (e.putD dst (.mp (nm+16*i))) (M.app [(nm+16*i,some (nz []))]) d (fs++[[nm+16*i]]) ops r (i+1)):cM cx Q st nm e M d fs ops ⟨dst,.makeMap ty none,t,pos,af,gd⟩ r i:=by
 refine⟨_,_,_,⟨fun x hx=>hx,fun x hx=>?_,fun _=>rfl,fun _=>rfl,?_⟩,h⟩
 ·simp only[ak,List.map_cons,List.map_nil,List.mem_singleton]at hx
  subst hx;exact .inr ⟨Nat.le_refl _,by omega⟩
 ·intro N X w0 I ρ e' M' a w hr he hin hev _ hf
  obtain⟨f1,f2⟩:=hf (nm+16*i) ⟨Nat.le_refl _,by omega⟩
  refine⟨_,_,(Rel.newObj (v:=.mp (nm+16*i)) hr f1 f2 (.map #[] 0) (cv:=.map (some w.heap.size)) (fun ρ D w' hl=>.mp hl)).n,jd (s:=Instr.makeMap ty none) rfl ?_⟩
  exact run_makeMap ty
def Ls {ρ:Names}{D:Nat->Prop}{w:World}{y:Nat}{cv:Value}(h:Is ρ D w (.mp y) cv):∃ l,ρ y=some l/\cv = .map (some l.b):=by
 cases h with
 | mp hl=>exact⟨_,hl,rfl⟩
def qk {o:Oper}{ty:TypeId}{m k x:Operand}(ho:o.op = .mapUpdate ty m k x\/o.op = .insert ty m k x){y:Nat}{kv xv:V}{kvs:List (V×V)}{kt et:TypeId}{n:Nat}{q:Option V}(hm:ax cx.G true e m = .mp y)(hM:M y=some (nz kvs))(hk:ax cx.G true e k=kv)(hx:ax cx.G true e x=xv)
  (ht:AL cx.P ty=some (kt,et)) (hkk:iA cx.P kt kv=true) (kk:known kv=true) (kx:known xv=true) (hf:fZ kv kvs=some q) :
  ExtDoes cx o n e M .any [(y,some (nz (qS kv xv kvs)))] [y]:=by
 have hops:o.op.operands.toList=[m,k,x]:=by rcases ho with h|h<;>rw[h]<;>rfl
 refine⟨fun x hx=>hx,fun x hx=>?_,fun _=>by rcases ho with h|h<;>rw[h]<;>rfl,fun _=>by rcases ho with h|h<;>rw[h]<;>rfl,?_⟩
 ·simp only[ak,List.map_cons,List.map_nil,List.mem_singleton]at hx
  subst hx;exact .inl (by rw[hM];rfl)
 ·intro N X w0 I ρ e' M' a w hr he hin hev hMM hfr
  have hM':M' y=some (nz kvs):=by rw[hMM y (List.mem_singleton.2 rfl)];exact hM
  have e1:=he.eval hr (c:=true) rfl (hin m (by rw[hops];simp))
  rw[hev m (by rw[hops];simp),hm]at e1
  obtain⟨l,hl,hcv⟩:=Ls e1
  have e2:=he.eval hr (c:=true) rfl (hin k (by rw[hops];simp))
  rw[hev k (by rw[hops];simp),hk]at e2
  have e3:=he.eval hr (c:=true) rfl (hin x (by rw[hops];simp))
  rw[hev x (by rw[hops];simp),hx]at e3
  obtain⟨hh,hz,htt,h0⟩:=sO hr hM' hl
  obtain⟨g1,g2⟩:=Rel.setObj hr hM' hl (o':=.map (iO (qS kv xv kvs)) (qS kv xv kvs).length)
  refine⟨undef,setAt w l.b (.map (iO (qS kv xv kvs)) (qS kv xv kvs).length),⟨ρ,g1,g2,.any _,fun _ _=>rfl⟩,?_⟩
  have hrun:=Bj (x:=xv) (B9 ht) hkk hf hh
  have hex:execOp a.eval o=(do (Instr.mapUpdate ty (a.eval m) (a.eval k) (a.eval x));pure .skip):=by
   obtain⟨dst,op,ty',pos,af,gd⟩:=o
   rcases ho with h|h<;>(simp only at h;subst h;rfl)
  intro K Q hK
  unfold Oper.wp
  rw[hex,hcv,tB kk e2,tB kx e3]
  simp only[Sem.run_bind,hrun,Result.andThen_ok,Sem.run_pure]
  exact hK
def sf {ty:TypeId}{m k x:Operand}{y:Nat}{kv xv:V}{kvs:List (V×V)}{kt et:TypeId}(hm:ax cx.G true e m = .mp y)(hM:M y=some (nz kvs))(hk:ax cx.G true e k=kv)(hx:ax cx.G true e x=xv)
  (ht:AL cx.P ty=some (kt,et)) (hkk:iA cx.P kt kv=true) (kk:known kv=true) (kx:known xv=true) (hf:fZ kv kvs=some none)
  (h:aG cx Q st nm (e.putD dst .any) (M.app [(y,some (nz (kvs++[(kv,xv)])))]) d (fs++[[y]]) ops r (i+1)):cM cx Q st nm e M d fs ops ⟨dst,.insert ty m k x,t,pos,af,gd⟩ r i :=
 ⟨_,_,_,qk (.inr rfl) hm hM hk hx ht hkk kk kx hf,by rw[mz hf];exact h⟩
def mS {ty:TypeId}{m k x:Operand}{y:Nat}{kv xv:V}{kvs:List (V×V)}{kt et:TypeId}(hm:ax cx.G true e m = .mp y)(hM:M y=some (nz kvs))(hk:ax cx.G true e k=kv)(hx:ax cx.G true e x=xv)
  (ht:AL cx.P ty=some (kt,et)) (hkk:iA cx.P kt kv=true) (kk:known kv=true) (kx:known xv=true) (hf:fZ kv kvs=some none)
  (h:aG cx Q st nm (e.putD dst .any) (M.app [(y,some (nz (kvs++[(kv,xv)])))]) d (fs++[[y]]) ops r (i+1)):cM cx Q st nm e M d fs ops ⟨dst,.mapUpdate ty m k x,t,pos,af,gd⟩ r i :=
 ⟨_,_,_,qk (.inl rfl) hm hM hk hx ht hkk kk kx hf,by rw[mz hf];exact h⟩
def zeroOf (P:Program)(t:TypeId):Option Value:=(P.info? t).bind (·.zero)
def Mx (z:Value)(q:Option V)(ok:Bool):V:=if ok then .tup [q.getD (J6 z),.bool q.isSome] else q.getD (J6 z)
def sg {ty:TypeId}{m k:Operand}{ok:Bool}{y:Nat}{kv:V}{kvs:List (V×V)}{kt et:TypeId}{q:Option V}{z:Value}(hm:ax cx.G true e m = .mp y)(hM:M y=some (nz kvs))(hk:ax cx.G true e k=kv)
  (ht:AL cx.P ty=some (kt,et)) (hkk:iA cx.P kt kv=true) (kk:known kv=true) (hz:zeroOf cx.P et=some z) (hf:fZ kv kvs=some q) (hq:∀ v,q=some v->known v=true)
  (h:aG cx Q st nm (e.putD dst (Mx z q ok)) M d (fs++[[y]]) ops r (i+1)):cM cx Q st nm e M d fs ops ⟨dst,.lookup ty m k ok,t,pos,af,gd⟩ r i:=by
 refine⟨_,[],_,⟨fun x hx=>by simp[ak]at hx,fun x hx=>by simp[ak]at hx,fun h=>absurd rfl h,fun _=>rfl,?_⟩,h⟩
 intro N X w0 I ρ e' M' a w hr he hin hev hMM hfr
 have hops:(Op.lookup ty m k ok).operands.toList=[m,k]:=rfl
 have hM':M' y=some (nz kvs):=by rw[hMM y (List.mem_singleton.2 rfl)];exact hM
 have e1:=he.eval hr (c:=true) rfl (hin m (by rw[hops];simp))
 rw[hev m (by rw[hops];simp),hm]at e1
 obtain⟨l,hl,hcv⟩:=Ls e1
 have e2:=he.eval hr (c:=true) rfl (hin k (by rw[hops];simp))
 rw[hev k (by rw[hops];simp),hk]at e2
 obtain⟨hh,_,_,_⟩:=sO hr hM' hl
 have hrun:=Bi (B9 ht) hkk hf hh hz ok
 have hv:∀ D,Is ρ D w (q.getD (J6 z)) ((q.map valOf).getD z):=fun D=>by
  cases q with
  | none=>exact Gs _ _ _ _
  | some v=>exact Gu _ _ _ (hq v rfl)
 refine⟨_,w,(cV.still (nm:=nm+16*i) (cv:=if ok then .tuple #[(q.map valOf).getD z,.bool q.isSome] else (q.map valOf).getD z) hr ?_).n,jd (s:=Instr.lookup ty (a.eval m) (a.eval k) ok) rfl ?_⟩
 ·unfold Mx
  cases ok with
  | false=>exact hv _
  | true =>
   refine .tup rfl (fun i u cv hi hc=>?_)
   match i with
   | 0=>simp at hi hc;subst hi;subst hc;exact hv _
   | 1=>simp at hi hc;subst hi;subst hc;exact .bool _
   | i+2=>simp at hi
 ·rw[hcv,tB kk e2];exact hrun
end
section
variable {cx:Cx} {f:FuncId} {nm:Nat} {args:List V} {M:ao} {v:V} {eff:List (Nat×Option Blk)}
def Ev.frame (l:List Nat)(h:Ev cx f nm args (M.only l) v eff)(heff:∀ x∈ak eff,x∈l\/cm nm x)(hfr:∀ x,cm nm x->M x=none):Ev cx f nm args M v eff:=by
 refine⟨h.1,fun X w ρ cargs B hr hf hB hn hargs=>(h.2 (FX X ρ M l) w ρ cargs B (hr.focus l) hf (fun x hx=>⟨by unfold ao.only;simp[(hB x hx).1],(hB x hx).2⟩) hn (fun i u cv hi hc=>(hargs i u cv hi hc).focus)).mono ?_⟩
 rintro e w' ⟨cv,rfl,hs⟩
 exact⟨cv,rfl,hr.unfocus hfr heff hs⟩
def ao.app_drop {y:Nat} : ∀ {eff:List (Nat×Option Blk)} {M:ao},∀ x k,(M.app ((y,none)::eff)) x=some k->(M.app eff) x=some k:=by
 intro eff
 induction eff with
 | nil =>
  intro M x k h
  simp only[ao.app]at h ⊢
  by_cases e:x=y
  ·subst e;rw[ao.put_same]at h;cases h
  ·rwa[ao.put_ne _ _ e]at h
 | cons p r ih =>
  intro M x k h
  obtain⟨z,kz⟩:=p
  simp only[ao.app]at h ⊢
  by_cases hx:x∈ak r
  ·rw[<- h];exact ao.app_congr (fun hn=>absurd hx hn)
  ·rw[ao.app_of_notin hx]at h ⊢
   by_cases e:x=z
   ·subst e;rw[ao.put_same]at h ⊢;exact h
   ·rw[ao.put_ne _ _ e]at h ⊢
    by_cases e2:x=y
    ·subst e2;rw[ao.put_same]at h;cases h
    ·rwa[ao.put_ne _ _ e2]at h
def Ev.dropM (y:Nat)(h:Ev cx f nm args M v eff):Ev cx f nm args M v ((y,none)::eff):=by
 refine⟨h.1,fun X w ρ cargs B hr hf hB hn hargs=>(h.2 X w ρ cargs B hr hf hB hn hargs).mono ?_⟩
 rintro e w' ⟨cv,rfl,ρ',r,m,hv,hnn⟩
 obtain⟨r1,m1⟩:=r.drop (M':=M.app ((y,none)::eff)) (fun x k hk=>ao.app_drop x k hk)
 exact⟨cv,rfl,ρ',r1,m.trans m1,m1.is hv,hnn⟩
def Ev.eff_eq {eff':List (Nat×Option Blk)}(h:Ev cx f nm args M v eff)(he:M.app eff=M.app eff'):Ev cx f nm args M v eff':=by
 refine⟨h.1,fun X w ρ cargs B hr hf hB hn hargs=>?_⟩
 have:=h.2 X w ρ cargs B hr hf hB hn hargs
 rw[he]at this
 exact this
end
def iG (z:Value)(q:Option V):Mx z q true = .tup [q.getD (J6 z),.bool q.isSome]:=rfl
mutual
def pB (σ:List (Nat×Nat))(M:ao):∀ v:V,v.plain=true->v.fin σ M=v/\v.finOk σ M
 | .agg cs,h=>by
  simp only[V.plain]at h
  obtain⟨h1,h2⟩:=finL_plain σ M cs h
  simp only[V.fin,V.finOk,h1];exact⟨trivial,h2⟩
 | .tup cs,h=>by
  simp only[V.plain]at h
  obtain⟨h1,h2⟩:=finL_plain σ M cs h
  simp only[V.fin,V.finOk,h1];exact⟨trivial,h2⟩
 | .fn f cs,h=>by
  simp only[V.plain]at h
  obtain⟨h1,h2⟩:=finL_plain σ M cs h
  simp only[V.fin,V.finOk,h1];exact⟨trivial,h2⟩
 | .fnb f cs,h=>by
  simp only[V.plain]at h
  obtain⟨h1,h2⟩:=finL_plain σ M cs h
  simp only[V.fin,V.finOk,h1];exact⟨trivial,h2⟩
 | .gd b v,h=>by
  simp only[V.plain]at h
  obtain⟨h1,h2⟩:=pB σ M v h
  simp only[V.fin,V.finOk,h1];exact⟨trivial,h2⟩
 | .iface t v,h=>by
  simp only[V.plain]at h
  obtain⟨h1,h2⟩:=pB σ M v h
  simp only[V.fin,V.finOk,h1];exact⟨trivial,h2⟩
 | .rp cs,h=>by simp only[V.plain]at h;simp only[V.fin,V.finOk];exact⟨trivial,h⟩
 | .sl t s rows,h=>by simp only[V.plain]at h;simp only[V.fin,V.finOk];exact⟨trivial,h⟩
 | .ys t s rows,h=>by simp only[V.plain]at h;simp only[V.fin,V.finOk];exact⟨trivial,h⟩
 | .own _ _ _,h | .ownc _ _ _ _,h | .ptr _ _ _,h | .chan _,h | .mp _,h=>by simp[V.plain]at h
 | .any,_ | .bool _,_ | .bit _ _,_ | .int _ _,_ | .str _,_ | .nilp,_ | .upt,_ | .nils,_ | .val _,_=>⟨by simp only[V.fin],by simp only[V.finOk]⟩
def finL_plain (σ:List (Nat×Nat))(M:ao):∀ cs:List V,plainL cs=true->finL σ M cs=cs/\finLOk σ M cs
 | [],_=>⟨by simp only[finL],by simp only[finLOk]⟩
 | v::r,h=>by
  simp only[plainL,Bool.and_eq_true]at h
  obtain⟨h1,h2⟩:=pB σ M v h.1
  obtain⟨h3,h4⟩:=finL_plain σ M r h.2
  simp only[finL,finLOk,h1,h3]
  exact⟨trivial,h2,h4⟩
end
def jj (σ:List (Nat×Nat))(M:ao)(rows:List (List V)):List (List V):=rows.map (finL σ M)
def fY (σ:List (Nat×Nat))(M:ao)(rows:List (List V)):Prop:=∀ r∈rows,finLOk σ M r
def C6 (σ:List (Nat×Nat))(M:ao):jj σ M []=[]:=rfl
def Af (σ:List (Nat×Nat))(M:ao)(r:List V)(rows:List (List V)):jj σ M (r::rows)=finL σ M r::jj σ M rows:=rfl
def oq (σ:List (Nat×Nat))(M:ao)(a b:List (List V)):jj σ M (a++b)=jj σ M a++jj σ M b:=List.map_append
def qo (σ:List (Nat×Nat))(M:ao){rows:List (List V)}(h:plainLL rows=true):jj σ M rows=rows:=by
 unfold jj
 rw[c9,List.all_eq_true]at h
 conv=>rhs;rw[<- List.map_id rows]
 exact List.map_congr_left (fun r hr=>(finL_plain σ M r (h r hr)).1)
def x4 (σ:List (Nat×Nat))(M:ao):fY σ M []=True:=eq_true (fun r hr=>by simp at hr)
def vY (σ:List (Nat×Nat))(M:ao)(r:List V)(rows:List (List V)):fY σ M (r::rows)=(finLOk σ M r/\fY σ M rows):=by
 unfold fY;simp
def lI (σ:List (Nat×Nat))(M:ao)(a b:List (List V)):fY σ M (a++b)=(fY σ M a/\fY σ M b):=by
 unfold fY
 simp only[List.mem_append,eq_iff_iff]
 exact⟨fun h=>⟨fun r hr=>h r (.inl hr),fun r hr=>h r (.inr hr)⟩,fun h r hr=>hr.elim (h.1 r) (h.2 r)⟩
def tW (σ:List (Nat×Nat))(M:ao){rows:List (List V)}(h:plainLL rows=true):fY σ M rows=True:=by
 rw[c9,List.all_eq_true]at h
 exact eq_true (fun r hr=>(finL_plain σ M r (h r hr)).2)
def D4 (o:Ob):Ob.le o o=True:=eq_true (.inl rfl)
def fL (x y:List V)(xs ys:List (List V)):il (x::xs) (y::ys)=(leL x y/\il xs ys):=rfl
def lP {a b c:List (List V)}(h:il b c):il (a++b) (a++c):=by
 induction a with
 | nil=>exact h
 | cons x a ih=>exact⟨leL_refl x,ih⟩
def tX (σ:List (Nat×Nat))(M:ao)(k0 k:Blk):Prop:=sZ σ k0 k\/(k0.ob.isRow=true/\fY σ M k0.rows/\k0.sz=k.sz/\k0.ob.le k.ob/\il (jj σ M k0.rows) k.rows)
def mr {cx:Cx}(σ:List (Nat×Nat))(M:ao):E9 (tX σ M) σ M cx:=fun X w0 I ρ ρ' D' w hr hnew hdom hout k0 k h=>by
 rcases h with h|⟨h1,h2,h3,h4,h5⟩
 ·exact uT σ M X w0 I ρ ρ' D' w hr hnew hdom hout k0 k h
 ·obtain⟨f1,f2⟩:=oD h5
  have hlen:k.rows.length=k0.rows.length:=by rw[<- f1];simp[jj]
  refine⟨fun l hb=>?_,fun hz=>by rw[hz]at hlen;exact List.eq_nil_of_length_eq_zero (by simpa using hlen)⟩
  rcases hb with ⟨cs,e,g1,g2,g3,g4,g5,g6,g7⟩|⟨o,_,msgs,buf,_,_,g1,_⟩
  ·refine .inl ⟨cs,e,Ob.le_ok g1 h4,g2,by rw[<- h3];exact g3,by rw[hlen];exact g4,g5,fun i row hi=>?_,fun i j row u hi hj=>?_⟩
   ·obtain⟨x,q1,q2⟩:=f2 i row hi
    unfold jj at q1
    rw[List.getElem?_map]at q1
    obtain⟨row',q3,rfl⟩:=Option.map_eq_some_iff.1 q1
    rw[<-(ks q2).1,cY];exact g6 i row' q3
   ·obtain⟨x,q1,q2⟩:=f2 i row hi
    unfold jj at q1
    rw[List.getElem?_map]at q1
    obtain⟨row',q3,rfl⟩:=Option.map_eq_some_iff.1 q1
    obtain⟨v,q4,q5⟩:=(ks q2).2 j u hj
    rw[fg]at q4
    obtain⟨v',q6,rfl⟩:=Option.map_eq_some_iff.1 q4
    obtain⟨cv,c1,c2⟩:=g7 i j row' v' q3 q6
    exact⟨cv,c1,(ni (cx:=cx) hr hnew hdom hout c2 (dE (h2 row' (List.mem_of_getElem? q3)) q6)).le u q5⟩
  ·exfalso
   cases ho:k0.ob with
   | cells=>rw[ho]at g1;exact g1
   | typed t=>rw[ho]at g1;exact g1
   | chan a b c=>rw[ho]at h1;cases h1
   | obj o=>rw[ho]at h1;cases h1
section
variable {cx:Cx} {Q:Post} {st:List Frm} {nm:Nat} {e:Env} {M:ao}
def zB (hG:∀ g,(cx.G g).plain=true){α:Type}{μ:α->Nat}{P:α->Prop}{nmS:Nat}{Es:α->List (Nat×V)}{Ms:α->List (Nat×Blk)}{g:Nat}(x:α)(src:List (Option Nat))(hg:μ x<g)(h0:P x)(hb:Q.b0<=nmS)
  (hM:ib (tX (dj (b8 (Ms x) src)) M) Q.b0 nmS M (b8 (Ms x) src)) (hE:ju M (dj (b8 (Ms x) src)) e (Es x)):eu cx Q (.again (nU μ P nmS Es Ms) g::st) nm e M .normal :=
 xi (μ x) hg (j7 hG src (mr _ _) hb hM hE) ⟨x,rfl,h0,rfl,rfl,rfl⟩
def DM {c:Code}(hG:∀ g,(cx.G g).plain=true){α:Type}(μ:α->Nat)(P:α->Prop)(nmS:Nat)(Es:α->List (Nat×V))(Ms:α->List (Nat×Blk))(x0:α)(src:List (Option Nat))(h0:P x0)(hb:Q.b0<=nmS)
  (hM:ib (tX (dj (b8 (Ms x0) src)) M) Q.b0 nmS M (b8 (Ms x0) src)) (hE:ju M (dj (b8 (Ms x0) src)) e (Es x0))
  (hr:∀ x,P x->go cx Q (.again (nU μ P nmS Es Ms) (μ x)::st) nmS (jv (Es x)) (gl (Ms x)) c):lJ cx Q st nm e M c :=
 B7 (nU μ P nmS Es Ms) (μ x0) (j7 hG src (mr _ _) hb hM hE) ⟨x0,rfl,h0,rfl,rfl,rfl⟩ (by rintro g nm e M ⟨x,rfl,hP,rfl,rfl,rfl⟩;exact hr x hP)
end
end Go.Proofs.YtjonibipieofcaaGreatDoor.Vm
namespace Go.Proofs.YtjonibipieofcaaGreatDoor.Vm
open And renaming intro->Ai
open Go Go.RowKit
set_option linter.defProp false
def PH :=
 (Ai (Ai (Ai (Ai @bz @bT) (Ai @aH (Ai @aO @Go.maxLen.eq_1))) (Ai (Ai @forall_eq'.{1} (Ai @forall_eq'.{0} @exists_eq'.{1})) (Ai @exists_eq'.{0} (Ai @Prod.mk.injEq.{0,0} @Bool.true_or)))) (Ai (Ai (Ai @Bool.false_or @Bool.or_true) (Ai @Bool.or_false (Ai @Bool.true_and @Bool.false_and))) (Ai (Ai @Bool.and_false (Ai @AX @Eb)) (Ai @ye (Ai @Option.bind_some.{0,0} @Option.bind_none.{0,0})))))
def am:=PH
def NG :=
 (Ai (Ai (Ai (Ai @ib.eq_1 (Ai @ib.eq_2 @ib.eq_3)) (Ai @sZ.eq_1 (Ai @ju.eq_1 @ju.eq_2))) (Ai (Ai @Nat.lt_add_right_iff_pos (Ai @Nat.add_lt_add_iff_left @yE)) (Ai @sF (Ai @az @il.eq_1)))) (Ai (Ai (Ai @il.eq_2 (Ai @b8.eq_1 @b8.eq_2)) (Ai @b8.eq_3 (Ai @dj.eq_1 @dj.eq_2))) (Ai (Ai @dj.eq_3 (Ai @BU @bz)) (Ai @bT (Ai @aH @aO)))))
def NH :=
 (Ai (Ai (Ai (Ai @Hu (Ai @y5 @hU.eq_1)) (Ai @fp.eq_1 (Ai @renL.eq_1 @renL.eq_2))) (Ai (Ai @renOkL.eq_1 (Ai @renOkL.eq_2 @V.ren.eq_1)) (Ai @V.ren.eq_2 (Ai @V.ren.eq_3 @V.ren.eq_4)))) (Ai (Ai (Ai @V.ren.eq_5 (Ai @V.ren.eq_6 @V.ren.eq_7)) (Ai @V.ren.eq_8 (Ai @V.ren.eq_9 @V.ren.eq_10))) (Ai (Ai @V.ren.eq_11 (Ai @V.ren.eq_12 @V.renOk.eq_1)) (Ai @V.renOk.eq_2 (Ai @V.renOk.eq_3 @V.renOk.eq_4)))))
def NI :=
 (Ai (Ai (Ai (Ai @V.renOk.eq_5 (Ai @V.renOk.eq_6 @V.renOk.eq_7)) (Ai @V.renOk.eq_8 (Ai @V.renOk.eq_9 @V.renOk.eq_10))) (Ai (Ai @V.renOk.eq_11 (Ai @V.renOk.eq_12 @V.renOk.eq_13)) (Ai @V.renOk.eq_14 (Ai @V.renOk.eq_15 @V.fin.eq_1)))) (Ai (Ai (Ai @V.fin.eq_2 (Ai @V.fin.eq_3 @V.fin.eq_4)) (Ai @V.fin.eq_5 (Ai @V.fin.eq_6 @V.fin.eq_7))) (Ai (Ai @V.fin.eq_8 (Ai @V.fin.eq_9 @V.fin.eq_10)) (Ai @V.fin.eq_11 (Ai @V.fin.eq_12 @V.finOk.eq_1)))))
def NJ :=
 (Ai (Ai (Ai (Ai @V.finOk.eq_2 (Ai @V.finOk.eq_3 @V.finOk.eq_4)) (Ai @V.finOk.eq_5 (Ai @V.finOk.eq_6 @V.finOk.eq_7))) (Ai (Ai @V.finOk.eq_8 (Ai @V.finOk.eq_9 @V.finOk.eq_10)) (Ai @V.finOk.eq_11 (Ai @V.finOk.eq_12 @V.finOk.eq_13)))) (Ai (Ai (Ai @finL.eq_1 (Ai @finL.eq_2 @finLOk.eq_1)) (Ai @finLOk.eq_2 (Ai @dT @eV))) (Ai (Ai @List.mem_cons.{0} (Ai @List.not_mem_nil.{0} @forall_eq.{1})) (Ai @forall_eq.{0} (Ai @forall_eq_or_imp.{1} @forall_eq_or_imp.{0})))))
def NK :=
 (Ai (Ai (Ai @ne_eq.{1} @ne_eq.{0}) (Ai @not_false_eq_true (Ai @not_true_eq_false @Bool.or_true))) (Ai (Ai @Bool.true_or (Ai @Bool.false_or @Bool.or_false)) (Ai @oC (Ai @Option.some.injEq.{0} @Nat.le_add_right))))
def aE:=(Ai (Ai NG NH) (Ai NI (Ai NJ NK)))
def LZ :=
 (Ai (Ai (Ai (Ai @tX.eq_1 @C6) (Ai @Af @oq)) (Ai (Ai @x4 @vY) (Ai @lI @D4))) (Ai (Ai (Ai @fL @true_or) (Ai @or_true @false_or)) (Ai (Ai @or_false @eq_self.{1}) (Ai @eq_self.{0} (Ai @and_true @true_and)))))
def cL:=LZ
def O8 :=
 (Ai (Ai (Ai (Ai @tgt.eq_1 (Ai @bt.eq_1 @pC.eq_1)) (Ai @pC.eq_2 (Ai @pC.eq_3 @Gi.eq_1))) (Ai (Ai @FG.eq_1 (Ai @Hu @y5)) (Ai @hU.eq_1 (Ai @fp.eq_1 @renL.eq_1)))) (Ai (Ai (Ai @renL.eq_2 (Ai @renOkL.eq_1 @renOkL.eq_2)) (Ai @V.ren.eq_1 (Ai @V.ren.eq_2 @V.ren.eq_3))) (Ai (Ai @V.ren.eq_4 (Ai @V.ren.eq_5 @V.ren.eq_6)) (Ai @V.ren.eq_7 (Ai @V.ren.eq_8 @V.ren.eq_9)))))
def O9 :=
 (Ai (Ai (Ai (Ai @V.ren.eq_10 (Ai @V.ren.eq_11 @V.ren.eq_12)) (Ai @V.renOk.eq_1 (Ai @V.renOk.eq_2 @V.renOk.eq_3))) (Ai (Ai @V.renOk.eq_4 (Ai @V.renOk.eq_5 @V.renOk.eq_6)) (Ai @V.renOk.eq_7 (Ai @V.renOk.eq_8 @V.renOk.eq_9)))) (Ai (Ai (Ai @V.renOk.eq_10 (Ai @V.renOk.eq_11 @V.renOk.eq_12)) (Ai @V.renOk.eq_13 (Ai @V.renOk.eq_14 @V.renOk.eq_15))) (Ai (Ai @dT (Ai @eV @List.mem_cons.{0})) (Ai @List.not_mem_nil.{0} (Ai @forall_eq.{1} @forall_eq.{0})))))
def Pa :=
 (Ai (Ai (Ai @forall_eq_or_imp.{1} @forall_eq_or_imp.{0}) (Ai @ne_eq.{1} (Ai @ne_eq.{0} @not_false_eq_true))) (Ai (Ai @not_true_eq_false (Ai @Nat.le_add_right @Bool.or_true)) (Ai @Bool.true_or (Ai @Bool.false_or @Bool.or_false))))
def jK:=(Ai O8 (Ai O9 Pa))
def Ot :=
 (Ai (Ai (Ai (Ai @An (Ai @x7 @mX.eq_1)) (Ai @mX.eq_2 (Ai @HH.eq_1 @oY.eq_1))) (Ai (Ai @HI (Ai @EC @Ix)) (Ai @E8 (Ai @V.owns.eq_1 @V.owns.eq_2)))) (Ai (Ai (Ai @V.owns.eq_3 (Ai @V.owns.eq_4 @ownsL.eq_1)) (Ai @ownsL.eq_2 (Ai @dT @eV))) (Ai (Ai @List.mem_cons.{0} (Ai @List.not_mem_nil.{0} @or_false)) (Ai @forall_eq.{1} (Ai @forall_eq.{0} @forall_eq_or_imp.{1})))))
def Ou :=
 (Ai (Ai @forall_eq_or_imp.{0} (Ai @ne_eq.{1} @ne_eq.{0})) (Ai @Nat.le_add_right (Ai @not_false_eq_true @not_true_eq_false)))
def qR:=(Ai Ot Ou)
def Oo :=
 (Ai (Ai @kB (Ai @List.mem_cons.{0} @List.not_mem_nil.{0})) (Ai (Ai @forall_eq.{1} @forall_eq.{0}) (Ai @forall_eq_or_imp.{1} @forall_eq_or_imp.{0})))
def ap:=Oo
def N5 :=
 (Ai (Ai (Ai @V.bool.injEq @V.int.injEq) (Ai @V.str.injEq (Ai @V.agg.injEq @V.tup.injEq))) (Ai (Ai @V.sl.injEq (Ai @V.own.injEq @List.cons.injEq.{0})) (Ai @and_true (Ai @true_and @and_self))))
def aq:=N5
def N2 :=
 (Ai (Ai (Ai @finL.eq_1 (Ai @finL.eq_2 @V.fin.eq_1)) (Ai (Ai @V.fin.eq_2 @V.fin.eq_3) (Ai @V.fin.eq_4 @V.fin.eq_5))) (Ai (Ai (Ai @V.fin.eq_6 @V.fin.eq_7) (Ai @V.fin.eq_8 @V.fin.eq_9)) (Ai (Ai @V.fin.eq_10 @V.fin.eq_11) (Ai @V.fin.eq_12 @dT))))
def au:=N2
def zA {cx:Cx}{Q:Post}{st:List Frm}{nm:Nat}{e:Env}{M:ao}(hG:∀ g,(cx.G g).plain=true){α:Type}{μ:α->Nat}{P:α->Prop}{nmS:Nat}{Es:α->List (Nat×V)}{Ms:α->List (Nat×Blk)}{g:Nat}(x:α)(src:List (Option Nat))(hg:μ x<g)(h0:P x)(hb:Q.b0<=nmS)(hME:ib (sZ (dj (b8 (Ms x) src))) Q.b0 nmS M (b8 (Ms x) src)/\ju M (dj (b8 (Ms x) src)) e (Es x)):eu cx Q (.again (nU μ P nmS Es Ms) g::st) nm e M .normal:=CA hG x src hg h0 hb hME.1 hME.2
def DL {cx:Cx}{Q:Post}{st:List Frm}{nm:Nat}{e:Env}{M:ao}{c:Code}(hG:∀ g,(cx.G g).plain=true){α:Type}(μ:α->Nat)(P:α->Prop)(nmS:Nat)(Es:α->List (Nat×V))(Ms:α->List (Nat×Blk))(x0:α)(src:List (Option Nat))(h0:P x0)(hb:Q.b0<=nmS)(hME:ib (sZ (dj (b8 (Ms x0) src))) Q.b0 nmS M (b8 (Ms x0) src)/\ju M (dj (b8 (Ms x0) src)) e (Es x0))(hr:∀ x,P x->go cx Q (.again (nU μ P nmS Es Ms) (μ x)::st) nmS (jv (Es x)) (gl (Ms x)) c):lJ cx Q st nm e M c:=GI hG μ P nmS Es Ms x0 src h0 hb hME.1 hME.2 hr
def xh {cx:Cx}{Q:Post}{st:List Frm}{nm:Nat}{e:Env}{M:ao}(hG:∀ g,(cx.G g).plain=true){α:Type}{μ:α->Nat}{P:α->Prop}{nmS:Nat}{Es:α->List (Nat×V)}{Ms:α->List (Nat×Blk)}{g:Nat}(x:α)(src:List (Option Nat))(hg:μ x<g)(h0:P x)(hb:Q.b0<=nmS)(hME:ib (tX (dj (b8 (Ms x) src)) M) Q.b0 nmS M (b8 (Ms x) src)/\ju M (dj (b8 (Ms x) src)) e (Es x)):eu cx Q (.again (nU μ P nmS Es Ms) g::st) nm e M .normal:=zB hG x src hg h0 hb hME.1 hME.2
def AJ {cx:Cx}{Q:Post}{st:List Frm}{nm:Nat}{e:Env}{M:ao}{c:Code}(hG:∀ g,(cx.G g).plain=true){α:Type}(μ:α->Nat)(P:α->Prop)(nmS:Nat)(Es:α->List (Nat×V))(Ms:α->List (Nat×Blk))(x0:α)(src:List (Option Nat))(h0:P x0)(hb:Q.b0<=nmS)(hME:ib (tX (dj (b8 (Ms x0) src)) M) Q.b0 nmS M (b8 (Ms x0) src)/\ju M (dj (b8 (Ms x0) src)) e (Es x0))(hr:∀ x,P x->go cx Q (.again (nU μ P nmS Es Ms) (μ x)::st) nmS (jv (Es x)) (gl (Ms x)) c):lJ cx Q st nm e M c:=DM hG μ P nmS Es Ms x0 src h0 hb hME.1 hME.2 hr
def O0.cell {cx:Cx}{f:FuncId}{nm:Nat}{args:List V}{M:ao}{v:Nat->V}{eff:List (Nat×Option Blk)}(q j y lo n sz:Nat)(row:List V)(ob:Ob)(hM:M q=some (@Blk.mk sz [row] ob))(hj:row[j]? = some (.own y lo n))(hob:ob.isRow=true)(hq:q∈ak eff)
  (h:∀ c,n<=c->Ev cx f nm args (M.put q (some (@Blk.mk sz [row.set j (.ownc y lo n c)] ob))) (v c) eff):O0 cx f nm args M (fun u=>∃ c,n<=c/\u=v c) eff:=by
 refine⟨trivial,fun X w ρ cargs B hr hfr hB hn hargs=>?_⟩
 obtain⟨l,a1,a2,a3,cs,e,hok,a4,a5,a6,a7,a8,a9⟩:∃ l,ρ q=some l/\(cG ρ M l.b\/w.heap.size<=l.b) /\ ¬ X l.b/\BI ρ (bP X ρ M) w l (@Blk.mk sz [row] ob):=by
  rcases hr.live q _ hM with ⟨b1,_⟩|⟨l,b1,b2,b3,b4|⟨o,_,ms,buf,_,_,c1,_,_,c4,_⟩⟩
  ·cases b1
  ·exact⟨l,b1,b2,b3,b4⟩
  ·cases c4
 obtain⟨cv0,c1,c2⟩:=a9 0 j row _ rfl hj
 obtain⟨c,hnc,hic⟩:∃ c,n<=c/\Is ρ (bP X ρ M) w (.ownc y lo n c) cv0:=by
  cases c2 with
  | own0=>exact⟨0,Nat.le_refl _,.ownc0⟩
  | own hl hlc hnc =>
   rename_i c l
   by_cases h0:c=0
   ·have hn0:n=0:=by omega
    subst h0;subst hn0
    exact⟨0,Nat.le_refl _,.ownc0⟩
   ·exact⟨c,hnc,.ownc hl hlc hnc (by omega)⟩
 generalize hk:(@Blk.mk sz [row.set j (.ownc y lo n c)] ob)=k' at *
 have hs:∀ x,((M.put q (some k')) x).isSome=(M x).isSome:=fun x=>by
  by_cases e:x=q
  ·subst e;rw[ao.put_same,hM];rfl
  ·rw[ao.put_ne _ _ e]
 have hsb:∀ x,(((M.put q (some k')) x).isSome=true)=((M x).isSome=true):=fun x=>by rw[hs x]
 have hblk:cG ρ (M.put q (some k'))=cG ρ M:=by
  funext b;simp only[cG,hsb]
 have hdom:bP X ρ (M.put q (some k'))=bP X ρ M:=by
  funext b;simp only[bP,hsb]
 have happ:(M.put q (some k')).app eff=M.app eff:=by
  funext x
  by_cases e:x=q
  ·subst e;exact ao.app_congr (fun hx=>absurd hq hx)
  ·exact ao.app_congr (fun _=>ao.put_ne _ _ e)
 have hr':Rel cx.G X w (cG ρ (M.put q (some k'))) ρ (M.put q (some k')) w:=by
  rw[hblk]
  refine { size:=hr.size,os:=hr.os,tape:=hr.tape,output:=hr.output,old:=hr.old,live:=?_,inj:=?_,hX:=hr.hX,glob:=?_ }
  ·intro x k hx
   rw[hdom]
   by_cases e:x=q
   ·subst e
    rw[ao.put_same]at hx;cases hx
    subst hk
    refine .inr ⟨l,a1,a2,a3,.inl ⟨cs,e,hok,a4,a5,a6,a7,fun i r hi=>?_,fun i p r u hi hp=>?_⟩⟩
    ·cases i with
     | zero =>
      have hi':row.set j (.ownc y lo n c)=r:=by simpa using hi
      rw[<- hi',List.length_set];exact a8 0 row rfl
     | succ i=>simp at hi
    ·cases i with
     | zero =>
      have hi':row.set j (.ownc y lo n c)=r:=by simpa using hi
      rw[<- hi',List.getElem?_set]at hp
      split at hp
      ·rename_i hjp
       split at hp
       ·cases hp
        subst hjp
        exact⟨cv0,c1,hic⟩
       ·cases hp
      ·exact a9 0 p row u rfl hp
     | succ i=>simp at hi
   ·rw[ao.put_ne _ _ e]at hx
    exact hr.live x k hx
  ·intro a b l l' h1 h2
   rw[hs]at h1 h2
   exact hr.inj a b l l' h1 h2
  ·intro g;rw[hdom];exact hr.glob g
 have hB':∀ x,B<=x->(M.put q (some k')) x=none:=fun x hx=>by
  have h0:=hs x
  rw[(hB x hx).1]at h0
  cases hq:(M.put q (some k')) x with
  | none=>rfl
  | some k=>rw[hq]at h0;cases h0
 have hcc:=h c hnc
 rw[hk]at hcc
 refine(hcc.2 X w ρ cargs B hr' hfr (fun x hx=>⟨hB' x hx,(hB x hx).2⟩) hn (fun i u cv hi hc=>by rw[hdom];exact hargs i u cv hi hc)).mono ?_
 rintro e w' ⟨cv,rfl,ρ',r,m,hv,hnn⟩
 rw[happ]at r m hv
 rw[hblk]at r
 refine⟨cv,rfl,v c,⟨c,hnc,rfl⟩,ρ',r,⟨m.names,m.size,m.os,m.tape,m.output,fun b hb hk2=>m.kept b hb (fun x l h1 h2=>hk2 x l (by rw[<- hs x];exact h1) h2),fun x l h1 h2 h3=>?_⟩,hv,hnn⟩
 obtain⟨x',l',k1,k2,k3⟩:=m.dom x l h1 h2 h3
 exact⟨x',l',by rw[<- hs x'];exact k1,k2,k3⟩
section
variable {P:Program}
end
def FK {ρ:Names}{D:Nat->Prop}{w:World}{N:Nat}{args:List V}{cargs:Array Value}(hn:args.length=cargs.size)(hle:args.length<=N)(his:∀(i:Nat) (u:V) (cv:Value),args[i]? = some u->cargs[i]? = some cv->Is ρ D w u cv) :
  EnvAt [] ρ D w N (kQ args) { tmps:=cargs++Array.replicate (N-cargs.size) undef,defers:=[] }:=by
 refine⟨by simp;omega,rfl,fun t ht=>?_⟩
 simp only[kQ,Array.getD_eq_getD_getElem?]
 by_cases hlt:t<args.length
 ·rw[Array.getElem?_append_left (by omega),List.getElem?_eq_getElem hlt,Array.getElem?_eq_getElem (show t<cargs.size by omega)]
  exact his t _ _ (List.getElem?_eq_getElem hlt) (Array.getElem?_eq_getElem (by omega))
 ·rw[List.getElem?_eq_none (by omega)]
  exact .any _
variable {cx:Cx} {X:Nat->Prop} {w0:World} {I:Nat->Prop} {ρ:Names} {M:ao} {w:World}
section
variable {cx:Cx} {fn:Func} {nm:Nat} {M:ao} {v:V} {eff:List (Nat×Option Blk)} {b0 c1 c2 y1 y2 t2 t3:Nat} {restc:Code} {n':Nat} {e':Env} {M':ao}
end
variable {cx:Cx}
section
variable {Q:Post} {st:List Frm} {nm:Nat} {e:Env} {M:ao}
end
def PL (row:List V):List (List V):=row.map fun u=>[u]
section
variable {G:Nat->V} {X:Nat->Prop} {w0:World} {I:Nat->Prop} {ρ:Names} {M:ao} {w:World}
end
section
variable {cx:Cx} {Q:Post} {st:List Frm} {nm:Nat} {e:Env} {M:ao} {d:Bool} {fs:List (List Nat)} {ops:List Oper} {dst:Option Tmp} {t:TypeId} {pos:String} {af:Array Edge} {gd:Option (Nat×Bool)} {r:List Oper} {i:Nat}
end
def nC (cx:Cx)(fn:Func)(nm:Nat)(M:ao)(v:V)(eff:List (Nat×Option Blk))(b0:Nat):Code->Ex->Nat->Env->ao->Prop
 | .seq c1 r1,.normal,n,e,M1=>∃ n' e' M',mJ cx b0 n e M1 n' e' M'/\(go cx (sc cx fn nm M v eff b0) [] n' e' M' (.seq c1 r1)\/go cx ⟨b0,nC cx fn nm M v eff b0 r1⟩ [] n' e' M' c1)
 | rest,.normal,n,e,M1=>∃ n' e' M',mJ cx b0 n e M1 n' e' M'/\go cx (sc cx fn nm M v eff b0) [] n' e' M' rest
 | _,.ret,n,e,M1=>kR cx fn nm M v eff b0 .ret n e M1
 | _,_,_,_,_=>False
def GM (cx:Cx)(fn:Func)(nm:Nat)(M:ao)(v:V)(eff:List (Nat×Option Blk))(b0:Nat)(c:Code)(n:Nat)(e:Env)(M1:ao):nC cx fn nm M v eff b0 c .ret n e M1=kR cx fn nm M v eff b0 .ret n e M1:=by
 cases c<;>rfl
def DS {cx:Cx}{fn:Func}{nm:Nat}{M:ao}{v:V}{eff:List (Nat×Option Blk)}{b0:Nat}{c:Code}{n:Nat}{e:Env}{M1:ao}{id:Nat} : ¬ nC cx fn nm M v eff b0 c (.exit id) n e M1:=by
 cases c<;>exact fun h=>h
def GL {cx:Cx}{fn:Func}{nm:Nat}{M:ao}{v:V}{eff:List (Nat×Option Blk)}{b0:Nat}{c:Code}{n:Nat}{e:Env}{M1:ao}{u:V} : ¬ nC cx fn nm M v eff b0 c (.panic u) n e M1:=by
 cases c<;>exact fun h=>h
def sM {cx:Cx}{fn:Func}{nm:Nat}{M:ao}{v:V}{eff:List (Nat×Option Blk)}{b0:Nat}{rest:Code}{n:Nat}{e:Env}{M1:ao}(n':Nat)(e':Env)(M':ao)(hw:mJ cx b0 n e M1 n' e' M')(h:go cx (sc cx fn nm M v eff b0) [] n' e' M' rest):nC cx fn nm M v eff b0 rest .normal n e M1:=by
 cases rest<;>first|exact⟨n',e',M',hw,h⟩|exact⟨n',e',M',hw,.inl h⟩
def DT {cx:Cx}(hm:cx.P.follows .mixedOrders=true){fn:Func}{nm:Nat}{M:ao}{v:V}{eff:List (Nat×Option Blk)}{b0:Nat}{X:Nat->Prop}{w0:World}{I:Nat->Prop}{ρ0:Names} : ∀(rest:Code) {n:Nat} {e:Env} {M1:ao} {ρ:Names} {a:Act} {w:World},dL fn.ntmps rest=true->Lies cx fn.ntmps X w0 I ρ0 b0 n e M1 ρ a w->nC cx fn nm M v eff b0 rest .normal n e M1 ->
  la cx.P rest (BJ cx fn.ntmps X w0 I ρ0 b0 (kR cx fn nm M v eff b0)) a w:=by
 intro rest
 have base:∀(rest:Code) {n:Nat} {e:Env} {M1:ao} {ρ:Names} {a:Act} {w:World},dL fn.ntmps rest=true->Lies cx fn.ntmps X w0 I ρ0 b0 n e M1 ρ a w->(∃ n' e' M',mJ cx b0 n e M1 n' e' M'/\go cx (sc cx fn nm M v eff b0) [] n' e' M' rest)->la cx.P rest (BJ cx fn.ntmps X w0 I ρ0 b0 (kR cx fn nm M v eff b0)) a w:=by
  rintro rest n e M1 ρ a w hin hl ⟨n2,e2,M2,hw,hrest⟩
  obtain⟨ρ2,h2⟩:=hw _ _ _ _ _ _ _ _ hl
  exact ei hm rest _ n2 e2 M2 ρ2 _ w hin h2 hrest
 induction rest with
 | seq c1 r1 _ ih =>
  intro n e M1 ρ a w hin hl hq
  obtain⟨n2,e2,M2,hw,hrest⟩:=hq
  rcases hrest with hrest|hrest
  ·exact base _ hin hl ⟨n2,e2,M2,hw,hrest⟩
  ·obtain⟨ρ2,h2⟩:=hw _ _ _ _ _ _ _ _ hl
   simp only[dL,Bool.and_eq_true]at hin
   refine la.seq (la.mono (ei hm c1 _ n2 e2 M2 ρ2 _ w hin.1 h2 hrest) ?_)
   rintro x a w1 ⟨n,e,M1,ρ1,h1,hq⟩
   cases x with
   | exit id=>exact(DS hq).elim
   | ret=>exact⟨n,e,M1,ρ1,h1,by simp only[jf]at hq;rw[GM]at hq;exact hq⟩
   | goto l=>exact hq.elim
   | panic ch=>obtain⟨_,_,_,_,h⟩:=hq;exact(GL h).elim
   | outgrown=>exact hq.elim
   | normal=>exact ih hin.2 h1 hq
 | _=>intro n e M1 ρ a w hin hl hq;exact base _ hin hl hq
def iP {cx:Cx}(hD:cx.D=[]){f:FuncId}{nm:Nat}{args:List V}{M:ao}{v:V}{eff:List (Nat×Option Blk)}{fn:Func}{c0 rest:Code}
  (hcall:∀ cargs w,(callFunc f cargs).run cx.P w = .ok (.enter f cargs) w) (hf:cx.P.funcs[f]? = some fn) (hb:fn.body=some (.seq c0 rest)) (hm:cx.P.follows .mixedOrders=true) (hin:dL fn.ntmps (.seq c0 rest)=true) (hargs:decide (args.length<=fn.ntmps)=true)
  (hvc:∀ b0,(∀ x,b0<=x->M x=none)->go cx ⟨b0,nC cx fn nm M v eff b0 rest⟩ [] b0 (kQ args) M c0):Ev cx f nm args M v eff:=by
 have hargs:=of_decide_eq_true hargs
 refine⟨trivial,fun X w ρ cargs B hrel hfr hB hlen his=>?_⟩
 have hstart:Lies cx fn.ntmps X w (cG ρ M) ρ B B (kQ args) M ρ { tmps:=cargs++Array.replicate (fn.ntmps-cargs.size) undef,defers:=[] } w :=
  ⟨hrel,by rw[hD];exact FK hlen hargs his,hB,fun _ _ h=>h,Nat.le_refl _,fun _ _=>rfl,fun x hx=>(hB x hx).2⟩
 refine .inl ⟨hcall _ _,?_⟩
 have hmid:nC cx fn nm M v eff B (.seq c0 rest) .normal B (kQ args) M:=⟨B,_,M,mJ.refl _ _ _ _ _,.inr (hvc B (fun x hx=>(hB x hx).1))⟩
 refine nT hf hb (la.mono (DT hm _ hin hstart hmid) ?_)
 rintro x a w' ⟨n,e,M',ρ',h',hq⟩
 have done:tK cx fn.ntmps fn.results.toList nm M v eff B n e M'->a.defers=[] /\ ∃ cv,(results fn a.tmps).run cx.P w' = .ok cv w' /\ ∃ cv',Ending.returned cv = .returned cv'/\ek cx.G X w (cG ρ M) ρ M w nm v (M.app eff) cv' w':=fun ⟨gs,hfin⟩=>by
  have h':=h'.ghosts gs
  obtain⟨cv,h1,h2⟩:=vo h'.rel h'.env fn hfin.1
  exact⟨h'.env.defers.trans hD,cv,h1,cv,rfl,uL hrel hfr hB h' hfin h2⟩
 cases x<;>simp only[kR]at hq<;>try (exact hq.elim)
 case normal=>exact done hq
 case ret=>exact done hq
 case panic ch=>obtain⟨_,_,_,_,hf⟩:=hq;exact hf.elim
section
variable {cx:Cx} {fn:Func} {nm0:Nat} {M0:ao} {v:V} {eff:List (Nat×Option Blk)} {b0:Nat} {rest c1 r1:Code} {nm:Nat} {e:Env} {M:ao}
def bj (h:go cx ⟨b0,nC cx fn nm0 M0 v eff b0 r1⟩ [] nm e M c1):nC cx fn nm0 M0 v eff b0 (.seq c1 r1) .normal nm e M :=
 ⟨nm,e,M,mJ.refl _ _ _ _ _,.inr h⟩
def ee (h:go cx (sc cx fn nm0 M0 v eff b0) [] nm e M rest):nC cx fn nm0 M0 v eff b0 rest .normal nm e M :=
 sM nm e M (mJ.refl _ _ _ _ _) h
def oG (hG:∀ g,(cx.G g).plain=true)(nmS:Nat)(Es:List (Nat×V))(Ms:List (Nat×Blk))(src:List (Option Nat))(hb:b0<=nmS)
  (hME:ib (sZ (dj (b8 Ms src))) b0 nmS M (b8 Ms src)/\ju M (dj (b8 Ms src)) e Es) (h:go cx (sc cx fn nm0 M0 v eff b0) [] nmS (jv Es) (gl Ms) rest):nC cx fn nm0 M0 v eff b0 rest .normal nm e M :=
 sM nmS (jv Es) (gl Ms) (tE hG src hb hME.1 hME.2) h
def GN (hG:∀ g,(cx.G g).plain=true)(nmS:Nat)(Es:List (Nat×V))(Ms:List (Nat×Blk))(src:List (Option Nat))(hb:b0<=nmS)
  (hME:ib (tX (dj (b8 Ms src)) M) b0 nmS M (b8 Ms src)/\ju M (dj (b8 Ms src)) e Es) (h:go cx (sc cx fn nm0 M0 v eff b0) [] nmS (jv Es) (gl Ms) rest):nC cx fn nm0 M0 v eff b0 rest .normal nm e M :=
 sM nmS (jv Es) (gl Ms) (j7 hG src (mr _ _) hb hME.1 hME.2) h
def aY (hG:∀ g,(cx.G g).plain=true)(nmS:Nat)(Es:List (Nat×V))(Ms:List (Nat×Blk))(src:List (Option Nat))(hb:b0<=nmS)
  (hME:ib (tX (dj (b8 Ms src)) M) b0 nmS M (b8 Ms src)/\ju M (dj (b8 Ms src)) e Es) (h:go cx ⟨b0,nC cx fn nm0 M0 v eff b0 r1⟩ [] nmS (jv Es) (gl Ms) c1):nC cx fn nm0 M0 v eff b0 (.seq c1 r1) .normal nm e M :=
 ⟨nmS,jv Es,gl Ms,j7 hG src (mr _ _) hb hME.1 hME.2,.inr h⟩
end
def kV (l:List Nat):List (Nat×Option Blk):=l.map fun x=>(x,none)
def cA:kV []=[]:=rfl
def bO (x:Nat)(l:List Nat):kV (x::l)=(x,none)::kV l:=rfl
def yL (l:List Nat):ak (kV l)=l:=by
 induction l with
 | nil=>rfl
 | cons x l ih=>rw[bO];show x::ak (kV l)=_;rw[ih]
def u5 (M:ao)(eff:List (Nat×Option Blk)):∀(l k:List Nat),(∀ x∈k,x∈l\/M x=none)->(M.only k).app (kV l++eff)=ao.nil.app eff
 | [],k,h=>by
  have e:M.only k=ao.nil:=by
   funext x
   show(if x∈k then M x else none)=none
   split
   ·rename_i hx
    rcases h x hx with hx|hx
    ·cases hx
    ·exact hx
   ·rfl
  rw[e];rfl
 | y::l,k,h=>by
  have e:(M.only k).put y none=ao.only (fun x=>if x=y then none else M x) k:=by
   funext x
   show(if x=y then none else (if x∈k then M x else none))=(if x∈k then (if x=y then none else M x) else none)
   by_cases hy:x=y<;>simp[hy]
  show((M.only k).put y none).app (kV l++eff)=_
  rw[e]
  refine u5 (fun x=>if x=y then none else M x) eff l k (fun x hx=>?_)
  by_cases hy:x=y
  ·right;simp[hy]
  ·rcases h x hx with h1|h1
   ·rcases List.mem_cons.1 h1 with h2|h2
    ·exact absurd h2 hy
    ·exact .inl h2
   ·right;simp[hy,h1]
def Ev.lose {cx:Cx}{f:FuncId}{nm:Nat}{args:List V}{M:ao}{v:V}{eff eff':List (Nat×Option Blk)}(h:Ev cx f nm (finL [] M args) ao.nil v eff)(hok:finLOk [] M args)(he:M.app eff'=ao.nil.app eff):Ev cx f nm args M v eff':=by
  refine⟨h.1,fun X w ρ cargs B hr hfresh hB hn hargs=>?_⟩
  have hdom:∀ b,bP X ρ ao.nil b->bP X ρ M b:=by
    rintro b (hx|⟨nm,l,h1,_⟩)
    · exact .inl hx
    · simp[ao.nil]at h1
  have hr0:Rel cx.G X w (cG ρ ao.nil) ρ ao.nil w :=
    { size:=Nat.le_refl _,os:=rfl,tape:=rfl,output:=rfl,old:=fun _ _ _=>rfl
      live:=fun nm k hk=>by simp[ao.nil]at hk
      inj:=fun nm nm' l l' h1=>by simp[ao.nil]at h1
      hX:=fun b hb=>⟨(hr.hX b hb).1,by rintro ⟨nm,q,h1,_⟩;simp[ao.nil]at h1⟩
      glob:=fun g=>(hr.glob g).step (fun _ _ h=>h) (Nat.le_refl _) (fun _ _ _=>rfl) (fun b _ hb=>hdom b hb) }
  refine(h.2 X w ρ cargs B hr0 hfresh (fun x hx=>⟨rfl,(hB x hx).2⟩) (by rw[cY];exact hn) ?_).mono ?_
  · intro i u cv hi hc
    rw[fg]at hi
    obtain⟨u',h1,rfl⟩:=Option.map_eq_some_iff.1 hi
    refine ni (cx:=cx) hr (fun nm y hy=>by simp[aS]at hy) hdom (fun nm l _ hM hl=>?_) (hargs i u' cv h1 hc) (dE hok h1)
    rintro (hx|⟨nm',q,h2,_⟩)
    · exact(hr.block_lt hM hl).2.1 hx
    · simp[ao.nil]at h2
  · rintro e' w' ⟨cv,rfl,ρ',r,m,hvv,hn'⟩
    have hkept:∀ b,b<w.heap.size->w'.heap[b]? = w.heap[b]?:=fun b hb=>m.kept b hb (fun nm l h1=>by simp[ao.nil]at h1)
    rw[he]
    refine⟨cv,rfl,ρ',⟨r.size,r.os,r.tape,r.output,fun b hb _=>hkept b hb,fun x k hx=>?_,r.inj,hr.hX,r.glob⟩,⟨m.names,m.size,m.os,m.tape,m.output,fun b hb _=>hkept b hb,fun x l h1 h2 h3=>?_⟩,hvv,hn'⟩
    · rcases r.live x k hx with h1|⟨l,h1,h2,h3⟩
      · exact .inl h1
      · refine .inr ⟨l,h1,?_,h3⟩
        rcases h2 with ⟨nm',q,c1,_⟩|h2
        · simp[ao.nil]at c1
        · exact .inr h2
    · obtain⟨nm',l',c1,_⟩:=m.dom x l h1 h2 h3
      simp[ao.nil]at c1
section
variable {cx:Cx} {Q:Post} {st:List Frm} {nm:Nat} {e:Env} {M:ao}
def dA {d:Bool}{fs:List (List Nat)}{ops:List Oper}{dst:Option Tmp}{g:FuncId}{args:Array Operand}{ats:Array TypeId}{t:TypeId}{pos:String}{af:Array Edge}{r:List Oper}{i:Nat}{xs as':List V}
  (l:List Nat) (has:args.toList.map (ax cx.G true e)=xs) (has':finL [] (M.only l) xs=as') (hok:finLOk [] (M.only l) xs) {v:V} {eff:List (Nat×Option Blk)} (hl:∀ x∈l,(M x).isSome=true) (hev:Ev cx g (nm+16*i) as' ao.nil v eff) (he:∀ x∈ak eff,nm+16*i<=x/\x<nm+16*i+16)
  (h:aG cx Q st nm (e.putD dst v) (M.app (kV l++eff)) d (fs++[l++ak (kV l++eff)]) ops r (i+1)):ig cx Q st nm e M d fs ops ⟨dst,.call ⟨.value (.func g),args,ats⟩,t,pos,af,none⟩ r i :=
 aB has l (Ev.lose (by rw[has'];exact hev) hok (u5 M eff l l (fun x hx=>.inl hx))) (fun x hx=>by
  have hn:ak (kV l++eff)=l++ak eff:=by
   have:ak (kV l++eff)=ak (kV l)++ak eff:=by simp[ak]
   rw[this,yL]
  rw[hn]at hx
  rcases List.mem_append.1 hx with hx|hx
  ·exact .inl ⟨hx,hl x hx⟩
  ·exact .inr (he x hx)) h
end
def MD (M M':ao):Prop:=∀ x,match M x,M' x with
 | none,none=>True
 | some k,some k'=>qr k k'
 | _,_=>False
def jP {M M':ao}(h:MD M M')(x:Nat):(M' x).isSome=(M x).isSome:=by
 have:=h x
 cases h1:M x<;>cases h2:M' x<;>rw[h1,h2]at this<;>first|rfl|exact this.elim
def Rel.weaken {G:Nat->V}{X:Nat->Prop}{w0:World}{I:Nat->Prop}{ρ:Names}{M M':ao}{w:World}(h:Rel G X w0 I ρ M w)(hle:MD M M'):Rel G X w0 I ρ M' w/\Moves ρ M w ρ M' w:=by
 have hD:bP X ρ M'=bP X ρ M:=by
  funext b
  unfold bP
  refine propext (or_congr Iff.rfl (exists_congr fun nm=>exists_congr fun l=>?_))
  rw[jP hle]
 refine⟨⟨h.size,h.os,h.tape,h.output,h.old,fun nm k hk=>?_,fun a b l l' h1 h2=>h.inj a b l l' (by rw[<- jP hle];exact h1) (by rw[<- jP hle];exact h2),h.hX,fun g=>by rw[hD];exact h.glob g⟩,fun _ _ h=>h,Nat.le_refl _,rfl,rfl,rfl,fun _ _ _=>rfl,fun nm l h1 h2 _=>⟨nm,l,by rw[<- jP hle];exact h1,h2,rfl⟩⟩
 have hx:=hle nm
 rw[hk]at hx
 cases hm:M nm with
 | none=>rw[hm]at hx;exact hx.elim
 | some k0 =>
  rw[hm]at hx
  simp only at hx
  rcases h.live nm k0 hm with ⟨h1,h2⟩|⟨l,h1,h2,h3,h4⟩
  ·left
   refine⟨?_,h2⟩
   have:=hx.2.2
   rw[h1]at this
   cases hr:k.rows with
   | nil=>rfl
   | cons a b=>rw[hr]at this;exact this.elim
  ·right
   refine⟨l,h1,h2,h3,?_⟩
   rw[hD]
   exact h4.le hx
def Ev.eff_le {cx:Cx}{f:FuncId}{nm:Nat}{args:List V}{M:ao}{v:V}{eff eff':List (Nat×Option Blk)}(h:Ev cx f nm args M v eff)(hle:MD (M.app eff) (M.app eff')):Ev cx f nm args M v eff':=by
 refine⟨h.1,fun X w ρ cargs B hr hf hB hn hargs=>(h.2 X w ρ cargs B hr hf hB hn hargs).mono ?_⟩
 rintro e w' ⟨cv,rfl,ρ',r,m,hv,hnn⟩
 obtain⟨r1,m1⟩:=r.weaken hle
 exact⟨cv,rfl,ρ',r1,m.trans m1,m1.is hv,hnn⟩
def yF (M:ao):MD M M:=fun x=>by
 cases M x with
 | none=>trivial
 | some k=>simp only;rw[sF];trivial
def JG {M M':ao}(h:MD M M')(x:Nat){k k':Blk}(hk:qr k k'):MD (M.put x (some k)) (M'.put x (some k')):=fun y=>by
 by_cases e:y=x
 ·subst e;rw[ao.put_same,ao.put_same];exact hk
 ·rw[ao.put_ne _ _ e,ao.put_ne _ _ e];exact h y
def Ev.last_le {cx:Cx}{f:FuncId}{nm:Nat}{args:List V}{M:ao}{v:V}{eff:List (Nat×Option Blk)}{x:Nat}{k k':Blk}(h:Ev cx f nm args M v (eff++[(x,some k)]))(hk:qr k k'):Ev cx f nm args M v (eff++[(x,some k')]):=by
 refine h.eff_le ?_
 have e:∀(eff:List (Nat×Option Blk)) (M:ao) (k:Blk),M.app (eff++[(x,some k)])=(M.app eff).put x (some k):=by
  intro eff
  induction eff with
  | nil=>intro M k;rfl
  | cons p r ih=>intro M k;obtain⟨a,b⟩:=p;exact ih _ _
 rw[e,e]
 exact JG (yF _) x hk
def Ev.bit_false {cx:Cx}{f:FuncId}{nm:Nat}{args:List V}{M:ao}{b:Bool}{eff:List (Nat×Option Blk)}(h:Ev cx f nm args M (.bit false b) eff):Ev cx f nm args M (.bool false) eff:=by
 refine⟨h.1,fun X w ρ cargs B hr hf hB hn hargs=>(h.2 X w ρ cargs B hr hf hB hn hargs).mono ?_⟩
 rintro e w' ⟨cv,rfl,ρ',r,m,hv,hnn⟩
 refine⟨cv,rfl,ρ',r,m,?_,hnn⟩
 cases hv with
 | bit c ht hf =>
  cases c with
  | true=>exact absurd (ht rfl) (by simp)
  | false=>exact .bool false
section
variable {cx:Cx} {Q:Post} {st:List Frm} {nm:Nat} {e:Env} {M:ao} {d:Bool} {fs:List (List Nat)} {ops r:List Oper} {dst:Option Tmp} {t:TypeId} {pos:String} {af:Array Edge} {gd:Option (Nat×Bool)} {i:Nat}
end
def aT:Nat:=140737488355328
def aN {M:ao}{l:List Nat} : ∀ z,((M.only l) z).isSome=true->z∈l:=fun z h=>(cQ.1 h).2
def Fy {M:ao}{b0 x:Nat}(h:∀ z,b0<=z->M z=none)(hx:(M x).isSome=true):x<b0:=by
 rcases Nat.lt_or_ge x b0 with h1|h1
 ·exact h1
 ·rw[h x h1]at hx;cases hx
def bB {q b:Nat}(h:q<b):(q=b)=False/\(∀ c,(q=b+c)=False)/\(b=q)=False/\(∀ c,(b+c=q)=False):=⟨qt h,fM h,lR h,eK h⟩
def bp {M:ao}{b0 q:Nat}{k:Blk}(h:∀ x,b0<=x->M x=none)(hq:M q=some k):q<b0:=Fy h (by rw [hq];rfl)
section
variable {cx:Cx}
def O1.res_le {f:FuncId}{nm:Nat}{xs:List V}{v u:V}(h:Ev cx f nm xs ao.nil v [])(hv:v.flat=true)(hle:v.le u):O1 cx f nm xs u :=
 ⟨v,[],h,nn _ v hv,fun p hp=>by simp at hp,fun x hx=>by simp[ak]at hx,(gW _ v hv).1,by rw[(gW _ v hv).2];exact hle⟩
end
end Go.Proofs.YtjonibipieofcaaGreatDoor.Vm
