/-
 Texts joined: XUi,XSf,XSg,XSh.
-/
import Derived.Test.YtlnlopnpcmahgaaGreatDoorQp
import Derived.Test.YtlnlopnpcmahgaaGreatDoorQn
import Derived.Test.YtlnlopnpcmahgaaGreatDoorQr
import Derived.Test.YtlnlopnpcmahgaaGreatDoorQl
import Derived.Test.YtlnlopnpcmahgaaGreatDoorQe
set_option linter.all false
namespace Go.Proofs.YtlnlopnpcmahgaaGreatDoor
set_option maxRecDepth 100000
set_option maxHeartbeats 32000000
open Nat renaming reduceAdd->Ka,reduceMul->Kb,reduceEqDiff->Kc,reduceLeDiff->Kd,reduceSub->Ke,reduceLT->Kf,reduceBEq->Kr,reduceBNe->Ks,reducePow->Kt
open Int renaming reduceToNat->Kg,reduceLE->Kh,reduceLT->Ki,reduceAdd->Kj,reduceSub->Kk,reduceMul->Kl,reduceNeg->Km,reduceBEq->Kn,reduceBNe->Ko,reduceEq->Kp,reduceNe->Kq
open Go Go.RowKit Vm Go.Lib Tryz
open Vm renaming aW->Ca,bf->Cb
open And renaming intro->Ai
open List renaming length_map->Lm,not_mem_nil->Ln,map_nil->Lo,map_cons->Lc,mem_cons->Lk
open Bool renaming not_false->Bf,not_true->Bt
end Go.Proofs.YtlnlopnpcmahgaaGreatDoor
namespace Go.Proofs.YtlnlopnpcmahgaaGreatDoor
set_option maxRecDepth 100000
set_option maxHeartbeats 32000000
open Go Go.RowKit Vm Go.Lib Tryz
open Vm renaming aW->Ca,bf->Cb
open And renaming intro->Ai
open List renaming length_map->Lm,not_mem_nil->Ln,map_nil->Lo,map_cons->Lc,mem_cons->Lk
open Bool renaming not_false->Bf,not_true->Bt
def NX (o:Option Nat):Int:=match o with|some n=>n|none=>-1
def jO (n:Nat):NX (some n)=n:=rfl
def fR:NX none = -1:=rfl
def Nd.i64 (n:Nd):Prop:=-9223372036854775808<=n.many/\n.many<=9223372036854775807
structure WSt where
 k:Nat
 next:Option Nat
 last:Nat
 en:List Nat
def fA (v:List Nd):V.plain (.rp [.sl false 6 (v.map aV)])=true:=by simp[V.plain,plainL,ad]
def Mc (v:List Nd)(w eb:Nat):V:=.fn 117 [.rp [.sl false 6 (v.map aV)],.ptr w 0 0,.ptr eb 0 0]
def EJ (v:List Nd)(hv:v.length<=512)(hok:∀ n∈v,n.okTo bc/\n.i64)(d:Nat)(hd:d<=12)(dz:Bool)(hdz:dz=decide (d=0))(W:Nat->List Nat->Option Nat×List Nat)(hW:d≠0->sS v (d-1) W)(w eb e:Nat)(n1:w≠eb)(n2:w≠e)(n3:eb≠e)
    (ih:d≠0 -> ∀(p:Nat) (en:List Nat) (M:am) (nm:Nat),p<v.length->en.length=v.length->M w=some ⟨1,[[Mc v w eb]]⟩->M eb=some ⟨1,[[.own e 0 v.length]]⟩->M e=some ⟨1,en.map cQ⟩->(∀ z,(M z).isSome=true->z∈[w,eb,e])->w<nm->eb<nm->e<nm ->
      Ev cx 117 nm [.int .i64 p,.int .i64 ((d-1:Nat):Int),.rp [.sl false 6 (v.map aV)],.ptr w 0 0,.ptr eb 0 0] M (.int .i64 (NX (W p en).1)) [(w,some ⟨1,[[Mc v w eb]]⟩),(eb,some ⟨1,[[.own e 0 v.length]]⟩),(e,some ⟨1,(W p en).2.map cQ⟩)])
    (p:Nat) (en:List Nat) (M:am) (nm:Nat) (hp:p<v.length) (hl:en.length=v.length) (hw:M w=some ⟨1,[[Mc v w eb]]⟩) (heb:M eb=some ⟨1,[[.own e 0 v.length]]⟩) (he:M e=some ⟨1,en.map cQ⟩) (ho:∀ z,(M z).isSome=true->z∈[w,eb,e]) (lw:w<nm) (leb:eb<nm) (le:e<nm) :
    Ev cx 117 nm [.int .i64 p,.int .i64 d,.rp [.sl false 6 (v.map aV)],.ptr w 0 0,.ptr eb 0 0] M (.int .i64 (NX (jN W v dz p en).1)) [(w,some ⟨1,[[Mc v w eb]]⟩),(eb,some ⟨1,[[.own e 0 v.length]]⟩),(e,some ⟨1,(jN W v dz p en).2.map cQ⟩)]:=by
  obtain⟨x,hx⟩:∃ x,v[p]? = some x:=⟨_,List.getElem?_eq_getElem hp⟩
  obtain⟨hxo,hx1,hx2⟩:=hok x (List.mem_of_getElem? hx)
  have hat:=iL hx
  have hmx:=Qh x hxo
  have b1:decide ((p:Int)<0)=false:=bm
  have b2:decide (v.length<=p)=false:=bm
  have hpi:(p:Int)<(v.length:Int):=by omega
  have b4:((d:Int)==0)=dz:=by rw[hdz,Bool.eq_iff_iff];simp
  have hkx:okW x dz=(jJ x && !decide (x.many<0) && !(((x.kind:Int)==1)&&dz)):=by
    unfold okW
    have h1:decide (0<=x.many) = !decide (x.many<0):=by rw[Bool.eq_iff_iff];simp
    have h2:((x.kind:Int)==1)=(x.kind==1):=by rw[Bool.eq_iff_iff];simp;omega
    rw[h1,h2]
  have hwalk:jN W v dz p en=if okW x dz=true then eX p (bQ W v x.many.toNat (some (p+1)) 1 en) else (none,en):=by
    unfold jN;rw[hx]
  have hroom:okW x dz=true->x.many.toNat≠0->d≠0:=by
    rintro h1 h2 rfl
    unfold okW at h1
    simp only[Bool.and_eq_true,decide_eq_true_eq,Bool.not_eq_true',Bool.and_eq_false_iff,beq_eq_false_iff_ne]at h1
    obtain⟨⟨a1,a2⟩,a3⟩:=h1
    rw[hdz]at a3
    simp at a3
    rcases kS a1 with h|h
    · exact a3 h
    · rw[(kT a1 h).2.2.2.1]at h2;exact h2 rfl
  rw[hwalk]
  clear hwalk
  have w1:IntKind.i64.wrap ((p:Int)+1)=((p+1:Nat):Int):=bd
  have m1:=eq_false n1;have m2:=eq_false n2;have m3:=eq_false n3
  have m4:=eq_false (Ne.symm n1);have m5:=eq_false (Ne.symm n2);have m6:=eq_false (Ne.symm n3)
  unfold Mc at hw ⊢
  by_cases hkk:okW x dz=true
  · rw [if_pos hkk]
    have hroom:=hroom hkk
    rw[hkk]at hkx
    generalize hB1:jJ x=B1 at hmx hkx
    generalize hB2:decide (x.many<0)=B2 at hkx
    generalize hB3:((x.kind:Int)==1)=B3 at hkx
    have hB:B1=true/\B2=false/\(B3&&dz)=false:=by cases B1<;>cases B2<;>cases B3<;>cases dz<;>simp at hkx ⊢
    obtain⟨rfl,rfl,hB4⟩:=hB
    have h0:0<=x.many:=by simpa using hB2
    obtain⟨m,hm⟩:∃ m:Nat,x.many=(m:Int):=⟨x.many.toNat,by omega⟩
    rw[hm]at hx2 hB2 hroom ⊢
    rw[Int.toNat_natCast]at hroom ⊢
    have hroom:∀ k,k<m->d≠0:=fun k hk=>hroom (by omega)
    refine bh call117 func117 rfl (by kernel_rfl) rfl ?_;intro b0 hb0;have zF:=Ai results117 ntmps117
    have l1:=aB hb0 hw
    have z0:=aD l1
    have l2:=aB hb0 heb
    have y0:=aD l2
    have l3:=aB hb0 he
    have x0:=aD l3
    repeat' first|simp only[ak,ag,zF,al,hat,aV,hm,b1,b2,b4,hB2,hB3,hB4,hpi,w1,hw,heb,he,Bt,Bf,Bool.and_false,Lm,ai,seval,ah]|exact rfl|refine aa (v:=.any) ?_|(first|(refine ae ?_ (hmx _) ?_)|(refine ab ?_ (fun _=>hmx _) ?_))|refine Ai (by omega) ?_
    (refine aQ bM (fun s:WSt=>m-s.k) (fun s=>s.k<=m/\s.en.length=v.length/\(∀ q,s.next=some q->q<=v.length)/\bQ W v m (some (p+1)) 1 en=bQ W v (m-s.k) s.next s.last s.en) (b0+16) (fun s=>[(0,.int .i64 p),(1,.int .i64 (d:Int)),(2,.rp [.sl false 6 (v.map aV)]),(3,.ptr w 0 0),(4,.ptr eb 0 0),(8,.int .i64 (NX s.next)),(9,.int .u8 s.last),(52,.int .i64 m),(53,.int .i64 s.k)]) (fun s=>[(w,⟨1,[[.fn 117 [.rp [.sl false 6 (v.map aV)],.ptr w 0 0,.ptr eb 0 0]]]⟩),(eb,⟨1,[[.own e 0 v.length]]⟩),(e,⟨1,s.en.map cQ⟩)]) (⟨0,some (p+1),1,en⟩) [some w,some eb,some e] ?_ ?_ ?_ ?_;rotate_left 1;(focus (show b0<=_;omega));(focus (refine⟨?_,?_⟩<;>(try simp only[aX,ad,aH,fA v,hw,heb,he,z0,y0,x0,m1,m2,m3,m4,m5,m6,jO,Bool.and_self,Bool.and_false,Bool.false_and,Lm,ai,seval,ah,ap])<;>(try omega)));rotate_left 1)
    · exact⟨Nat.zero_le _,hl,fun q hq=>by cases hq;omega,rfl⟩
    · rintro ⟨k,next,last,en1⟩ ⟨hk,hl1,hq,hinv⟩
      dsimp only at hk hl1 hq hinv ⊢
      rw[hinv]
      by_cases hlt:k<m
      · have hd1:decide ((k:Int)<(m:Int))=true:=bR
        have hd2:decide (k<m)=true:=decide_eq_true hlt
        obtain⟨c,hc⟩:∃ c,m-k=c+1:=⟨m-k-1,by omega⟩
        have hc2:m-(k+1)=c:=by omega
        rw[hc]at hinv ⊢
        have hwk:IntKind.i64.wrap ((k:Int)+1)=((k+1:Nat):Int):=bd
        cases next with
        | none =>
          have hr:bQ W v (c+1) none last en1=(none,en1):=rfl
          rw[hr]
          have q0:decide ((-1:Int)<0)=true:=rfl
          repeat' first|simp only[ak,ag,zF,al,hd1,hd2,q0,fR,eX,Bt,Bf,Bool.and_false,Lm,ai,seval,ah]|exact rfl|refine aa (v:=.any) ?_|((first|apply Ca|apply Cb)<;>intro hb)|refine Ai (by omega) ?_|(apply Ai<;>intro hb)
          all_goals ((refine Fin.give [(w,none),(eb,none),(e,none)] [] ?_ ?_ ?_ ?_ ?_ (aL ho (by simp[aP,tgt]))<;>(try simp only[zF,al,hw,heb,he,fR,eX,fA v,z0,y0,x0,m1,m2,m3,m4,m5,m6,Bool.and_self,Bool.and_false,Bool.false_and,ad,aH,Lm,dx,ai,seval,ah])<;>(try simp only[ap])<;>(try omega)))
        | some q =>
          have hqv:=hq q rfl
          have q0:decide ((q:Int)<0)=false:=bm
          cases hy:v[q]? with
          | none =>
            have hge:v.length<=q:=List.getElem?_eq_none_iff.1 hy
            have q1:decide (v.length<=q)=true:=decide_eq_true hge
            have hr:bQ W v (c+1) (some q) last en1=(none,en1):=by simp[bQ,hy]
            rw[hr]
            repeat' first|simp only[ak,ag,zF,al,hd1,hd2,q0,q1,jO,fR,eX,Bt,Bf,Bool.and_false,Lm,ai,seval,ah]|exact rfl|refine aa (v:=.any) ?_|((first|apply Ca|apply Cb)<;>intro hb)|refine Ai (by omega) ?_|(apply Ai<;>intro hb)
            all_goals ((refine Fin.give [(w,none),(eb,none),(e,none)] [] ?_ ?_ ?_ ?_ ?_ (aL ho (by simp[aP,tgt]))<;>(try simp only[zF,al,hw,heb,he,fR,eX,fA v,z0,y0,x0,m1,m2,m3,m4,m5,m6,Bool.and_self,Bool.and_false,Bool.false_and,ad,aH,Lm,dx,ai,seval,ah])<;>(try simp only[ap])<;>(try omega)))
          | some y =>
            have hql:=(List.getElem?_eq_some_iff.1 hy).1
            have q1:decide (v.length<=q)=false:=bm
            have hay:=iL hy
            have hqi:(q:Int)<(v.length:Int):=by omega
            have hbb:(((last:Int)==2)&&((y.kind:Int)==(last:Int)))=(last==2&&y.kind==2):=by
              rw[Bool.eq_iff_iff];simp;omega
            have hd0:=hroom k hlt
            have hwd:IntKind.i64.wrap ((d:Int)-1)=((d-1:Nat):Int):=by rw[bd];omega
            cases hB:(last==2&&y.kind==2) with
            | true =>
              rw[hB]at hbb
              simp only[Bool.and_eq_true]at hbb
              obtain⟨q2,q3⟩:=hbb
              have hr:bQ W v (c+1) (some q) last en1=(none,en1):=by simp[bQ,hy,hB]
              rw[hr]
              repeat' first|simp only[ak,ag,zF,al,hd1,hd2,q0,q1,q2,q3,hay,aV,hql,hqi,jO,fR,eX,Bt,Bf,Bool.and_false,Lm,ai,seval,ah]|exact rfl|refine aa (v:=.any) ?_|((first|apply Ca|apply Cb)<;>intro hb)|refine Ai (by omega) ?_|(apply Ai<;>intro hb)
              all_goals ((refine Fin.give [(w,none),(eb,none),(e,none)] [] ?_ ?_ ?_ ?_ ?_ (aL ho (by simp[aP,tgt]))<;>(try simp only[zF,al,hw,heb,he,fR,eX,fA v,z0,y0,x0,m1,m2,m3,m4,m5,m6,Bool.and_self,Bool.and_false,Bool.false_and,ad,aH,Lm,dx,ai,seval,ah])<;>(try simp only[ap])<;>(try omega)))
            | false =>
              rw[hB]at hbb
              have hr:bQ W v (c+1) (some q) last en1=bQ W v c (W q en1).1 y.kind (W q en1).2:=by simp[bQ,hy,hB]
              rw[hr]at hinv ⊢
              have hcall:=fun (M':am) (a1:M' w=some ⟨1,[[Mc v w eb]]⟩) (a2:M' eb=some ⟨1,[[.own e 0 v.length]]⟩) (a3:M' e=some ⟨1,en1.map cQ⟩) (a4:∀ z,(M' z).isSome=true->z∈[w,eb,e]) (n:Nat) (k1:w<n) (k2:eb<n) (k3:e<n)=>ih hd0 q en1 M' n hql hl1 a1 a2 a3 a4 k1 k2 k3
              unfold Mc at hcall
              obtain⟨t1,t2⟩:=(hW hd0) q en1 hl1 |>.1
              generalize hB2:((last:Int)==2)=g2 at hbb
              generalize hB3:((y.kind:Int)==(last:Int))=g3 at hbb
              have hcs:(g2=true/\g3=false)\/g2=false:=by cases g2<;>cases g3<;>simp at hbb ⊢
              rcases hcs with ⟨rfl,rfl⟩|rfl
              all_goals (
                repeat' first|simp only[ak,ag,zF,al,hd1,hd2,q0,q1,hB2,hB3,hay,aV,hql,hqi,hwd,hwk,z0,y0,x0,m1,m2,m3,m4,m5,m6,jO,fR,Bt,Bf,Bool.and_false,Lm,ai,seval,ah]|exact rfl|refine aa (v:=.any) ?_|((refine cn (caps:=?_) ?_ ?_ [w,eb,e] (hcall _ ?_ ?_ ?_ aj _ (by omega) (by omega) (by omega)) ?_ ?_);rotate_left 1)|((first|apply Ca|apply Cb)<;>intro hb)|refine Ai (by omega) ?_|(apply Ai<;>intro hb)
                all_goals ((refine aC bM (⟨k+1,(W q en1).1,y.kind,(W q en1).2⟩) [some w,some eb,some e] ?_ ?_ ?_ ?_;rotate_left 2;(focus (show b0<=_;omega));(focus (refine⟨?_,?_⟩<;>(try simp only[aX,ad,aH,fA v,hwk,z0,y0,x0,m1,m2,m3,m4,m5,m6,Bool.and_self,Bool.and_false,Bool.false_and,Lm,ai,seval,ah,ap])<;>(try omega)))))
                all_goals (first|(show m-(k+1)<c+1;omega)|exact⟨hlt,t1,fun q' hq'=>by obtain⟨_,_,_,_,_,h4,_⟩:=t2 q' hq';exact h4,by show _=bQ _ _ (m-(k+1)) _ _ _;rw[hc2]⟩|skip))
      · have hkm:k=m:=by omega
        subst hkm
        have hd1:decide ((k:Int)<(k:Int))=false:=bm
        have hd2:decide (k<k)=false:=bm
        have hr:bQ W v (k-k) next last en1=(next,en1):=by rw[Nat.sub_self];rfl
        rw[hr]
        cases next with
        | none =>
          have q0:decide ((0:Int) <= -1)=false:=rfl
          repeat' first|simp only[ak,ag,zF,al,hd1,hd2,q0,fR,eX,Bt,Bf,Bool.and_false,Lm,ai,seval,ah]|exact rfl|refine aa (v:=.any) ?_|((first|apply Ca|apply Cb)<;>intro hb)|refine Ai (by omega) ?_|(apply Ai<;>intro hb)
          all_goals ((refine Fin.give [(w,none),(eb,none),(e,none)] [] ?_ ?_ ?_ ?_ ?_ (aL ho (by simp[aP,tgt]))<;>(try simp only[zF,al,hw,heb,he,fR,eX,fA v,z0,y0,x0,m1,m2,m3,m4,m5,m6,Bool.and_self,Bool.and_false,Bool.false_and,ad,aH,Lm,dx,ai,seval,ah])<;>(try simp only[ap])<;>(try omega)))
        | some q =>
          have q0:decide ((0:Int)<=(q:Int))=true:=bR
          have hset:(en1.map cQ).set p [.int .i64 q]=(en1.set p q).map cQ:=by rw[List.map_set];rfl
          have hpl:p<en1.length:=by omega
          have hgp:(en1.map cQ)[p]? = some (cQ (en1[p]'hpl)):=by rw[List.getElem?_map,List.getElem?_eq_getElem hpl];rfl
          repeat' first|simp only[ak,ag,zF,al,hd1,hd2,q0,hset,hgp,cQ,hpi,hp,z0,y0,x0,m1,m2,m3,m4,m5,m6,jO,eX,Bt,Bf,Bool.and_false,Lm,ai,seval,ah]|exact rfl|refine aa (v:=.any) ?_|((first|apply Ca|apply Cb)<;>intro hb)|refine Ai (by omega) ?_|(apply Ai<;>intro hb)
          all_goals ((refine Fin.give [(w,none),(eb,none),(e,none)] [] ?_ ?_ ?_ ?_ ?_ (aL ho (by simp[aP,tgt]))<;>(try simp only[zF,al,hw,heb,he,jO,eX,fA v,z0,y0,x0,m1,m2,m3,m4,m5,m6,Bool.and_self,Bool.and_false,Bool.false_and,ad,aH,Lm,dx,ai,seval,ah])<;>(try simp only[ap])<;>(try omega)))
  · rw[if_neg hkk]
    have hkk':okW x dz=false:=by simpa using hkk
    rw[hkk']at hkx
    generalize hB1:jJ x=B1 at hmx hkx
    generalize hB2:decide (x.many<0)=B2 at hkx
    generalize hB3:((x.kind:Int)==1)=B3 at hkx
    have hB:B1=false\/(B1=true/\B2=true)\/(B1=true/\B2=false/\B3=true/\dz=true):=by cases B1<;>cases B2<;>cases B3<;>cases dz<;>simp at hkx ⊢
    clear hdz
    rcases hB with rfl|⟨rfl,rfl⟩|⟨rfl,rfl,rfl,rfl⟩
    all_goals (
      refine bh call117 func117 rfl (by kernel_rfl) rfl ?_;intro b0 hb0;have zF:=Ai results117 ntmps117
      have l1:=aB hb0 hw
      have z0:=aD l1
      have l2:=aB hb0 heb
      have y0:=aD l2
      have l3:=aB hb0 he
      have x0:=aD l3
      repeat' first|simp only[ak,ag,zF,al,hat,aV,b1,b2,b4,hB2,hB3,hpi,w1,hw,heb,he,Bt,Bf,Bool.and_false,Bool.and_true,Lm,ai,seval,ah]|exact rfl|refine aa (v:=.any) ?_|(first|(refine ae ?_ (hmx _) ?_)|(refine ab ?_ (fun _=>hmx _) ?_))|refine Ai (by omega) ?_
      all_goals ((refine Fin.give [(w,none),(eb,none),(e,none)] [] ?_ ?_ ?_ ?_ ?_ (aL ho (by simp[aP,tgt]))<;>(try simp only[zF,al,hw,heb,he,fR,fA v,z0,y0,x0,m1,m2,m3,m4,m5,m6,Bool.and_self,Bool.and_false,Bool.false_and,ad,aH,Lm,dx,ai,seval,ah])<;>(try simp only[ap])<;>(try omega))))
def E6 (v:List Nd)(hv:v.length<=512)(hok:∀ n∈v,n.okTo bc/\n.i64)(w eb e:Nat)(n1:w≠eb)(n2:w≠e)(n3:eb≠e):∀(d:Nat),d<=12 -> ∀(p:Nat) (en:List Nat) (M:am) (nm:Nat),p<v.length->en.length=v.length->M w=some ⟨1,[[Mc v w eb]]⟩->M eb=some ⟨1,[[.own e 0 v.length]]⟩->M e=some ⟨1,en.map cQ⟩->(∀ z,(M z).isSome=true->z∈[w,eb,e])->w<nm->eb<nm->e<nm ->
   Ev cx 117 nm [.int .i64 p,.int .i64 (d:Int),.rp [.sl false 6 (v.map aV)],.ptr w 0 0,.ptr eb 0 0] M (.int .i64 (NX (oF v d p en).1)) [(w,some ⟨1,[[Mc v w eb]]⟩),(eb,some ⟨1,[[.own e 0 v.length]]⟩),(e,some ⟨1,(oF v d p en).2.map cQ⟩)]
 | 0,hd=>EJ v hv hok 0 hd true rfl _ (fun h=>absurd rfl h) w eb e n1 n2 n3 (fun h=>absurd rfl h)
 | d+1,hd=>EJ v hv hok (d+1) hd false (by simp) (oF v d) (fun _=>yQ v d) w eb e n1 n2 n3 (fun _=>E6 v hv hok w eb e n1 n2 n3 d (by omega))
def gM:∀ q,(am.nil q).isSome=true->q∈([]:List Nat):=fun q h=>by cases h
def iu (n:Nat):wz cx.P 46 n=⟨1,(List.replicate n 0).map cQ⟩:=by
 unfold wz
 rw[show cG cx.P 46=some ([.int .i64 0],8) by kernel_rfl]
 simp[cQ]
def tm (v:List Nd)(hv:v.length<=bc)(hok:∀ n∈v,n.okTo bc/\n.i64)(r:V)(eff:List (Nat×Option Blk))(nm:Nat)(hr:(bu v=none/\r = .nils/\eff=[]) \/ ∃ en,bu v=some en/\r = .own nm 0 v.length/\eff=[(nm,some ⟨1,en.map cQ⟩)]) :
  Ev cx 66 nm [.sl false 6 (v.map aV)] am.nil r eff:=by
 unfold bc at hv
 by_cases h0:v.length=0
 ·have hb:bu v=none:=by unfold bu;rw[if_pos (by rw[List.length_eq_zero_iff.1 h0];rfl)]
  have hre:r = .nils/\eff=[]:=by
   rcases hr with ⟨_,h⟩|⟨en,h,_⟩
   ·exact h
   ·rw[hb]at h;cases h
  obtain⟨rfl,rfl⟩:=hre
  have q0:((v.length:Int)==0)=true:=by rw[h0];rfl
  refine bh call66 func66 rfl (by kernel_rfl) rfl ?_;intro b0 hb0;have zF:=Ai results66 ntmps66
  (repeat' first|simp only[ak,ag,zF,al,q0,ad,Bt,Lm,ai,seval,ah]|exact rfl|refine aa (v:=.any) ?_|refine aZ (ps:=[(1,2)]) (by decide +kernel) (by simp only[List.forall_mem_cons,List.getD_cons_zero,List.getD_cons_succ,zF,al,q0,ad,Bt,Lm,ai,seval,ah]<;>(try simp)<;>(try omega)) ?_|refine az (by decide +kernel) ?_|((first|apply Ca|apply Cb)<;>intro hb)|refine Ai (by omega) ?_|(apply Ai<;>intro hb)|refine Fin.pure ?_ ?_ ?_|simp only[ap])
 have q0:((v.length:Int)==0)=false:=beq_false_of_ne (by omega)
 by_cases h1:512<v.length
 ·have hb:bu v=none:=by unfold bu;rw[if_pos (by simp[h1])]
  have hre:r = .nils/\eff=[]:=by
   rcases hr with ⟨_,h⟩|⟨en,h,_⟩
   ·exact h
   ·rw[hb]at h;cases h
  obtain⟨rfl,rfl⟩:=hre
  have q1:decide ((512:Int)<(v.length:Int))=true:=bR
  have q2:decide (512<v.length)=true:=decide_eq_true h1
  refine bh call66 func66 rfl (by kernel_rfl) rfl ?_;intro b0 hb0;have zF:=Ai results66 ntmps66
  (repeat' first|simp only[ak,ag,zF,al,q0,q1,q2,ad,Bt,Bf,Lm,ai,seval,ah]|exact rfl|refine aa (v:=.any) ?_|refine aZ (ps:=[(1,2)]) (by decide +kernel) (by simp only[List.forall_mem_cons,List.getD_cons_zero,List.getD_cons_succ,zF,al,q0,q1,q2,ad,Bt,Bf,Lm,ai,seval,ah]<;>(try simp)<;>(try omega)) ?_|refine az (by decide +kernel) ?_|((first|apply Ca|apply Cb)<;>intro hb)|refine Ai (by omega) ?_|(apply Ai<;>intro hb)|refine Fin.pure ?_ ?_ ?_|simp only[ap])
 have q1:decide ((512:Int)<(v.length:Int))=false:=bm
 have q2:decide (512<v.length)=false:=decide_eq_false h1
 obtain⟨x,hx⟩:∃ x,v[0]? = some x:=⟨_,List.getElem?_eq_getElem (by omega)⟩
 have hat:=iL hx
 have hp0:0<v.length:=by omega
 have hpi:(0:Int)<(v.length:Int):=by omega
 by_cases hk:x.kind=1
 ·have q3:((x.kind:Int) != 1)=false:=by rw[hk];rfl
  have hbo:bu v=FT v.length (oF v 12 0 (List.replicate v.length 0)):=by
   have hc:(v.isEmpty||decide (512<v.length) || !((v[0]?).map Nd.kind==some 1))=false:=by
    rw[q2,hx]
    simp only[Option.map_some,hk,beq_self_eq_true,Bt,Bool.or_false]
    cases v with
    | nil=>simp at h0
    | cons _ _=>rfl
   unfold bu
   rw[if_neg (by rw[hc];simp)]
  rw[hbo]at hr
  clear hbo
  have hcall:=fun (M':am) (n:Nat) (w eb e:Nat) (n1:w≠eb) (n2:w≠e) (n3:eb≠e) a1 a2 a3 a4 k1 k2 k3=>E6 v (by omega) hok w eb e n1 n2 n3 12 (by omega) 0 (List.replicate v.length 0) M' n hp0 (by simp) a1 a2 a3 a4 k1 k2 k3
  unfold Mc at hcall
  have hlen:=rE v 12 0 (List.replicate v.length 0)
  rw[List.length_replicate]at hlen
  generalize oF v 12 0 (List.replicate v.length 0)=R at hr hcall hlen
  obtain⟨o,en⟩:=R
  simp only at hcall hlen
  by_cases ho:o=some v.length
  ·subst ho
   simp only[FT,if_pos]at hr
   have hre:r = .own nm 0 v.length/\eff=[(nm,some ⟨1,en.map cQ⟩)]:=by
    rcases hr with ⟨h,_⟩|⟨en',h,h2⟩
    ·cases h
    ·cases h;exact h2
   obtain⟨rfl,rfl⟩:=hre
   have q4:((v.length:Int) !=(v.length:Int))=false:=by simp
   have q5:=jO v.length
   refine lC rfl call66 func66 rfl mixed (by kernel_rfl) rfl ?_;intro b0 hb0;have zF:=Ai results66 ntmps66
   repeat' first|simp only[ak,ag,zF,al,ai,seval,ah]|exact rfl|refine aa (v:=.any) ?_|refine aZ (ps:=[(1,2)]) (by decide +kernel) (by simp only[List.forall_mem_cons,List.getD_cons_zero,List.getD_cons_succ,zF,al,ai,seval,ah]<;>(try simp)<;>(try omega)) ?_|refine az (by decide +kernel) ?_|((first|apply Ca|apply Cb)<;>intro hb)|refine Ai (by omega) ?_|(apply Ai<;>intro hb)
   (refine ki bM (b0+16) ([(1,.rp [.sl false 6 (v.map aV)]),(2,.nils)]) ([]) [] ?_ ?_ ?_;(focus (show b0<=_;omega));(focus (refine⟨?_,?_⟩<;>(try simp only[aX,ad,ai,seval,ah,ap])<;>(try omega))))
   repeat' first|simp only[ak,ag,zF,al,q0,q1,q2,q3,q4,q5,hat,aV,hp0,hpi,iu,ad,aH,List.length_replicate,Bt,Bf,Lm,ai,seval,ah]|exact rfl|refine aa (v:=.any) ?_|((refine cn (caps:=?_) ?_ ?_ [b0+336,b0+304,b0+288] (hcall _ _ (b0+336) (b0+304) (b0+288) (by omega) (by omega) (by omega) ?_ ?_ ?_ aj (by omega) (by omega) (by omega)) ?_ ?_);rotate_left 1)|(refine zN (n:=?_) (c:=?_) (kx:=?_) (ky:=?_) ?_ ?_ ?_ ?_ ?_ ?_;rotate_left 4;(iterate 2 (focus (simp only[zF,al,q0,q1,q2,q3,q4,q5,hat,aV,hp0,hpi,iu,ad,aH,List.length_replicate,Bt,Bf,Lm,ai,seval,ah]<;>exact rfl)));(iterate 2 (focus (simp only[zF,al,q0,q1,q2,q3,q4,q5,hat,aV,hp0,hpi,iu,ad,aH,List.length_replicate,Bt,Bf,Lm,ai,seval,ah]<;>omega)));(focus (simp only[un,zF,al,q0,q1,q2,q3,q4,q5,hat,aV,hp0,hpi,iu,ad,aH,List.length_replicate,Bt,Bf,Lm,ai,seval,ah]<;>omega)))|(refine ba ?_)|(refine aU ?_)|refine aZ (ps:=[(1,2)]) (by decide +kernel) (by simp only[List.forall_mem_cons,List.getD_cons_zero,List.getD_cons_succ,zF,al,q0,q1,q2,q3,q4,q5,hat,aV,hp0,hpi,iu,ad,aH,List.length_replicate,Bt,Bf,Lm,ai,seval,ah]<;>(try simp)<;>(try omega)) ?_|refine az (by decide +kernel) ?_|((first|apply Ca|apply Cb)<;>intro hb)|refine Ai (by omega) ?_|(apply Ai<;>intro hb)
   all_goals ((refine Fin.give [(b0+288,some 0)] [] ?_ ?_ ?_ ?_ ?_ (aL gM (by simp[aP,tgt]))<;>(try simp only[zF,al,hlen,aH,Lm,dx,ai,seval,ah])<;>(try simp only[ap])<;>(try omega)))
  ·have hre:r = .nils/\eff=[]:=by
    rcases hr with ⟨_,h⟩|⟨en',h,h2⟩
    ·exact h
    ·cases o with
     | none=>cases h
     | some e =>
      simp only[FT]at h
      split at h
      ·rename_i he;exact absurd (by rw[he]) ho
      ·cases h
   obtain⟨rfl,rfl⟩:=hre
   have q4:(NX o !=(v.length:Int))=true:=by
    cases o with
    | none=>simp only[NX,bne_iff_ne,ne_eq];omega
    | some e =>
     have:e≠v.length:=fun h=>ho (by rw[h])
     simp only[NX,bne_iff_ne,ne_eq];omega
   have q5:True:=trivial
   refine lC rfl call66 func66 rfl mixed (by kernel_rfl) rfl ?_;intro b0 hb0;have zF:=Ai results66 ntmps66
   repeat' first|simp only[ak,ag,zF,al,ai,seval,ah]|exact rfl|refine aa (v:=.any) ?_|refine aZ (ps:=[(1,2)]) (by decide +kernel) (by simp only[List.forall_mem_cons,List.getD_cons_zero,List.getD_cons_succ,zF,al,ai,seval,ah]<;>(try simp)<;>(try omega)) ?_|refine az (by decide +kernel) ?_|((first|apply Ca|apply Cb)<;>intro hb)|refine Ai (by omega) ?_|(apply Ai<;>intro hb)
   (refine ki bM (b0+16) ([(1,.rp [.sl false 6 (v.map aV)]),(2,.nils)]) ([]) [] ?_ ?_ ?_;(focus (show b0<=_;omega));(focus (refine⟨?_,?_⟩<;>(try simp only[aX,ad,ai,seval,ah,ap])<;>(try omega))))
   repeat' first|simp only[ak,ag,zF,al,q0,q1,q2,q3,q4,q5,hat,aV,hp0,hpi,iu,ad,aH,List.length_replicate,Bt,Bf,Lm,ai,seval,ah]|exact rfl|refine aa (v:=.any) ?_|((refine cn (caps:=?_) ?_ ?_ [b0+336,b0+304,b0+288] (hcall _ _ (b0+336) (b0+304) (b0+288) (by omega) (by omega) (by omega) ?_ ?_ ?_ aj (by omega) (by omega) (by omega)) ?_ ?_);rotate_left 1)|(refine zN (n:=?_) (c:=?_) (kx:=?_) (ky:=?_) ?_ ?_ ?_ ?_ ?_ ?_;rotate_left 4;(iterate 2 (focus (simp only[zF,al,q0,q1,q2,q3,q4,q5,hat,aV,hp0,hpi,iu,ad,aH,List.length_replicate,Bt,Bf,Lm,ai,seval,ah]<;>exact rfl)));(iterate 2 (focus (simp only[zF,al,q0,q1,q2,q3,q4,q5,hat,aV,hp0,hpi,iu,ad,aH,List.length_replicate,Bt,Bf,Lm,ai,seval,ah]<;>omega)));(focus (simp only[un,zF,al,q0,q1,q2,q3,q4,q5,hat,aV,hp0,hpi,iu,ad,aH,List.length_replicate,Bt,Bf,Lm,ai,seval,ah]<;>omega)))|(refine ba ?_)|(refine aU ?_)|refine aZ (ps:=[(1,2)]) (by decide +kernel) (by simp only[List.forall_mem_cons,List.getD_cons_zero,List.getD_cons_succ,zF,al,q0,q1,q2,q3,q4,q5,hat,aV,hp0,hpi,iu,ad,aH,List.length_replicate,Bt,Bf,Lm,ai,seval,ah]<;>(try simp)<;>(try omega)) ?_|refine az (by decide +kernel) ?_|((first|apply Ca|apply Cb)<;>intro hb)|refine Ai (by omega) ?_|(apply Ai<;>intro hb)
   all_goals ((refine Fin.pure ?_ ?_ ?_<;>simp only[Lm,zF,ai,seval,ah]))
 ·have hb:bu v=none:=by
   unfold bu
   rw[if_pos (by rw[hx];simp[hk])]
  have hre:r = .nils/\eff=[]:=by
   rcases hr with ⟨_,h⟩|⟨en,h,_⟩
   ·exact h
   ·rw[hb]at h;cases h
  obtain⟨rfl,rfl⟩:=hre
  have q3:((x.kind:Int) != 1)=true:=by simp;omega
  refine bh call66 func66 rfl (by kernel_rfl) rfl ?_;intro b0 hb0;have zF:=Ai results66 ntmps66
  (repeat' first|simp only[ak,ag,zF,al,q0,q1,q2,q3,hat,aV,hp0,hpi,ad,Bt,Bf,Lm,ai,seval,ah]|exact rfl|refine aa (v:=.any) ?_|refine aZ (ps:=[(1,2)]) (by decide +kernel) (by simp only[List.forall_mem_cons,List.getD_cons_zero,List.getD_cons_succ,zF,al,q0,q1,q2,q3,hat,aV,hp0,hpi,ad,Bt,Bf,Lm,ai,seval,ah]<;>(try simp)<;>(try omega)) ?_|refine az (by decide +kernel) ?_|((first|apply Ca|apply Cb)<;>intro hb)|refine Ai (by omega) ?_|(apply Ai<;>intro hb)|refine Fin.pure ?_ ?_ ?_|simp only[ap])
def jx (v:List Nd)(hv:v.length<=bc)(hok:∀ n∈v,n.okTo bc/\n.i64)(h:bu v=none)(nm:Nat):Ev cx 66 nm [.sl false 6 (v.map aV)] am.nil .nils [] :=
 tm v hv hok .nils [] nm (.inl ⟨h,rfl,rfl⟩)
def gD (v:List Nd)(hv:v.length<=bc)(hok:∀ n∈v,n.okTo bc/\n.i64){en:List Nat}(h:bu v=some en)(nm:Nat):Ev cx 66 nm [.sl false 6 (v.map aV)] am.nil (.own nm 0 v.length) [(nm,some ⟨1,en.map cQ⟩)] :=
 tm v hv hok _ _ nm (.inr ⟨en,h,rfl,rfl⟩)
end Go.Proofs.YtlnlopnpcmahgaaGreatDoor
