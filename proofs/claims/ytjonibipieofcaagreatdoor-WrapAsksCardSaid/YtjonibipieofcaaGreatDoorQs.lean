/-
 Texts joined: XUi,XSf,XSg,XSh.
-/
import Derived.Test.YtjonibipieofcaaGreatDoorQn
import Derived.Test.YtjonibipieofcaaGreatDoorQr
set_option linter.all false
namespace Go.Proofs.YtjonibipieofcaaGreatDoor
set_option maxRecDepth 100000
set_option maxHeartbeats 32000000
open Nat renaming reduceAdd->Ka,reduceMul->Kb,reduceEqDiff->Kc,reduceLeDiff->Kd,reduceSub->Ke,reduceLT->Kf,reduceBEq->Kr,reduceBNe->Ks,reducePow->Kt
open Int renaming reduceToNat->Kg,reduceLE->Kh,reduceLT->Ki,reduceAdd->Kj,reduceSub->Kk,reduceMul->Kl,reduceNeg->Km,reduceBEq->Kn,reduceBNe->Ko,reduceEq->Kp,reduceNe->Kq
open Go Go.RowKit Vm Go.Lib Tryz
open Vm renaming aI->Ca,aP->Cb
open And renaming intro->Ai
open List renaming length_map->Lm,not_mem_nil->Ln,map_nil->Lo,map_cons->Lc,mem_cons->Lk
open Bool renaming not_false->Bf,not_true->Bt
def Lt {x y:Nd} : x=y↔x.kind=y.kind/\x.space=y.space/\x.name=y.name/\x.text=y.text/\x.many=y.many/\x.attrs=y.attrs:=by
 cases x;cases y;simp only[Nd.mk.injEq];constructor
 ·rintro ⟨h1,h2,h3,h4,h5,h6⟩;exact⟨h1,h2,h3,h5,h6,h4⟩
 ·rintro ⟨h1,h2,h3,h4,h5,h6⟩;exact⟨h1,h2,h3,h6,h4,h5⟩
def Er (a b:List At)(ha:a.length<=aT)(hb:b.length<=aT)(nm:Nat):Ev cx 108 nm [.sl false 3 (a.map bf),.sl false 3 (b.map bf)] ao.nil (.bool (decide (a=b))) []:=by
  unfold aT at ha hb
  by_cases hl:a.length=b.length
  · have e1 : (((a.length:Nat):Int) !=((b.length:Nat):Int))=false:=gC hl
    refine aX call108 func108 ?_;intro b0 hb0
    refine wR (a3 results108 ntmps108 e1) trivial ?_
    (refine ew (fun x:Nat=>a.length-x) (fun x=>x<=a.length/\kI a b x) (b0+16) (fun x=>[(0,.sl false 3 (a.map bf)),(1,.sl false 3 (b.map bf)),(5,.int .i64 x)]) (fun x=>[]) (0) [] ?_ ?_ ?_;(focus (refine⟨?_,?_⟩<;>(try simp only[aE,ab,Lm,aj,Ka,Kb,Kc,Kd,Ke,Kf,Kg,Kh,Ki,Kj,Kk,Kl,Km,reduceCtorEq,reduceIte,Kn,Ko,Kp,Kq,Kr,Ks,ai,aq])<;>(try omega))))
    · exact⟨Nat.zero_le _,fun i hi=>by omega⟩
    · rintro k ⟨hk,hsm⟩
      by_cases hlt:k<a.length
      · obtain ⟨x,hx⟩:∃ x,a[k]? = some x:=⟨_,List.getElem?_eq_getElem hlt⟩
        obtain⟨y,hy⟩:∃ y,b[k]? = some y:=⟨_,List.getElem?_eq_getElem (hl ▸ hlt)⟩
        have hax:=iu hx
        have hby:=iu hy
        have hd:=decide_eq_true hlt
        have hlt2:k<b.length:=hl ▸ hlt
        have hwk:=eD k
        by_cases hxy:x=y
        · subst hxy
          have hsm':=fR hsm hx hy
          refine wR (a9 results108 ntmps108 @ab hax hby @bf.eq_1 hd hlt hlt2) trivial ?_
          all_goals ((refine de (k+1) [] ?_ ?_ ?_;(focus (refine⟨?_,?_⟩<;>(try simp only[aE,ab,hwk,Lm,aj,Ka,Kb,Kc,Kd,Ke,Kf,Kg,Kh,Ki,Kj,Kk,Kl,Km,reduceCtorEq,reduceIte,Kn,Ko,Kp,Kq,Kr,Ks,ai,aq])<;>(try omega)))))
          all_goals (first|(show a.length-(k+1)<a.length-k;omega)|exact⟨hlt,hsm'⟩|skip)
        · have hr:decide (a=b)=false:=decide_eq_false (mD hx hy hxy)
          have e2:((x.space==y.space)&&((x.name==y.name)&&(x.value==y.value)))=false:=by
            cases x with|mk xs xn xv=>cases y with|mk ys yn yv =>
            simp only[At.mk.injEq,not_and]at hxy
            by_cases h0:xs=ys
            · by_cases h1:xn=yn
              · have:=hxy h0 h1
                simp[this]
              · simp[h1]
            · simp[h0]
          exact wP (a3 results108 ntmps108 (a9 @ab hax hby @bf.eq_1 hd hlt hlt2 hr e2)) trivial
      · have hke:k=a.length:=by omega
        subst hke
        have hr:decide (a=b)=true:=decide_eq_true (j5 hl hsm)
        have hd:decide (a.length<a.length)=false:=bi
        exact wP (a4 results108 ntmps108 hd hr) trivial
  · have e1:(((a.length:Nat):Int) !=((b.length:Nat):Int))=true:=gD hl
    have hr:decide (a=b)=false:=decide_eq_false (fun e=>hl (congrArg List.length e))
    refine aX call108 func108 ?_;intro b0 hb0
    exact wP (a4 results108 ntmps108 e1 hr) trivial
def Et (a b:List Nd)(ha:a.length<=aT)(hb:b.length<=aT)(ha2:∀ t∈a,t.attrs.length<=aT)(hb2:∀ t∈b,t.attrs.length<=aT)(nm:Nat):Ev cx 58 nm [.sl false 6 (a.map aD),.sl false 6 (b.map aD)] ao.nil (.bool (decide (a=b))) []:=by
  unfold aT at ha hb
  by_cases hl:a.length=b.length
  · have e1:(((a.length:Nat):Int) !=((b.length:Nat):Int))=false:=gC hl
    refine aX call58 func58 ?_;intro b0 hb0
    refine wR (a3 results58 ntmps58 e1) trivial ?_
    (refine ew (fun x:Nat=>a.length-x) (fun x=>x<=a.length/\kI a b x) (b0+16) (fun x=>[(0,.sl false 6 (a.map aD)),(1,.sl false 6 (b.map aD)),(5,.int .i64 x)]) (fun x=>[]) (0) [] ?_ ?_ ?_;(focus (refine⟨?_,?_⟩<;>(try simp only[aE,ae,Lm,aj,Ka,Kb,Kc,Kd,Ke,Kf,Kg,Kh,Ki,Kj,Kk,Kl,Km,reduceCtorEq,reduceIte,Kn,Ko,Kp,Kq,Kr,Ks,ai,aq])<;>(try omega))))
    · exact⟨Nat.zero_le _,fun i hi=>by omega⟩
    · rintro k ⟨hk,hsm⟩
      by_cases hlt:k<a.length
      · obtain⟨x,hx⟩:=ic hlt
        obtain⟨y,hy⟩:∃ y,b[k]? = some y:=⟨_,List.getElem?_eq_getElem (hl ▸ hlt)⟩
        have hax:=dS hx
        have hby:=dS hy
        have hd:=decide_eq_true hlt
        have hlt2:k<b.length:=hl ▸ hlt
        have hwk:=eD k
        have hsp:=Er x.attrs y.attrs (ha2 x (List.mem_of_getElem? hx)) (hb2 y (List.mem_of_getElem? hy))
        by_cases hxy:x=y
        · subst hxy
          have hsm':=fR hsm hx hy
          have hz:decide (x.attrs=x.attrs)=true:=decide_eq_true rfl
          rw[hz]at hsp
          repeat' first|simp (maxSteps:=4000000) only[au,ap,results58,ntmps58,Kt,am,List.append_eq,ab,hax,hby,aD,hd,hlt,hlt2,beq_self_eq_true,bne_self_eq_false,Bool.and_self,Bt,Lm,aj,Ka,Kb,Kc,Kd,Ke,Kf,Kg,Kh,Ki,Kj,Kk,Kl,Km,reduceCtorEq,reduceIte,Kn,Ko,Kp,Kq,Kr,Ks,ai]|exact rfl|refine aa (v:=.any) ?_|(first|(refine ah ?_ (hsp _) ?_)|(refine ac ?_ (fun _=>hsp _) ?_))|refine av (by decide +kernel) ?_|((first|apply Ca|apply Cb)<;>intro hb)|refine Ai (by omega) ?_|(apply Ai<;>intro hb)
          all_goals ((refine de (k+1) [] ?_ ?_ ?_;(focus (refine⟨?_,?_⟩<;>(try simp only[aE,ae,hwk,Lm,aj,Ka,Kb,Kc,Kd,Ke,Kf,Kg,Kh,Ki,Kj,Kk,Kl,Km,reduceCtorEq,reduceIte,Kn,Ko,Kp,Kq,Kr,Ks,ai,aq])<;>(try omega)))))
          all_goals (first|(show a.length-(k+1)<a.length-k;omega)|exact⟨hlt,hsm'⟩|skip)
        · have hr:decide (a=b)=false:=decide_eq_false (mD hx hy hxy)
          have hk1:((x.kind:Int) !=(y.kind:Int)) = !decide (x.kind=y.kind):=by rw[bne,JM]
          have hk2:(x.many != y.many) = !decide (x.many=y.many):=by
            rw[bne];congr 1
          have hcs:decide (x.kind=y.kind)=false\/(decide (x.kind=y.kind)=true/\(x.space==y.space)=false)\/(decide (x.kind=y.kind)=true/\(x.space==y.space)=true/\(x.name==y.name)=false)\/(decide (x.kind=y.kind)=true/\(x.space==y.space)=true/\(x.name==y.name)=true/\(x.text==y.text)=false)\/(decide (x.kind=y.kind)=true/\(x.space==y.space)=true/\(x.name==y.name)=true/\(x.text==y.text)=true/\decide (x.many=y.many)=false)\/(decide (x.kind=y.kind)=true/\(x.space==y.space)=true/\(x.name==y.name)=true/\(x.text==y.text)=true/\decide (x.many=y.many)=true/\decide (x.attrs=y.attrs)=false):=by
            have hx2:¬(decide (x.kind=y.kind)=true/\(x.space==y.space)=true/\(x.name==y.name)=true/\(x.text==y.text)=true/\decide (x.many=y.many)=true/\decide (x.attrs=y.attrs)=true):=by
              rintro ⟨h1,h2,h3,h4,h5,h6⟩
              exact hxy (Lt.2 ⟨of_decide_eq_true h1,eq_of_beq h2,eq_of_beq h3,eq_of_beq h4,of_decide_eq_true h5,of_decide_eq_true h6⟩)
            generalize decide (x.kind=y.kind)=p1 at hx2 ⊢
            generalize (x.space==y.space)=p2 at hx2 ⊢
            generalize (x.name==y.name)=p3 at hx2 ⊢
            generalize (x.text==y.text)=p4 at hx2 ⊢
            generalize decide (x.many=y.many)=p5 at hx2 ⊢
            generalize decide (x.attrs=y.attrs)=p6 at hx2 ⊢
            cases p1<;>cases p2<;>cases p3<;>cases p4<;>cases p5<;>cases p6<;>simp at hx2 ⊢
          generalize hg1:decide (x.kind=y.kind)=g1 at hcs hk1
          generalize hg2:(x.space==y.space)=g2 at hcs
          generalize hg3:(x.name==y.name)=g3 at hcs
          generalize hg4:(x.text==y.text)=g4 at hcs
          generalize hg5:decide (x.many=y.many)=g5 at hcs hk2
          generalize hg6:decide (x.attrs=y.attrs)=g6 at hcs hsp
          rcases hcs with rfl|⟨rfl,rfl⟩|⟨rfl,rfl,rfl⟩|⟨rfl,rfl,rfl,rfl⟩|⟨rfl,rfl,rfl,rfl,rfl⟩|⟨rfl,rfl,rfl,rfl,rfl,rfl⟩
          all_goals ((repeat' first|simp (maxSteps:=4000000) only[au,ap,results58,ntmps58,Kt,am,List.append_eq,ab,hax,hby,aD,hd,hlt,hlt2,hr,hk1,hk2,hg2,hg3,hg4,Bt,Bf,Lm,aj,Ka,Kb,Kc,Kd,Ke,Kf,Kg,Kh,Ki,Kj,Kk,Kl,Km,reduceCtorEq,reduceIte,Kn,Ko,Kp,Kq,Kr,Ks,ai]|exact rfl|refine aa (v:=.any) ?_|(first|(refine ah ?_ (hsp _) ?_)|(refine ac ?_ (fun _=>hsp _) ?_))|(refine aa (v:=.any) ?_)|refine av (by decide +kernel) ?_|((first|apply Ca|apply Cb)<;>intro hb)|refine Ai (by omega) ?_|(apply Ai<;>intro hb)|apply Fin.pure|simp only[aq]))
      · have hke:k=a.length:=by omega
        subst hke
        have hr:decide (a=b)=true:=decide_eq_true (j5 hl hsm)
        have hd:decide (a.length<a.length)=false:=bi
        exact wP (a4 results58 ntmps58 hd hr) trivial
  · have e1:(((a.length:Nat):Int) !=((b.length:Nat):Int))=true:=gD hl
    have hr:decide (a=b)=false:=decide_eq_false (fun e=>hl (congrArg List.length e))
    refine aX call58 func58 ?_;intro b0 hb0
    exact wP (a4 results58 ntmps58 e1 hr) trivial
set_option maxRecDepth 100000
set_option maxHeartbeats 32000000
open Go Go.RowKit Vm Go.Lib Tryz
open Vm renaming aI->Ca,aP->Cb
open And renaming intro->Ai
open List renaming length_map->Lm,not_mem_nil->Ln,map_nil->Lo,map_cons->Lc,mem_cons->Lk
open Bool renaming not_false->Bf,not_true->Bt
def J3 (o:Option Nat):Int:=match o with|some n=>n|none=>-1
def iY (n:Nat):J3 (some n)=n:=rfl
def fj:J3 none = -1:=rfl
def Nd.i64 (n:Nd):Prop:=-9223372036854775808<=n.many/\n.many<=9223372036854775807
structure WSt where
 k:Nat
 next:Option Nat
 last:Nat
 en:List Nat
def eN (v:List Nd):V.plain (.rp [.sl false 6 (v.map aD)])=true:=by simp[V.plain,plainL,ae]
def IA (v:List Nd)(w eb:Nat):V:=.fn 84 [.rp [.sl false 6 (v.map aD)],.ptr w 0 0,.ptr eb 0 0]
def Cd (v:List Nd)(hv:v.length<=512)(hok:∀ n∈v,n.okTo aT/\n.i64)(d:Nat)(hd:d<=12)(dz:Bool)(hdz:dz=decide (d=0))(W:Nat->List Nat->Option Nat×List Nat)(hW:d≠0->rr v (d-1) W)(w eb e:Nat)(n1:w≠eb)(n2:w≠e)(n3:eb≠e)
    (ih:d≠0 -> ∀(p:Nat) (en:List Nat) (M:ao) (nm:Nat),p<v.length->en.length=v.length->M w=some ⟨1,[[IA v w eb]]⟩->M eb=some ⟨1,[[.own e 0 v.length]]⟩->M e=some ⟨1,en.map gn⟩->(∀ z,(M z).isSome=true->z∈[w,eb,e])->w<nm->eb<nm->e<nm ->
      Ev cx 84 nm [.int .i64 p,.int .i64 ((d-1:Nat):Int),.rp [.sl false 6 (v.map aD)],.ptr w 0 0,.ptr eb 0 0] M (.int .i64 (J3 (W p en).1)) [(w,some ⟨1,[[IA v w eb]]⟩),(eb,some ⟨1,[[.own e 0 v.length]]⟩),(e,some ⟨1,(W p en).2.map gn⟩)])
    (p:Nat) (en:List Nat) (M:ao) (nm:Nat) (hp:p<v.length) (hl:en.length=v.length) (hw:M w=some ⟨1,[[IA v w eb]]⟩) (heb:M eb=some ⟨1,[[.own e 0 v.length]]⟩) (he:M e=some ⟨1,en.map gn⟩) (ho:∀ z,(M z).isSome=true->z∈[w,eb,e]) (lw:w<nm) (leb:eb<nm) (le:e<nm) :
    Ev cx 84 nm [.int .i64 p,.int .i64 d,.rp [.sl false 6 (v.map aD)],.ptr w 0 0,.ptr eb 0 0] M (.int .i64 (J3 (iW W v dz p en).1)) [(w,some ⟨1,[[IA v w eb]]⟩),(eb,some ⟨1,[[.own e 0 v.length]]⟩),(e,some ⟨1,(iW W v dz p en).2.map gn⟩)]:=by
  obtain⟨x,hx⟩:∃ x,v[p]? = some x:=⟨_,List.getElem?_eq_getElem hp⟩
  obtain⟨hxo,hx1,hx2⟩:=hok x (List.mem_of_getElem? hx)
  have hat:=dS hx
  have hmx:=GK x hxo
  have b1:decide ((p:Int)<0)=false:=bi
  have b2:decide (v.length<=p)=false:=bi
  have hpi:=jB p v.length
  have b4:((d:Int)==0)=dz:=by rw[hdz,Bool.eq_iff_iff];simp
  have hkx:okW x dz=(gE x && !decide (x.many<0) && !(((x.kind:Int)==1)&&dz)):=by
    unfold okW
    have h1:decide (0<=x.many) = !decide (x.many<0):=by rw[Bool.eq_iff_iff];simp
    have h2:((x.kind:Int)==1)=(x.kind==1):=by rw[Bool.eq_iff_iff];simp;omega
    rw[h1,h2]
  have hwalk:iW W v dz p en=if okW x dz=true then ed p (bN W v x.many.toNat (some (p+1)) 1 en) else (none,en):=by
    unfold iW;rw[hx]
  have hroom:okW x dz=true->x.many.toNat≠0->d≠0:=by
    rintro h1 h2 rfl
    unfold okW at h1
    simp only[Bool.and_eq_true,decide_eq_true_eq,Bool.not_eq_true',Bool.and_eq_false_iff,beq_eq_false_iff_ne]at h1
    obtain⟨⟨a1,a2⟩,a3⟩:=h1
    rw[hdz]at a3
    simp at a3
    rcases gF a1 with h|h
    · exact a3 h
    · rw[(gG a1 h).2.2.2.1]at h2;exact h2 rfl
  rw[hwalk]
  clear hwalk
  have w1:=eD p
  have m1:=eq_false n1;have m2:=eq_false n2;have m3:=eq_false n3
  have m4:=eq_false (Ne.symm n1);have m5:=eq_false (Ne.symm n2);have m6:=eq_false (Ne.symm n3)
  unfold IA at hw ⊢
  by_cases hkk:okW x dz=true
  · rw [if_pos hkk]
    have hroom:=hroom hkk
    rw[hkk]at hkx
    generalize hB1:gE x=B1 at hmx hkx
    generalize hB2:decide (x.many<0)=B2 at hkx
    generalize hB3:((x.kind:Int)==1)=B3 at hkx
    have hB:B1=true/\B2=false/\(B3&&dz)=false:=by cases B1<;>cases B2<;>cases B3<;>cases dz<;>simp at hkx ⊢
    obtain⟨rfl,rfl,hB4⟩:=hB
    have h0:0<=x.many:=by simpa using hB2
    obtain⟨m,hm⟩:∃ m:Nat,x.many=(m:Int):=⟨x.many.toNat,by omega⟩
    rw[hm]at hx2 hB2 hroom ⊢
    rw[Int.toNat_natCast]at hroom ⊢
    have hroom:∀ k,k<m->d≠0:=fun k hk=>hroom (by omega)
    refine aX call84 func84 ?_;intro b0 hb0;have zF:=Ai results84 ntmps84
    have l1:=bp hb0 hw
    have z0:=bB l1
    have l2:=bp hb0 heb
    have y0:=bB l2
    have l3:=bp hb0 he
    have x0:=bB l3
    repeat' first|simp only[au,ap,zF,am,hat,aD,hm,b1,b2,b4,hB2,hB3,hB4,hpi,w1,hw,heb,he,Bt,Bf,Bool.and_false,Lm,aj,ai,seval]|exact rfl|refine aa (v:=.any) ?_|(first|(refine ah ?_ (hmx _) ?_)|(refine ac ?_ (fun _=>hmx _) ?_))|refine Ai (by omega) ?_
    (refine ew (fun s:WSt=>m-s.k) (fun s=>s.k<=m/\s.en.length=v.length/\(∀ q,s.next=some q->q<=v.length)/\bN W v m (some (p+1)) 1 en=bN W v (m-s.k) s.next s.last s.en) (b0+16) (fun s=>[(0,.int .i64 p),(1,.int .i64 (d:Int)),(2,.rp [.sl false 6 (v.map aD)]),(3,.ptr w 0 0),(4,.ptr eb 0 0),(8,.int .i64 (J3 s.next)),(9,.int .u8 s.last),(52,.int .i64 m),(53,.int .i64 s.k)]) (fun s=>[(w,⟨1,[[.fn 84 [.rp [.sl false 6 (v.map aD)],.ptr w 0 0,.ptr eb 0 0]]]⟩),(eb,⟨1,[[.own e 0 v.length]]⟩),(e,⟨1,s.en.map gn⟩)]) (⟨0,some (p+1),1,en⟩) [some w,some eb,some e] ?_ ?_ ?_;(focus (refine⟨?_,?_⟩<;>(try simp only[aE,ae,aJ,eN v,hw,heb,he,z0,y0,x0,m1,m2,m3,m4,m5,m6,iY,Bool.and_self,Bool.and_false,Bool.false_and,Lm,aj,ai,aq,seval])<;>(try omega))))
    · exact⟨Nat.zero_le _,hl,fun q hq=>by cases hq;omega,rfl⟩
    · rintro ⟨k,next,last,en1⟩ ⟨hk,hl1,hq,hinv⟩
      dsimp only at hk hl1 hq hinv ⊢
      rw[hinv]
      by_cases hlt:k<m
      · have hd1:=sC k m
        have hd2:=decide_eq_true hlt
        obtain⟨c,hc⟩:∃ c,m-k=c+1:=⟨m-k-1,by omega⟩
        have hc2:m-(k+1)=c:=by omega
        rw[hc]at hinv ⊢
        have hwk:=eD k
        cases next with
        | none =>
          have hr:bN W v (c+1) none last en1=(none,en1):=rfl
          rw[hr]
          have q0:decide ((-1:Int)<0)=true:=rfl
          repeat' first|simp only[au,ap,zF,am,hd1,hd2,q0,fj,ed,Bt,Bf,Bool.and_false,Lm,aj,ai,seval]|exact rfl|refine aa (v:=.any) ?_|((first|apply Ca|apply Cb)<;>intro hb)|refine Ai (by omega) ?_|(apply Ai<;>intro hb)
          all_goals ((refine Fin.give [(w,none),(eb,none),(e,none)] [] ?_ ?_ ?_ ?_ ?_ (bA ho (by simp[bt,tgt]))<;>(try simp only[zF,am,hw,heb,he,fj,ed,eN v,z0,y0,x0,m1,m2,m3,m4,m5,m6,Bool.and_self,Bool.and_false,Bool.false_and,ae,aJ,Lm,jK,aj,ai,seval])<;>(try simp only[aq])<;>(try omega)))
        | some q =>
          have hqv:=hq q rfl
          have q0:decide ((q:Int)<0)=false:=bi
          cases hy:v[q]? with
          | none =>
            have hge:v.length<=q:=List.getElem?_eq_none_iff.1 hy
            have q1:decide (v.length<=q)=true:=decide_eq_true hge
            have hr:bN W v (c+1) (some q) last en1=(none,en1):=by simp[bN,hy]
            rw[hr]
            repeat' first|simp only[au,ap,zF,am,hd1,hd2,q0,q1,iY,fj,ed,Bt,Bf,Bool.and_false,Lm,aj,ai,seval]|exact rfl|refine aa (v:=.any) ?_|((first|apply Ca|apply Cb)<;>intro hb)|refine Ai (by omega) ?_|(apply Ai<;>intro hb)
            all_goals ((refine Fin.give [(w,none),(eb,none),(e,none)] [] ?_ ?_ ?_ ?_ ?_ (bA ho (by simp[bt,tgt]))<;>(try simp only[zF,am,hw,heb,he,fj,ed,eN v,z0,y0,x0,m1,m2,m3,m4,m5,m6,Bool.and_self,Bool.and_false,Bool.false_and,ae,aJ,Lm,jK,aj,ai,seval])<;>(try simp only[aq])<;>(try omega)))
          | some y =>
            have hql:=(List.getElem?_eq_some_iff.1 hy).1
            have q1:decide (v.length<=q)=false:=bi
            have hay:=dS hy
            have hqi:=jB q v.length
            have hbb:(((last:Int)==2)&&((y.kind:Int)==(last:Int)))=(last==2&&y.kind==2):=by
              rw[Bool.eq_iff_iff];simp;omega
            have hd0:=hroom k hlt
            have hwd:IntKind.i64.wrap ((d:Int)-1)=((d-1:Nat):Int):=by rw[bH];omega
            cases hB:(last==2&&y.kind==2) with
            | true =>
              rw[hB]at hbb
              simp only[Bool.and_eq_true]at hbb
              obtain⟨q2,q3⟩:=hbb
              have hr:bN W v (c+1) (some q) last en1=(none,en1):=by simp[bN,hy,hB]
              rw[hr]
              repeat' first|simp only[au,ap,zF,am,hd1,hd2,q0,q1,q2,q3,hay,aD,hql,hqi,iY,fj,ed,Bt,Bf,Bool.and_false,Lm,aj,ai,seval]|exact rfl|refine aa (v:=.any) ?_|((first|apply Ca|apply Cb)<;>intro hb)|refine Ai (by omega) ?_|(apply Ai<;>intro hb)
              all_goals ((refine Fin.give [(w,none),(eb,none),(e,none)] [] ?_ ?_ ?_ ?_ ?_ (bA ho (by simp[bt,tgt]))<;>(try simp only[zF,am,hw,heb,he,fj,ed,eN v,z0,y0,x0,m1,m2,m3,m4,m5,m6,Bool.and_self,Bool.and_false,Bool.false_and,ae,aJ,Lm,jK,aj,ai,seval])<;>(try simp only[aq])<;>(try omega)))
            | false =>
              rw[hB]at hbb
              have hr:bN W v (c+1) (some q) last en1=bN W v c (W q en1).1 y.kind (W q en1).2:=by simp[bN,hy,hB]
              rw[hr]at hinv ⊢
              have hcall:=fun (M':ao) (a1:M' w=some ⟨1,[[IA v w eb]]⟩) (a2:M' eb=some ⟨1,[[.own e 0 v.length]]⟩) (a3:M' e=some ⟨1,en1.map gn⟩) (a4:∀ z,(M' z).isSome=true->z∈[w,eb,e]) (n:Nat) (k1:w<n) (k2:eb<n) (k3:e<n)=>ih hd0 q en1 M' n hql hl1 a1 a2 a3 a4 k1 k2 k3
              unfold IA at hcall
              obtain⟨t1,t2⟩:=(hW hd0) q en1 hl1 |>.1
              generalize hB2:((last:Int)==2)=g2 at hbb
              generalize hB3:((y.kind:Int)==(last:Int))=g3 at hbb
              have hcs:(g2=true/\g3=false)\/g2=false:=by cases g2<;>cases g3<;>simp at hbb ⊢
              rcases hcs with ⟨rfl,rfl⟩|rfl
              all_goals (
                repeat' first|simp only[au,ap,zF,am,hd1,hd2,q0,q1,hB2,hB3,hay,aD,hql,hqi,hwd,hwk,z0,y0,x0,m1,m2,m3,m4,m5,m6,iY,fj,Bt,Bf,Bool.and_false,Lm,aj,ai,seval]|exact rfl|refine aa (v:=.any) ?_|((refine dv (caps:=?_) ?_ ?_ [w,eb,e] (hcall _ ?_ ?_ ?_ aN _ (by omega) (by omega) (by omega)) ?_ ?_);rotate_left 1)|((first|apply Ca|apply Cb)<;>intro hb)|refine Ai (by omega) ?_|(apply Ai<;>intro hb)
                all_goals ((refine de (⟨k+1,(W q en1).1,y.kind,(W q en1).2⟩) [some w,some eb,some e] ?_ ?_ ?_;(focus (refine⟨?_,?_⟩<;>(try simp only[aE,ae,aJ,eN v,hwk,z0,y0,x0,m1,m2,m3,m4,m5,m6,Bool.and_self,Bool.and_false,Bool.false_and,Lm,aj,ai,aq,seval])<;>(try omega)))))
                all_goals (first|(show m-(k+1)<c+1;omega)|exact⟨hlt,t1,fun q' hq'=>by obtain⟨_,_,_,_,_,h4,_⟩:=t2 q' hq';exact h4,by show _=bN _ _ (m-(k+1)) _ _ _;rw[hc2]⟩|skip))
      · have hkm:k=m:=by omega
        subst hkm
        have hd1:=nu k k
        have hd2:decide (k<k)=false:=bi
        have hr:bN W v (k-k) next last en1=(next,en1):=by rw[Nat.sub_self];rfl
        rw[hr]
        cases next with
        | none =>
          have q0:decide ((0:Int) <= -1)=false:=rfl
          repeat' first|simp only[au,ap,zF,am,hd1,hd2,q0,fj,ed,Bt,Bf,Bool.and_false,Lm,aj,ai,seval]|exact rfl|refine aa (v:=.any) ?_|((first|apply Ca|apply Cb)<;>intro hb)|refine Ai (by omega) ?_|(apply Ai<;>intro hb)
          all_goals ((refine Fin.give [(w,none),(eb,none),(e,none)] [] ?_ ?_ ?_ ?_ ?_ (bA ho (by simp[bt,tgt]))<;>(try simp only[zF,am,hw,heb,he,fj,ed,eN v,z0,y0,x0,m1,m2,m3,m4,m5,m6,Bool.and_self,Bool.and_false,Bool.false_and,ae,aJ,Lm,jK,aj,ai,seval])<;>(try simp only[aq])<;>(try omega)))
        | some q =>
          have q0:decide ((0:Int)<=(q:Int))=true:=dh
          have hset:(en1.map gn).set p [.int .i64 q]=(en1.set p q).map gn:=by rw[List.map_set];rfl
          have hpl:p<en1.length:=by omega
          have hgp:(en1.map gn)[p]? = some (gn (en1[p]'hpl)):=by rw[List.getElem?_map,List.getElem?_eq_getElem hpl];rfl
          repeat' first|simp only[au,ap,zF,am,hd1,hd2,q0,hset,hgp,gn,hpi,hp,z0,y0,x0,m1,m2,m3,m4,m5,m6,iY,ed,Bt,Bf,Bool.and_false,Lm,aj,ai,seval]|exact rfl|refine aa (v:=.any) ?_|((first|apply Ca|apply Cb)<;>intro hb)|refine Ai (by omega) ?_|(apply Ai<;>intro hb)
          all_goals ((refine Fin.give [(w,none),(eb,none),(e,none)] [] ?_ ?_ ?_ ?_ ?_ (bA ho (by simp[bt,tgt]))<;>(try simp only[zF,am,hw,heb,he,iY,ed,eN v,z0,y0,x0,m1,m2,m3,m4,m5,m6,Bool.and_self,Bool.and_false,Bool.false_and,ae,aJ,Lm,jK,aj,ai,seval])<;>(try simp only[aq])<;>(try omega)))
  · rw[if_neg hkk]
    have hkk':okW x dz=false:=by simpa using hkk
    rw[hkk']at hkx
    generalize hB1:gE x=B1 at hmx hkx
    generalize hB2:decide (x.many<0)=B2 at hkx
    generalize hB3:((x.kind:Int)==1)=B3 at hkx
    have hB:B1=false\/(B1=true/\B2=true)\/(B1=true/\B2=false/\B3=true/\dz=true):=by cases B1<;>cases B2<;>cases B3<;>cases dz<;>simp at hkx ⊢
    clear hdz
    rcases hB with rfl|⟨rfl,rfl⟩|⟨rfl,rfl,rfl,rfl⟩
    all_goals (
      refine aX call84 func84 ?_;intro b0 hb0;have zF:=Ai results84 ntmps84
      have l1:=bp hb0 hw
      have z0:=bB l1
      have l2:=bp hb0 heb
      have y0:=bB l2
      have l3:=bp hb0 he
      have x0:=bB l3
      repeat' first|simp only[au,ap,zF,am,hat,aD,b1,b2,b4,hB2,hB3,hpi,w1,hw,heb,he,Bt,Bf,Bool.and_false,Bool.and_true,Lm,aj,ai,seval]|exact rfl|refine aa (v:=.any) ?_|(first|(refine ah ?_ (hmx _) ?_)|(refine ac ?_ (fun _=>hmx _) ?_))|refine Ai (by omega) ?_
      all_goals ((refine Fin.give [(w,none),(eb,none),(e,none)] [] ?_ ?_ ?_ ?_ ?_ (bA ho (by simp[bt,tgt]))<;>(try simp only[zF,am,hw,heb,he,fj,eN v,z0,y0,x0,m1,m2,m3,m4,m5,m6,Bool.and_self,Bool.and_false,Bool.false_and,ae,aJ,Lm,jK,aj,ai,seval])<;>(try simp only[aq])<;>(try omega))))
def Cw (v:List Nd)(hv:v.length<=512)(hok:∀ n∈v,n.okTo aT/\n.i64)(w eb e:Nat)(n1:w≠eb)(n2:w≠e)(n3:eb≠e):∀(d:Nat),d<=12 -> ∀(p:Nat) (en:List Nat) (M:ao) (nm:Nat),p<v.length->en.length=v.length->M w=some ⟨1,[[IA v w eb]]⟩->M eb=some ⟨1,[[.own e 0 v.length]]⟩->M e=some ⟨1,en.map gn⟩->(∀ z,(M z).isSome=true->z∈[w,eb,e])->w<nm->eb<nm->e<nm ->
   Ev cx 84 nm [.int .i64 p,.int .i64 (d:Int),.rp [.sl false 6 (v.map aD)],.ptr w 0 0,.ptr eb 0 0] M (.int .i64 (J3 (m9 v d p en).1)) [(w,some ⟨1,[[IA v w eb]]⟩),(eb,some ⟨1,[[.own e 0 v.length]]⟩),(e,some ⟨1,(m9 v d p en).2.map gn⟩)]
 | 0,hd=>Cd v hv hok 0 hd true rfl _ (fun h=>absurd rfl h) w eb e n1 n2 n3 (fun h=>absurd rfl h)
 | d+1,hd=>Cd v hv hok (d+1) hd false (by simp) (m9 v d) (fun _=>xa v d) w eb e n1 n2 n3 (fun _=>Cw v hv hok w eb e n1 n2 n3 d (by omega))
def Jh (a b:List At)(f:Nat)(caps:List V)(hf:∀ x∈a,∀ y∈b,∀ nm,Ev cx f nm (.agg (bf x) :: .agg (bf y)::caps) ao.nil (.bool (decide (x=y))) [])(ha:a.length<=aT)(hb:b.length<=aT)(hpl:plainL caps=true)(nm:Nat):Ev cx 107 nm [.sl false 3 (a.map bf),.sl false 3 (b.map bf),.fn f caps] ao.nil (.bool (decide (a=b))) []:=by
 unfold aT at ha hb
 by_cases hl:a.length=b.length
 ·have e1:(((a.length:Nat):Int) !=((b.length:Nat):Int))=false:=gC hl
  refine aX call107 func107 ?_;intro b0 hb0;have zF:=Ai results107 ntmps107
  repeat' first|simp only[au,ap,zF,am,e1,Bt,Lm,aj,ai,seval]|exact rfl|refine aa (v:=.any) ?_|((first|(refine bh (g:=?_) ?_ ?_)|(refine aZ (g:=?_) ?_ ?_));rotate_left 1;(focus (simp only[zF,am,e1,Bt,Lm,aj,ai,seval]<;>exact rfl)))|((first|apply Ca|apply Cb)<;>intro hb)|refine Ai (by omega) ?_|(apply Ai<;>intro hb)
  (refine ew (fun x:Nat=>a.length-x) (fun x=>x<=a.length/\kI a b x) (b0+16) (fun x=>[(1,.sl false 3 (b.map bf)),(2,.fn f caps),(15,.sl false 3 (a.map bf)),(16,.int .i64 a.length),(17,.int .i64 x)]) (fun x=>[]) (0) [] ?_ ?_ ?_;(focus (refine⟨?_,?_⟩<;>(try simp only[aE,ab,bd hpl,aU hpl,Lm,aj,ai,aq,seval])<;>(try omega))))
  ·exact⟨Nat.zero_le _,fun i hi=>by omega⟩
  ·rintro k ⟨hk,hsm⟩
   by_cases hlt:k<a.length
   ·obtain⟨x,hx⟩:=ic hlt
    obtain⟨y,hy⟩:∃ y,b[k]? = some y:=⟨_,List.getElem?_eq_getElem (hl ▸ hlt)⟩
    have hax:=iu hx
    have hby:=iu hy
    have hd:=decide_eq_true hlt
    have hlt2:k<b.length:=hl ▸ hlt
    have hwk:=eD k
    have hfh:=hf x (List.mem_of_getElem? hx) y (List.mem_of_getElem? hy)
    by_cases hxy:x=y
    ·subst hxy
     have hsm':=fR hsm hx hy
     rw[decide_eq_true rfl]at hfh
     repeat' first|simp only[au,ap,zF,am,ab,hax,hby,bf,hd,hlt,hlt2,hwk,Bt,Lm,aj,ai,seval]|exact rfl|refine aa (v:=.any) ?_|refine bw (g:=f) (caps:=caps) (by simp only[zF,am,ab,hax,hby,bf,hd,hlt,hlt2,hwk,Bt,Lm,aj,ai,seval]<;>exact rfl) (by simp only[zF,am,ab,hax,hby,bf,hd,hlt,hlt2,hwk,Bt,Lm,aj,ai,seval]<;>exact rfl) (hfh _) ?_|((first|(refine bh (g:=?_) ?_ ?_)|(refine aZ (g:=?_) ?_ ?_));rotate_left 1;(focus (simp only[zF,am,ab,hax,hby,bf,hd,hlt,hlt2,hwk,Bt,Lm,aj,ai,seval]<;>exact rfl)))|((first|apply Ca|apply Cb)<;>intro hb)|refine Ai (by omega) ?_|(apply Ai<;>intro hb)
     all_goals ((refine de (k+1) [] ?_ ?_ ?_;(focus (refine⟨?_,?_⟩<;>(try simp only[aE,ab,bd hpl,aU hpl,hwk,Lm,aj,ai,aq,seval])<;>(try omega)))))
     all_goals (first|(show a.length-(k+1)<a.length-k;omega)|exact⟨hlt,hsm'⟩|skip)
    ·have hr:decide (a=b)=false:=decide_eq_false (mD hx hy hxy)
     rw[decide_eq_false hxy]at hfh
     (repeat' first|simp only[au,ap,zF,am,ab,hax,hby,bf,hd,hlt,hlt2,hr,Bf,Lm,aj,ai,seval]|exact rfl|refine aa (v:=.any) ?_|refine bw (g:=f) (caps:=caps) (by simp only[zF,am,ab,hax,hby,bf,hd,hlt,hlt2,hr,Bf,Lm,aj,ai,seval]<;>exact rfl) (by simp only[zF,am,ab,hax,hby,bf,hd,hlt,hlt2,hr,Bf,Lm,aj,ai,seval]<;>exact rfl) (hfh _) ?_|((first|(refine bh (g:=?_) ?_ ?_)|(refine aZ (g:=?_) ?_ ?_));rotate_left 1;(focus (simp only[zF,am,ab,hax,hby,bf,hd,hlt,hlt2,hr,Bf,Lm,aj,ai,seval]<;>exact rfl)))|((first|apply Ca|apply Cb)<;>intro hb)|refine Ai (by omega) ?_|(apply Ai<;>intro hb)|apply Fin.pure|simp only[aq])
   ·have hke:k=a.length:=by omega
    subst hke
    have hr:decide (a=b)=true:=decide_eq_true (j5 hl hsm)
    have hd:decide (a.length<a.length)=false:=bi
    (repeat' first|simp only[au,ap,zF,am,hd,hr,Lm,aj,ai,seval]|exact rfl|refine aa (v:=.any) ?_|((first|(refine bh (g:=?_) ?_ ?_)|(refine aZ (g:=?_) ?_ ?_));rotate_left 1;(focus (simp only[zF,am,hd,hr,Lm,aj,ai,seval]<;>exact rfl)))|((first|apply Ca|apply Cb)<;>intro hb)|refine Ai (by omega) ?_|(apply Ai<;>intro hb)|apply Fin.pure|simp only[aq])
 ·have e1:(((a.length:Nat):Int) !=((b.length:Nat):Int))=true:=gD hl
  have hr:decide (a=b)=false:=decide_eq_false (fun e=>hl (congrArg List.length e))
  refine aX call107 func107 ?_;intro b0 hb0;have zF:=Ai results107 ntmps107
  (repeat' first|simp only[au,ap,zF,am,e1,hr,Bf,Lm,aj,ai,seval]|exact rfl|refine aa (v:=.any) ?_|((first|(refine bh (g:=?_) ?_ ?_)|(refine aZ (g:=?_) ?_ ?_));rotate_left 1;(focus (simp only[zF,am,e1,hr,Bf,Lm,aj,ai,seval]<;>exact rfl)))|((first|apply Ca|apply Cb)<;>intro hb)|refine Ai (by omega) ?_|(apply Ai<;>intro hb)|apply Fin.pure|simp only[aq])
def Jj (a b:List Nd)(f:Nat)(caps:List V)(hf:∀ x∈a,∀ y∈b,∀ nm,Ev cx f nm (.agg (aD x) :: .agg (aD y)::caps) ao.nil (.bool (decide (x=y))) [])(ha:a.length<=aT)(hb:b.length<=aT)(hpl:plainL caps=true)(nm:Nat):Ev cx 106 nm [.sl false 6 (a.map aD),.sl false 6 (b.map aD),.fn f caps] ao.nil (.bool (decide (a=b))) []:=by
 unfold aT at ha hb
 by_cases hl:a.length=b.length
 ·have e1:(((a.length:Nat):Int) !=((b.length:Nat):Int))=false:=gC hl
  refine aX call106 func106 ?_;intro b0 hb0;have zF:=Ai results106 ntmps106
  repeat' first|simp only[au,ap,zF,am,e1,Bt,Lm,aj,ai,seval]|exact rfl|refine aa (v:=.any) ?_|((first|(refine bh (g:=?_) ?_ ?_)|(refine aZ (g:=?_) ?_ ?_));rotate_left 1;(focus (simp only[zF,am,e1,Bt,Lm,aj,ai,seval]<;>exact rfl)))|((first|apply Ca|apply Cb)<;>intro hb)|refine Ai (by omega) ?_|(apply Ai<;>intro hb)
  (refine ew (fun x:Nat=>a.length-x) (fun x=>x<=a.length/\kI a b x) (b0+16) (fun x=>[(1,.sl false 6 (b.map aD)),(2,.fn f caps),(15,.sl false 6 (a.map aD)),(16,.int .i64 a.length),(17,.int .i64 x)]) (fun x=>[]) (0) [] ?_ ?_ ?_;(focus (refine⟨?_,?_⟩<;>(try simp only[aE,ae,bd hpl,aU hpl,Lm,aj,ai,aq,seval])<;>(try omega))))
  ·exact⟨Nat.zero_le _,fun i hi=>by omega⟩
  ·rintro k ⟨hk,hsm⟩
   by_cases hlt:k<a.length
   ·obtain⟨x,hx⟩:=ic hlt
    obtain⟨y,hy⟩:∃ y,b[k]? = some y:=⟨_,List.getElem?_eq_getElem (hl ▸ hlt)⟩
    have hax:=dS hx
    have hby:=dS hy
    have hd:=decide_eq_true hlt
    have hlt2:k<b.length:=hl ▸ hlt
    have hwk:=eD k
    have hfh:=hf x (List.mem_of_getElem? hx) y (List.mem_of_getElem? hy)
    by_cases hxy:x=y
    ·subst hxy
     have hsm':=fR hsm hx hy
     rw[decide_eq_true rfl]at hfh
     repeat' first|simp only[au,ap,zF,am,ae,hax,hby,aD,hd,hlt,hlt2,hwk,Bt,Lm,aj,ai,seval]|exact rfl|refine aa (v:=.any) ?_|refine bw (g:=f) (caps:=caps) (by simp only[zF,am,ae,hax,hby,aD,hd,hlt,hlt2,hwk,Bt,Lm,aj,ai,seval]<;>exact rfl) (by simp only[zF,am,ae,hax,hby,aD,hd,hlt,hlt2,hwk,Bt,Lm,aj,ai,seval]<;>exact rfl) (hfh _) ?_|((first|(refine bh (g:=?_) ?_ ?_)|(refine aZ (g:=?_) ?_ ?_));rotate_left 1;(focus (simp only[zF,am,ae,hax,hby,aD,hd,hlt,hlt2,hwk,Bt,Lm,aj,ai,seval]<;>exact rfl)))|((first|apply Ca|apply Cb)<;>intro hb)|refine Ai (by omega) ?_|(apply Ai<;>intro hb)
     all_goals ((refine de (k+1) [] ?_ ?_ ?_;(focus (refine⟨?_,?_⟩<;>(try simp only[aE,ae,bd hpl,aU hpl,hwk,Lm,aj,ai,aq,seval])<;>(try omega)))))
     all_goals (first|(show a.length-(k+1)<a.length-k;omega)|exact⟨hlt,hsm'⟩|skip)
    ·have hr:decide (a=b)=false:=decide_eq_false (mD hx hy hxy)
     rw[decide_eq_false hxy]at hfh
     (repeat' first|simp only[au,ap,zF,am,ae,hax,hby,aD,hd,hlt,hlt2,hr,Bf,Lm,aj,ai,seval]|exact rfl|refine aa (v:=.any) ?_|refine bw (g:=f) (caps:=caps) (by simp only[zF,am,ae,hax,hby,aD,hd,hlt,hlt2,hr,Bf,Lm,aj,ai,seval]<;>exact rfl) (by simp only[zF,am,ae,hax,hby,aD,hd,hlt,hlt2,hr,Bf,Lm,aj,ai,seval]<;>exact rfl) (hfh _) ?_|((first|(refine bh (g:=?_) ?_ ?_)|(refine aZ (g:=?_) ?_ ?_));rotate_left 1;(focus (simp only[zF,am,ae,hax,hby,aD,hd,hlt,hlt2,hr,Bf,Lm,aj,ai,seval]<;>exact rfl)))|((first|apply Ca|apply Cb)<;>intro hb)|refine Ai (by omega) ?_|(apply Ai<;>intro hb)|apply Fin.pure|simp only[aq])
   ·have hke:k=a.length:=by omega
    subst hke
    have hr:decide (a=b)=true:=decide_eq_true (j5 hl hsm)
    have hd:decide (a.length<a.length)=false:=bi
    (repeat' first|simp only[au,ap,zF,am,hd,hr,Lm,aj,ai,seval]|exact rfl|refine aa (v:=.any) ?_|((first|(refine bh (g:=?_) ?_ ?_)|(refine aZ (g:=?_) ?_ ?_));rotate_left 1;(focus (simp only[zF,am,hd,hr,Lm,aj,ai,seval]<;>exact rfl)))|((first|apply Ca|apply Cb)<;>intro hb)|refine Ai (by omega) ?_|(apply Ai<;>intro hb)|apply Fin.pure|simp only[aq])
 ·have e1:(((a.length:Nat):Int) !=((b.length:Nat):Int))=true:=gD hl
  have hr:decide (a=b)=false:=decide_eq_false (fun e=>hl (congrArg List.length e))
  refine aX call106 func106 ?_;intro b0 hb0;have zF:=Ai results106 ntmps106
  (repeat' first|simp only[au,ap,zF,am,e1,hr,Bf,Lm,aj,ai,seval]|exact rfl|refine aa (v:=.any) ?_|((first|(refine bh (g:=?_) ?_ ?_)|(refine aZ (g:=?_) ?_ ?_));rotate_left 1;(focus (simp only[zF,am,e1,hr,Bf,Lm,aj,ai,seval]<;>exact rfl)))|((first|apply Ca|apply Cb)<;>intro hb)|refine Ai (by omega) ?_|(apply Ai<;>intro hb)|apply Fin.pure|simp only[aq])
def Hy (x y:At)(nm:Nat):Ev cx 54 nm [.agg (bf x),.agg (bf y)] ao.nil (.bool (decide (x=y))) []:=by
 have h:decide (x=y)=((x.space==y.space)&&((x.name==y.name)&&(x.value==y.value))):=by
  cases x;cases y
  rw[Bool.eq_iff_iff];simp
 rw[h]
 refine aX call54 func54 ?_;intro b0 hb0
 exact wP (a3 results54 ntmps54 @bf.eq_1) trivial
def Bk (a b:List At)(ha:a.length<=aT)(hb:b.length<=aT)(nm:Nat):Ev cx 57 nm [.sl false 3 (a.map bf),.sl false 3 (b.map bf),.fn 54 []] ao.nil (.bool (decide (a=b))) []:=by
 have h:=Jh a b 54 [] (fun x _ y _ nm=>Hy x y nm) ha hb rfl
 refine aX call57 func57 ?_;intro b0 hb0
 exact wP (a2 results57 ntmps57) h
def Hz (x y:Nd)(hx:x.attrs.length<=aT)(hy:y.attrs.length<=aT)(nm:Nat):Ev cx 56 nm [.agg (aD x),.agg (aD y),.rp [.fn 54 []]] ao.nil (.bool (decide (x=y))) []:=by
 have hs:=Bk x.attrs y.attrs hx hy
 have h:decide (x=y)=(((((((x.kind:Int)==(y.kind:Int))&&(x.space==y.space))&&(x.name==y.name))&&(x.text==y.text))&&(x.many==y.many))&&decide (x.attrs=y.attrs)):=by
  rw[Bool.eq_iff_iff]
  simp only[decide_eq_true_eq,Bool.and_eq_true,beq_iff_eq,Lt]
  constructor
  ·rintro ⟨h1,h2,h3,h4,h5,h6⟩;exact⟨⟨⟨⟨⟨by omega,h2⟩,h3⟩,h4⟩,h5⟩,h6⟩
  ·rintro ⟨⟨⟨⟨⟨h1,h2⟩,h3⟩,h4⟩,h5⟩,h6⟩;exact⟨by omega,h2,h3,h4,h5,h6⟩
 rw[h]
 refine aX call56 func56 ?_;intro b0 hb0
 exact wP (a4 results56 ntmps56 @aD.eq_1 @ab) hs
def HA (a b:List Nd)(ha:a.length<=aT)(hb:b.length<=aT)(ha2:∀ t∈a,t.attrs.length<=aT)(hb2:∀ t∈b,t.attrs.length<=aT)(nm:Nat):Ev cx 20 nm [.sl false 6 (a.map aD),.sl false 6 (b.map aD)] ao.nil (.bool (decide (a=b))) []:=by
 have h:=Jj a b 56 [.rp [.fn 54 []]] (fun x hx y hy nm=>Hz x y (ha2 x hx) (hb2 y hy) nm) ha hb rfl
 have h2:∀ nm,Ev cx 55 nm [.sl false 6 (a.map aD),.sl false 6 (b.map aD),.fn 56 [.rp [.fn 54 []]]] ao.nil (.bool (decide (a=b))) []:=by
  intro nm
  refine aX call55 func55 ?_;intro b0 hb0
  exact wP (a2 results55 ntmps55) h
 refine aX call20 func20 ?_;intro b0 hb0
 (repeat' first|simp only[au,ap,results20,ntmps20,am,ae,aj,ai,seval]|exact rfl|refine aa (v:=.any) ?_|((refine bg (xs:=?_) [b0+16] ?_ ?_ ?_ rfl (h2 _) ?_);rotate_left 1)|omega|((first|apply Ca|apply Cb)<;>intro hb)|refine Ai (by omega) ?_|(apply Ai<;>intro hb)|apply Fin.pure|simp only[aq])
def iC:∀ q,(ao.nil q).isSome=true->q∈([]:List Nat):=fun q h=>by cases h
def gP (n:Nat):uY cx.P 70 n=⟨1,(List.replicate n 0).map gn⟩:=by
 unfold uY
 rw[show cp cx.P 70=some ([.int .i64 0],8) by kernel_rfl]
 simp[gn]
def rJ (v:List Nd)(hv:v.length<=aT)(hok:∀ n∈v,n.okTo aT/\n.i64)(r:V)(eff:List (Nat×Option Blk))(nm:Nat)(hr:(bm v=none/\r = .nils/\eff=[]) \/ ∃ en,bm v=some en/\r = .own nm 0 v.length/\eff=[(nm,some ⟨1,en.map gn⟩)]) :
  Ev cx 33 nm [.sl false 6 (v.map aD)] ao.nil r eff:=by
 unfold aT at hv
 by_cases h0:v.length=0
 ·have hb:bm v=none:=by unfold bm;rw[if_pos (by rw[List.length_eq_zero_iff.1 h0];rfl)]
  have hre:r = .nils/\eff=[]:=by
   rcases hr with ⟨_,h⟩|⟨en,h,_⟩
   ·exact h
   ·rw[hb]at h;cases h
  obtain⟨rfl,rfl⟩:=hre
  have q0:((v.length:Int)==0)=true:=by rw[h0];rfl
  refine aX call33 func33 ?_;intro b0 hb0;have zF:=Ai results33 ntmps33
  (repeat' first|simp only[au,ap,zF,am,q0,ae,Bt,Lm,aj,ai,seval]|exact rfl|refine aa (v:=.any) ?_|refine ag (ps:=[(1,2)]) (by decide +kernel) (by simp only[List.forall_mem_cons,List.getD_cons_zero,List.getD_cons_succ,zF,am,q0,ae,Bt,Lm,aj,ai,seval]<;>(try simp)<;>(try omega)) ?_|refine av (by decide +kernel) ?_|((first|apply Ca|apply Cb)<;>intro hb)|refine Ai (by omega) ?_|(apply Ai<;>intro hb)|apply Fin.pure|simp only[aq])
 have q0:((v.length:Int)==0)=false:=beq_false_of_ne (by omega)
 by_cases h1:512<v.length
 ·have hb:bm v=none:=by unfold bm;rw[if_pos (by simp[h1])]
  have hre:r = .nils/\eff=[]:=by
   rcases hr with ⟨_,h⟩|⟨en,h,_⟩
   ·exact h
   ·rw[hb]at h;cases h
  obtain⟨rfl,rfl⟩:=hre
  have q1:decide ((512:Int)<(v.length:Int))=true:=dh
  have q2:decide (512<v.length)=true:=decide_eq_true h1
  refine aX call33 func33 ?_;intro b0 hb0;have zF:=Ai results33 ntmps33
  (repeat' first|simp only[au,ap,zF,am,q0,q1,q2,ae,Bt,Bf,Lm,aj,ai,seval]|exact rfl|refine aa (v:=.any) ?_|refine ag (ps:=[(1,2)]) (by decide +kernel) (by simp only[List.forall_mem_cons,List.getD_cons_zero,List.getD_cons_succ,zF,am,q0,q1,q2,ae,Bt,Bf,Lm,aj,ai,seval]<;>(try simp)<;>(try omega)) ?_|refine av (by decide +kernel) ?_|((first|apply Ca|apply Cb)<;>intro hb)|refine Ai (by omega) ?_|(apply Ai<;>intro hb)|apply Fin.pure|simp only[aq])
 have q1:decide ((512:Int)<(v.length:Int))=false:=bi
 have q2:decide (512<v.length)=false:=decide_eq_false h1
 obtain⟨x,hx⟩:∃ x,v[0]? = some x:=⟨_,List.getElem?_eq_getElem (by omega)⟩
 have hat:=dS hx
 have hp0:0<v.length:=by omega
 have hpi:(0:Int)<(v.length:Int):=by omega
 by_cases hk:x.kind=1
 ·have q3:((x.kind:Int) != 1)=false:=by rw[hk];rfl
  have hbo:bm v=C7 v.length (m9 v 12 0 (List.replicate v.length 0)):=by
   have hc:(v.isEmpty||decide (512<v.length) || !((v[0]?).map Nd.kind==some 1))=false:=by
    rw[q2,hx]
    simp only[Option.map_some,hk,beq_self_eq_true,Bt,Bool.or_false]
    cases v with
    | nil=>simp at h0
    | cons _ _=>rfl
   unfold bm
   rw[if_neg (by rw[hc];simp)]
  rw[hbo]at hr
  clear hbo
  have hcall:=fun (M':ao) (n:Nat) (w eb e:Nat) (n1:w≠eb) (n2:w≠e) (n3:eb≠e) a1 a2 a3 a4 k1 k2 k3=>Cw v (by omega) hok w eb e n1 n2 n3 12 (by omega) 0 (List.replicate v.length 0) M' n hp0 (by simp) a1 a2 a3 a4 k1 k2 k3
  unfold IA at hcall
  have hlen:=qa v 12 0 (List.replicate v.length 0)
  rw[List.length_replicate]at hlen
  generalize m9 v 12 0 (List.replicate v.length 0)=R at hr hcall hlen
  obtain⟨o,en⟩:=R
  simp only at hcall hlen
  by_cases ho:o=some v.length
  ·subst ho
   simp only[C7,if_pos]at hr
   have hre:r = .own nm 0 v.length/\eff=[(nm,some ⟨1,en.map gn⟩)]:=by
    rcases hr with ⟨h,_⟩|⟨en',h,h2⟩
    ·cases h
    ·cases h;exact h2
   obtain⟨rfl,rfl⟩:=hre
   have q4:((v.length:Int) !=(v.length:Int))=false:=by simp
   have q5:=iY v.length
   refine iP rfl call33 func33 rfl mixed (by kernel_rfl) rfl ?_;intro b0 hb0;have zF:=Ai results33 ntmps33
   repeat' first|simp only[au,ap,zF,am,aj,ai,seval]|exact rfl|refine aa (v:=.any) ?_|refine ag (ps:=[(1,2)]) (by decide +kernel) (by simp only[List.forall_mem_cons,List.getD_cons_zero,List.getD_cons_succ,zF,am,aj,ai,seval]<;>(try simp)<;>(try omega)) ?_|refine av (by decide +kernel) ?_|((first|apply Ca|apply Cb)<;>intro hb)|refine Ai (by omega) ?_|(apply Ai<;>intro hb)
   (refine oG jI (b0+16) ([(1,.rp [.sl false 6 (v.map aD)]),(2,.nils)]) ([]) [] ?_ ?_ ?_;(focus (show b0<=_;omega));(focus (refine⟨?_,?_⟩<;>(try simp only[aE,ae,aj,ai,aq,seval])<;>(try omega))))
   repeat' first|simp only[au,ap,zF,am,q0,q1,q2,q3,q4,q5,hat,aD,hp0,hpi,gP,ae,aJ,List.length_replicate,Bt,Bf,Lm,aj,ai,seval]|exact rfl|refine aa (v:=.any) ?_|((refine dv (caps:=?_) ?_ ?_ [b0+336,b0+304,b0+288] (hcall _ _ (b0+336) (b0+304) (b0+288) (by omega) (by omega) (by omega) ?_ ?_ ?_ aN (by omega) (by omega) (by omega)) ?_ ?_);rotate_left 1)|(refine xW (n:=?_) (c:=?_) (kx:=?_) (ky:=?_) ?_ ?_ ?_ ?_ ?_ ?_;rotate_left 4;(iterate 2 (focus (simp only[zF,am,q0,q1,q2,q3,q4,q5,hat,aD,hp0,hpi,gP,ae,aJ,List.length_replicate,Bt,Bf,Lm,aj,ai,seval]<;>exact rfl)));(iterate 2 (focus (simp only[zF,am,q0,q1,q2,q3,q4,q5,hat,aD,hp0,hpi,gP,ae,aJ,List.length_replicate,Bt,Bf,Lm,aj,ai,seval]<;>omega)));(focus (simp only[sK,zF,am,q0,q1,q2,q3,q4,q5,hat,aD,hp0,hpi,gP,ae,aJ,List.length_replicate,Bt,Bf,Lm,aj,ai,seval]<;>omega)))|(refine bo ?_)|(refine bc ?_)|refine ag (ps:=[(1,2)]) (by decide +kernel) (by simp only[List.forall_mem_cons,List.getD_cons_zero,List.getD_cons_succ,zF,am,q0,q1,q2,q3,q4,q5,hat,aD,hp0,hpi,gP,ae,aJ,List.length_replicate,Bt,Bf,Lm,aj,ai,seval]<;>(try simp)<;>(try omega)) ?_|refine av (by decide +kernel) ?_|((first|apply Ca|apply Cb)<;>intro hb)|refine Ai (by omega) ?_|(apply Ai<;>intro hb)
   all_goals ((refine Fin.give [(b0+288,some 0)] [] ?_ ?_ ?_ ?_ ?_ (bA iC (by simp[bt,tgt]))<;>(try simp only[zF,am,hlen,aJ,Lm,jK,aj,ai,seval])<;>(try simp only[aq])<;>(try omega)))
  ·have hre:r = .nils/\eff=[]:=by
    rcases hr with ⟨_,h⟩|⟨en',h,h2⟩
    ·exact h
    ·cases o with
     | none=>cases h
     | some e =>
      simp only[C7]at h
      split at h
      ·rename_i he;exact absurd (by rw[he]) ho
      ·cases h
   obtain⟨rfl,rfl⟩:=hre
   have q4:(J3 o !=(v.length:Int))=true:=by
    cases o with
    | none=>simp only[J3,bne_iff_ne,ne_eq];omega
    | some e =>
     have:e≠v.length:=fun h=>ho (by rw[h])
     simp only[J3,bne_iff_ne,ne_eq];omega
   have q5:True:=trivial
   refine iP rfl call33 func33 rfl mixed (by kernel_rfl) rfl ?_;intro b0 hb0;have zF:=Ai results33 ntmps33
   repeat' first|simp only[au,ap,zF,am,aj,ai,seval]|exact rfl|refine aa (v:=.any) ?_|refine ag (ps:=[(1,2)]) (by decide +kernel) (by simp only[List.forall_mem_cons,List.getD_cons_zero,List.getD_cons_succ,zF,am,aj,ai,seval]<;>(try simp)<;>(try omega)) ?_|refine av (by decide +kernel) ?_|((first|apply Ca|apply Cb)<;>intro hb)|refine Ai (by omega) ?_|(apply Ai<;>intro hb)
   (refine oG jI (b0+16) ([(1,.rp [.sl false 6 (v.map aD)]),(2,.nils)]) ([]) [] ?_ ?_ ?_;(focus (show b0<=_;omega));(focus (refine⟨?_,?_⟩<;>(try simp only[aE,ae,aj,ai,aq,seval])<;>(try omega))))
   repeat' first|simp only[au,ap,zF,am,q0,q1,q2,q3,q4,q5,hat,aD,hp0,hpi,gP,ae,aJ,List.length_replicate,Bt,Bf,Lm,aj,ai,seval]|exact rfl|refine aa (v:=.any) ?_|((refine dv (caps:=?_) ?_ ?_ [b0+336,b0+304,b0+288] (hcall _ _ (b0+336) (b0+304) (b0+288) (by omega) (by omega) (by omega) ?_ ?_ ?_ aN (by omega) (by omega) (by omega)) ?_ ?_);rotate_left 1)|(refine xW (n:=?_) (c:=?_) (kx:=?_) (ky:=?_) ?_ ?_ ?_ ?_ ?_ ?_;rotate_left 4;(iterate 2 (focus (simp only[zF,am,q0,q1,q2,q3,q4,q5,hat,aD,hp0,hpi,gP,ae,aJ,List.length_replicate,Bt,Bf,Lm,aj,ai,seval]<;>exact rfl)));(iterate 2 (focus (simp only[zF,am,q0,q1,q2,q3,q4,q5,hat,aD,hp0,hpi,gP,ae,aJ,List.length_replicate,Bt,Bf,Lm,aj,ai,seval]<;>omega)));(focus (simp only[sK,zF,am,q0,q1,q2,q3,q4,q5,hat,aD,hp0,hpi,gP,ae,aJ,List.length_replicate,Bt,Bf,Lm,aj,ai,seval]<;>omega)))|(refine bo ?_)|(refine bc ?_)|refine ag (ps:=[(1,2)]) (by decide +kernel) (by simp only[List.forall_mem_cons,List.getD_cons_zero,List.getD_cons_succ,zF,am,q0,q1,q2,q3,q4,q5,hat,aD,hp0,hpi,gP,ae,aJ,List.length_replicate,Bt,Bf,Lm,aj,ai,seval]<;>(try simp)<;>(try omega)) ?_|refine av (by decide +kernel) ?_|((first|apply Ca|apply Cb)<;>intro hb)|refine Ai (by omega) ?_|(apply Ai<;>intro hb)
   all_goals ((apply Fin.pure<;>simp only[Lm,zF,aj,ai,seval]))
 ·have hb:bm v=none:=by
   unfold bm
   rw[if_pos (by rw[hx];simp[hk])]
  have hre:r = .nils/\eff=[]:=by
   rcases hr with ⟨_,h⟩|⟨en,h,_⟩
   ·exact h
   ·rw[hb]at h;cases h
  obtain⟨rfl,rfl⟩:=hre
  have q3:((x.kind:Int) != 1)=true:=by simp;omega
  refine aX call33 func33 ?_;intro b0 hb0;have zF:=Ai results33 ntmps33
  (repeat' first|simp only[au,ap,zF,am,q0,q1,q2,q3,hat,aD,hp0,hpi,ae,Bt,Bf,Lm,aj,ai,seval]|exact rfl|refine aa (v:=.any) ?_|refine ag (ps:=[(1,2)]) (by decide +kernel) (by simp only[List.forall_mem_cons,List.getD_cons_zero,List.getD_cons_succ,zF,am,q0,q1,q2,q3,hat,aD,hp0,hpi,ae,Bt,Bf,Lm,aj,ai,seval]<;>(try simp)<;>(try omega)) ?_|refine av (by decide +kernel) ?_|((first|apply Ca|apply Cb)<;>intro hb)|refine Ai (by omega) ?_|(apply Ai<;>intro hb)|apply Fin.pure|simp only[aq])
def fT (v:List Nd)(hv:v.length<=aT)(hok:∀ n∈v,n.okTo aT/\n.i64)(h:bm v=none)(nm:Nat):Ev cx 33 nm [.sl false 6 (v.map aD)] ao.nil .nils [] :=
 rJ v hv hok .nils [] nm (.inl ⟨h,rfl,rfl⟩)
def fU (v:List Nd)(hv:v.length<=aT)(hok:∀ n∈v,n.okTo aT/\n.i64){en:List Nat}(h:bm v=some en)(nm:Nat):Ev cx 33 nm [.sl false 6 (v.map aD)] ao.nil (.own nm 0 v.length) [(nm,some ⟨1,en.map gn⟩)] :=
 rJ v hv hok _ _ nm (.inr ⟨en,h,rfl,rfl⟩)
end Go.Proofs.YtjonibipieofcaaGreatDoor
