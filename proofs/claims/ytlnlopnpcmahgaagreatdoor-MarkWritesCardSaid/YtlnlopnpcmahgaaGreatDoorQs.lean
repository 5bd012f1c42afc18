/-
 Texts joined: XUi,XSf,XSg,XSh.
-/
import Derived.Test.YtlnlopnpcmahgaaGreatDoorQp
import Derived.Test.YtlnlopnpcmahgaaGreatDoorQn
import Derived.Test.YtlnlopnpcmahgaaGreatDoorQr
import Derived.Test.YtlnlopnpcmahgaaGreatDoorQl
import Derived.Test.YtlnlopnpcmahgaaGreatDoorQe
set_option linter.all false
namespace Go.Proofs.YtlnlopnpcmahgaaGreatDoor
set_option maxRecDepth 100000
set_option maxHeartbeats 32000000
open Nat renaming reduceAdd->Ka,reduceMul->Kb,reduceEqDiff->Kc,reduceLeDiff->Kd,reduceSub->Ke,reduceLT->Kf,reduceBEq->Kr,reduceBNe->Ks,reducePow->Kt
open Int renaming reduceToNat->Kg,reduceLE->Kh,reduceLT->Ki,reduceAdd->Kj,reduceSub->Kk,reduceMul->Kl,reduceNeg->Km,reduceBEq->Kn,reduceBNe->Ko,reduceEq->Kp,reduceNe->Kq
open Go Go.RowKit Vm Go.Lib Tryz
open Vm renaming aH->Ca,aL->Cb
open And renaming intro->Ai
open List renaming length_map->Lm,not_mem_nil->Ln,map_nil->Lo,map_cons->Lc,mem_cons->Lk
open Bool renaming not_false->Bf,not_true->Bt
def J9 {x y:Nd} : x=y↔x.kind=y.kind/\x.space=y.space/\x.name=y.name/\x.text=y.text/\x.many=y.many/\x.attrs=y.attrs:=by
 cases x;cases y;simp only[Nd.mk.injEq];constructor
 ·rintro ⟨h1,h2,h3,h4,h5,h6⟩;exact⟨h1,h2,h3,h5,h6,h4⟩
 ·rintro ⟨h1,h2,h3,h4,h5,h6⟩;exact⟨h1,h2,h3,h6,h4,h5⟩
def Bo (a b:List At)(ha:a.length<=aS)(hb:b.length<=aS)(nm:Nat):Ev cx 31 nm [.sl false 3 (a.map bh),.sl false 3 (b.map bh)] am.nil (.bool (decide (a=b))) []:=by
  unfold aS at ha hb
  by_cases hl:a.length=b.length
  · have e1 : (((a.length:Nat):Int) !=((b.length:Nat):Int))=false:=qp hl
    refine aV call31 func31 rfl (by kernel_rfl) rfl ?_;intro b0 hb0
    repeat' first|simp only[aj,ag,results31,ntmps31,Kt,ap,e1,Bt,Lm,ai,Ka,Kb,Kc,Kd,Ke,Kf,Kg,Kh,Ki,Kj,Kk,Kl,Km,reduceCtorEq,reduceIte,Kn,Ko,Kp,Kq,Kr,Ks,ah]|exact rfl|refine aa (v:=.any) ?_|refine ao (by decide +kernel) ?_|((first|apply Ca|apply Cb)<;>intro hb)|refine Ai (by omega) ?_|(apply Ai<;>intro hb)
    (refine ay bu (fun x:Nat=>a.length-x) (fun x=>x<=a.length/\qM a b x) (b0+16) (fun x=>[(0,.sl false 3 (a.map bh)),(1,.sl false 3 (b.map bh)),(5,.int .i64 x)]) (fun x=>[]) (0) [] ?_ ?_ ?_ ?_;rotate_left 1;(focus (show b0<=_;omega));(focus (refine⟨?_,?_⟩<;>(try simp only[aM,ae,Lm,ai,Ka,Kb,Kc,Kd,Ke,Kf,Kg,Kh,Ki,Kj,Kk,Kl,Km,reduceCtorEq,reduceIte,Kn,Ko,Kp,Kq,Kr,Ks,ah,al])<;>(try omega)));rotate_left 1)
    · exact⟨Nat.zero_le _,fun i hi=>by omega⟩
    · rintro k ⟨hk,hsm⟩
      by_cases hlt:k<a.length
      · obtain ⟨x,hx⟩:∃ x,a[k]? = some x:=⟨_,List.getElem?_eq_getElem hlt⟩
        obtain⟨y,hy⟩:∃ y,b[k]? = some y:=⟨_,List.getElem?_eq_getElem (hl ▸ hlt)⟩
        have hax:=gN hx
        have hby:=gN hy
        have hd:decide (k<a.length)=true:=decide_eq_true hlt
        have hlt2:k<b.length:=hl ▸ hlt
        have hwk:IntKind.i64.wrap ((k:Int)+1)=((k+1:Nat):Int):=aK
        by_cases hxy:x=y
        · subst hxy
          have hsm':=oD hsm hx hy
          repeat' first|simp only[aj,ag,results31,ntmps31,Kt,ap,ae,hax,hby,bh,hd,hlt,hlt2,beq_self_eq_true,Bool.and_self,Bt,Lm,ai,Ka,Kb,Kc,Kd,Ke,Kf,Kg,Kh,Ki,Kj,Kk,Kl,Km,reduceCtorEq,reduceIte,Kn,Ko,Kp,Kq,Kr,Ks,ah]|exact rfl|refine aa (v:=.any) ?_|refine ao (by decide +kernel) ?_|((first|apply Ca|apply Cb)<;>intro hb)|refine Ai (by omega) ?_|(apply Ai<;>intro hb)
          all_goals ((refine au bu (k+1) [] ?_ ?_ ?_ ?_;rotate_left 2;(focus (show b0<=_;omega));(focus (refine⟨?_,?_⟩<;>(try simp only[aM,ae,hwk,Lm,ai,Ka,Kb,Kc,Kd,Ke,Kf,Kg,Kh,Ki,Kj,Kk,Kl,Km,reduceCtorEq,reduceIte,Kn,Ko,Kp,Kq,Kr,Ks,ah,al])<;>(try omega)))))
          all_goals (first|(show a.length-(k+1)<a.length-k;omega)|exact⟨hlt,hsm'⟩|skip)
        · have hr:decide (a=b)=false:=decide_eq_false (zm hx hy hxy)
          have e2:((x.space==y.space)&&((x.name==y.name)&&(x.value==y.value)))=false:=by
            cases x with|mk xs xn xv=>cases y with|mk ys yn yv =>
            simp only[At.mk.injEq,not_and]at hxy
            by_cases h0:xs=ys
            · by_cases h1:xn=yn
              · have:=hxy h0 h1
                simp[this]
              · simp[h1]
            · simp[h0]
          (repeat' first|simp only[aj,ag,results31,ntmps31,Kt,ap,ae,hax,hby,bh,hd,hlt,hlt2,hr,e2,Bool.and_true,Bf,Lm,ai,Ka,Kb,Kc,Kd,Ke,Kf,Kg,Kh,Ki,Kj,Kk,Kl,Km,reduceCtorEq,reduceIte,Kn,Ko,Kp,Kq,Kr,Ks,ah]|exact rfl|refine aa (v:=.any) ?_|refine ao (by decide +kernel) ?_|((first|apply Ca|apply Cb)<;>intro hb)|refine Ai (by omega) ?_|(apply Ai<;>intro hb)|refine Fin.pure ?_ ?_ ?_|simp only[al])
      · have hke:k=a.length:=by omega
        subst hke
        have hr:decide (a=b)=true:=decide_eq_true (wo hl hsm)
        have hd:decide (a.length<a.length)=false:=aR
        (repeat' first|simp only[aj,ag,results31,ntmps31,Kt,ap,hd,hr,Lm,ai,Ka,Kb,Kc,Kd,Ke,Kf,Kg,Kh,Ki,Kj,Kk,Kl,Km,reduceCtorEq,reduceIte,Kn,Ko,Kp,Kq,Kr,Ks,ah]|exact rfl|refine aa (v:=.any) ?_|refine ao (by decide +kernel) ?_|((first|apply Ca|apply Cb)<;>intro hb)|refine Ai (by omega) ?_|(apply Ai<;>intro hb)|refine Fin.pure ?_ ?_ ?_|simp only[al])
  · have e1:(((a.length:Nat):Int) !=((b.length:Nat):Int))=true:=qq hl
    have hr:decide (a=b)=false:=decide_eq_false (fun e=>hl (congrArg List.length e))
    refine aV call31 func31 rfl (by kernel_rfl) rfl ?_;intro b0 hb0
    (repeat' first|simp only[aj,ag,results31,ntmps31,Kt,ap,e1,hr,Bf,Lm,ai,Ka,Kb,Kc,Kd,Ke,Kf,Kg,Kh,Ki,Kj,Kk,Kl,Km,reduceCtorEq,reduceIte,Kn,Ko,Kp,Kq,Kr,Ks,ah]|exact rfl|refine aa (v:=.any) ?_|refine ao (by decide +kernel) ?_|((first|apply Ca|apply Cb)<;>intro hb)|refine Ai (by omega) ?_|(apply Ai<;>intro hb)|refine Fin.pure ?_ ?_ ?_|simp only[al])
def Bp (a b:List Nd)(ha:a.length<=aS)(hb:b.length<=aS)(ha2:∀ t∈a,t.attrs.length<=aS)(hb2:∀ t∈b,t.attrs.length<=aS)(nm:Nat):Ev cx 13 nm [.sl false 6 (a.map aG),.sl false 6 (b.map aG)] am.nil (.bool (decide (a=b))) []:=by
  unfold aS at ha hb
  by_cases hl:a.length=b.length
  · have e1:(((a.length:Nat):Int) !=((b.length:Nat):Int))=false:=qp hl
    refine aV call13 func13 rfl (by kernel_rfl) rfl ?_;intro b0 hb0
    repeat' first|simp only[aj,ag,results13,ntmps13,Kt,ap,e1,Lm,ai,Ka,Kb,Kc,Kd,Ke,Kf,Kg,Kh,Ki,Kj,Kk,Kl,Km,reduceCtorEq,reduceIte,Kn,Ko,Kp,Kq,Kr,Ks,ah]|exact rfl|refine aa (v:=.any) ?_|refine ao (by decide +kernel) ?_|((first|apply Ca|apply Cb)<;>intro hb)|refine Ai (by omega) ?_|(apply Ai<;>intro hb)
    (refine ay bu (fun x:Nat=>a.length-x) (fun x=>x<=a.length/\qM a b x) (b0+16) (fun x=>[(0,.sl false 6 (a.map aG)),(1,.sl false 6 (b.map aG)),(5,.int .i64 x)]) (fun x=>[]) (0) [] ?_ ?_ ?_ ?_;rotate_left 1;(focus (show b0<=_;omega));(focus (refine⟨?_,?_⟩<;>(try simp only[aM,ad,Lm,ai,Ka,Kb,Kc,Kd,Ke,Kf,Kg,Kh,Ki,Kj,Kk,Kl,Km,reduceCtorEq,reduceIte,Kn,Ko,Kp,Kq,Kr,Ks,ah,al])<;>(try omega)));rotate_left 1)
    · exact⟨Nat.zero_le _,fun i hi=>by omega⟩
    · rintro k ⟨hk,hsm⟩
      by_cases hlt:k<a.length
      · obtain⟨x,hx⟩:∃ x,a[k]? = some x:=⟨_,List.getElem?_eq_getElem hlt⟩
        obtain⟨y,hy⟩:∃ y,b[k]? = some y:=⟨_,List.getElem?_eq_getElem (hl ▸ hlt)⟩
        have hax:=dG hx
        have hby:=dG hy
        have hd:decide (k<a.length)=true:=decide_eq_true hlt
        have hlt2:k<b.length:=hl ▸ hlt
        have hwk:IntKind.i64.wrap ((k:Int)+1)=((k+1:Nat):Int):=aK
        have hsp:=Bo x.attrs y.attrs (ha2 x (List.mem_of_getElem? hx)) (hb2 y (List.mem_of_getElem? hy))
        by_cases hxy:x=y
        · subst hxy
          have hsm':=oD hsm hx hy
          have hz:decide (x.attrs=x.attrs)=true:=decide_eq_true rfl
          rw[hz]at hsp
          repeat' first|simp (maxSteps:=4000000) only[aj,ag,results13,ntmps13,Kt,ap,List.append_eq,ae,hax,hby,aG,hd,hlt,hlt2,beq_self_eq_true,bne_self_eq_false,Bool.and_self,Bt,Lm,ai,Ka,Kb,Kc,Kd,Ke,Kf,Kg,Kh,Ki,Kj,Kk,Kl,Km,reduceCtorEq,reduceIte,Kn,Ko,Kp,Kq,Kr,Ks,ah]|exact rfl|refine aa (v:=.any) ?_|(first|(refine ac ?_ (hsp _) ?_)|(refine ab ?_ (fun _=>hsp _) ?_))|refine ao (by decide +kernel) ?_|((first|apply Ca|apply Cb)<;>intro hb)|refine Ai (by omega) ?_|(apply Ai<;>intro hb)
          all_goals ((refine au bu (k+1) [] ?_ ?_ ?_ ?_;rotate_left 2;(focus (show b0<=_;omega));(focus (refine⟨?_,?_⟩<;>(try simp only[aM,ad,hwk,Lm,ai,Ka,Kb,Kc,Kd,Ke,Kf,Kg,Kh,Ki,Kj,Kk,Kl,Km,reduceCtorEq,reduceIte,Kn,Ko,Kp,Kq,Kr,Ks,ah,al])<;>(try omega)))))
          all_goals (first|(show a.length-(k+1)<a.length-k;omega)|exact⟨hlt,hsm'⟩|skip)
        · have hr:decide (a=b)=false:=decide_eq_false (zm hx hy hxy)
          have hk1:((x.kind:Int) !=(y.kind:Int)) = !decide (x.kind=y.kind):=by rw[bne,Gy]
          have hk2:(x.many != y.many) = !decide (x.many=y.many):=by
            rw[bne];congr 1
          have hcs:decide (x.kind=y.kind)=false\/(decide (x.kind=y.kind)=true/\(x.space==y.space)=false)\/(decide (x.kind=y.kind)=true/\(x.space==y.space)=true/\(x.name==y.name)=false)\/(decide (x.kind=y.kind)=true/\(x.space==y.space)=true/\(x.name==y.name)=true/\(x.text==y.text)=false)\/(decide (x.kind=y.kind)=true/\(x.space==y.space)=true/\(x.name==y.name)=true/\(x.text==y.text)=true/\decide (x.many=y.many)=false)\/(decide (x.kind=y.kind)=true/\(x.space==y.space)=true/\(x.name==y.name)=true/\(x.text==y.text)=true/\decide (x.many=y.many)=true/\decide (x.attrs=y.attrs)=false):=by
            have hx2:¬(decide (x.kind=y.kind)=true/\(x.space==y.space)=true/\(x.name==y.name)=true/\(x.text==y.text)=true/\decide (x.many=y.many)=true/\decide (x.attrs=y.attrs)=true):=by
              rintro ⟨h1,h2,h3,h4,h5,h6⟩
              exact hxy (J9.2 ⟨of_decide_eq_true h1,eq_of_beq h2,eq_of_beq h3,eq_of_beq h4,of_decide_eq_true h5,of_decide_eq_true h6⟩)
            generalize decide (x.kind=y.kind)=p1 at hx2 ⊢
            generalize (x.space==y.space)=p2 at hx2 ⊢
            generalize (x.name==y.name)=p3 at hx2 ⊢
            generalize (x.text==y.text)=p4 at hx2 ⊢
            generalize decide (x.many=y.many)=p5 at hx2 ⊢
            generalize decide (x.attrs=y.attrs)=p6 at hx2 ⊢
            cases p1<;>cases p2<;>cases p3<;>cases p4<;>cases p5<;>cases p6<;>simp at hx2 ⊢
          generalize hg1:decide (x.kind=y.kind)=g1 at hcs hk1
          generalize hg2:(x.space==y.space)=g2 at hcs
          generalize hg3:(x.name==y.name)=g3 at hcs
          generalize hg4:(x.text==y.text)=g4 at hcs
          generalize hg5:decide (x.many=y.many)=g5 at hcs hk2
          generalize hg6:decide (x.attrs=y.attrs)=g6 at hcs hsp
          rcases hcs with rfl|⟨rfl,rfl⟩|⟨rfl,rfl,rfl⟩|⟨rfl,rfl,rfl,rfl⟩|⟨rfl,rfl,rfl,rfl,rfl⟩|⟨rfl,rfl,rfl,rfl,rfl,rfl⟩
          all_goals ((repeat' first|simp (maxSteps:=4000000) only[aj,ag,results13,ntmps13,Kt,ap,List.append_eq,ae,hax,hby,aG,hd,hlt,hlt2,hr,hk1,hk2,hg2,hg3,hg4,Bt,Bf,Lm,ai,Ka,Kb,Kc,Kd,Ke,Kf,Kg,Kh,Ki,Kj,Kk,Kl,Km,reduceCtorEq,reduceIte,Kn,Ko,Kp,Kq,Kr,Ks,ah]|exact rfl|refine aa (v:=.any) ?_|(first|(refine ac ?_ (hsp _) ?_)|(refine ab ?_ (fun _=>hsp _) ?_))|(refine aa (v:=.any) ?_)|refine ao (by decide +kernel) ?_|((first|apply Ca|apply Cb)<;>intro hb)|refine Ai (by omega) ?_|(apply Ai<;>intro hb)|refine Fin.pure ?_ ?_ ?_|simp only[al]))
      · have hke:k=a.length:=by omega
        subst hke
        have hr:decide (a=b)=true:=decide_eq_true (wo hl hsm)
        have hd:decide (a.length<a.length)=false:=aR
        (repeat' first|simp only[aj,ag,results13,ntmps13,Kt,ap,hd,hr,Lm,ai,Ka,Kb,Kc,Kd,Ke,Kf,Kg,Kh,Ki,Kj,Kk,Kl,Km,reduceCtorEq,reduceIte,Kn,Ko,Kp,Kq,Kr,Ks,ah]|exact rfl|refine aa (v:=.any) ?_|refine ao (by decide +kernel) ?_|((first|apply Ca|apply Cb)<;>intro hb)|refine Ai (by omega) ?_|(apply Ai<;>intro hb)|refine Fin.pure ?_ ?_ ?_|simp only[al])
  · have e1:(((a.length:Nat):Int) !=((b.length:Nat):Int))=true:=qq hl
    have hr:decide (a=b)=false:=decide_eq_false (fun e=>hl (congrArg List.length e))
    refine aV call13 func13 rfl (by kernel_rfl) rfl ?_;intro b0 hb0
    (repeat' first|simp only[aj,ag,results13,ntmps13,Kt,ap,e1,hr,Lm,ai,Ka,Kb,Kc,Kd,Ke,Kf,Kg,Kh,Ki,Kj,Kk,Kl,Km,reduceCtorEq,reduceIte,Kn,Ko,Kp,Kq,Kr,Ks,ah]|exact rfl|refine aa (v:=.any) ?_|refine ao (by decide +kernel) ?_|((first|apply Ca|apply Cb)<;>intro hb)|refine Ai (by omega) ?_|(apply Ai<;>intro hb)|refine Fin.pure ?_ ?_ ?_|simp only[al])
end Go.Proofs.YtlnlopnpcmahgaaGreatDoor
namespace Go.Proofs.YtlnlopnpcmahgaaGreatDoor
set_option maxRecDepth 100000
set_option maxHeartbeats 32000000
open Go Go.RowKit Vm Go.Lib Tryz
open Vm renaming aH->Ca,aL->Cb
open And renaming intro->Ai
open List renaming length_map->Lm,not_mem_nil->Ln,map_nil->Lo,map_cons->Lc,mem_cons->Lk
open Bool renaming not_false->Bf,not_true->Bt
def GL (o:Option Nat):Int:=match o with|some n=>n|none=>-1
def gF (n:Nat):GL (some n)=n:=rfl
def ef:GL none = -1:=rfl
def Nd.i64 (n:Nd):Prop:=-9223372036854775808<=n.many/\n.many<=9223372036854775807
structure WSt where
 k:Nat
 next:Option Nat
 last:Nat
 en:List Nat
def dJ (v:List Nd):V.plain (.rp [.sl false 6 (v.map aG)])=true:=by simp[V.plain,plainL,ad]
def Fk (v:List Nd)(w eb:Nat):V:=.fn 117 [.rp [.sl false 6 (v.map aG)],.ptr w 0 0,.ptr eb 0 0]
def zd (v:List Nd)(hv:v.length<=512)(hok:∀ n∈v,n.okTo aS/\n.i64)(d:Nat)(hd:d<=12)(dz:Bool)(hdz:dz=decide (d=0))(W:Nat->List Nat->Option Nat×List Nat)(hW:d≠0->pr v (d-1) W)(w eb e:Nat)(n1:w≠eb)(n2:w≠e)(n3:eb≠e)
    (ih:d≠0 -> ∀(p:Nat) (en:List Nat) (M:am) (nm:Nat),p<v.length->en.length=v.length->M w=some ⟨1,[[Fk v w eb]]⟩->M eb=some ⟨1,[[.own e 0 v.length]]⟩->M e=some ⟨1,en.map ff⟩->(∀ z,(M z).isSome=true->z∈[w,eb,e])->w<nm->eb<nm->e<nm ->
      Ev cx 117 nm [.int .i64 p,.int .i64 ((d-1:Nat):Int),.rp [.sl false 6 (v.map aG)],.ptr w 0 0,.ptr eb 0 0] M (.int .i64 (GL (W p en).1)) [(w,some ⟨1,[[Fk v w eb]]⟩),(eb,some ⟨1,[[.own e 0 v.length]]⟩),(e,some ⟨1,(W p en).2.map ff⟩)])
    (p:Nat) (en:List Nat) (M:am) (nm:Nat) (hp:p<v.length) (hl:en.length=v.length) (hw:M w=some ⟨1,[[Fk v w eb]]⟩) (heb:M eb=some ⟨1,[[.own e 0 v.length]]⟩) (he:M e=some ⟨1,en.map ff⟩) (ho:∀ z,(M z).isSome=true->z∈[w,eb,e]) (lw:w<nm) (leb:eb<nm) (le:e<nm) :
    Ev cx 117 nm [.int .i64 p,.int .i64 d,.rp [.sl false 6 (v.map aG)],.ptr w 0 0,.ptr eb 0 0] M (.int .i64 (GL (gE W v dz p en).1)) [(w,some ⟨1,[[Fk v w eb]]⟩),(eb,some ⟨1,[[.own e 0 v.length]]⟩),(e,some ⟨1,(gE W v dz p en).2.map ff⟩)]:=by
  obtain⟨x,hx⟩:∃ x,v[p]? = some x:=⟨_,List.getElem?_eq_getElem hp⟩
  obtain⟨hxo,hx1,hx2⟩:=hok x (List.mem_of_getElem? hx)
  have hat:=dG hx
  have hmx:=IG x hxo
  have b1:decide ((p:Int)<0)=false:=aR
  have b2:decide (v.length<=p)=false:=aR
  have hpi:(p:Int)<(v.length:Int):=by omega
  have b4:((d:Int)==0)=dz:=by rw[hdz,Bool.eq_iff_iff];simp
  have hkx:okW x dz=(gC x && !decide (x.many<0) && !(((x.kind:Int)==1)&&dz)):=by
    unfold okW
    have h1:decide (0<=x.many) = !decide (x.many<0):=by rw[Bool.eq_iff_iff];simp
    have h2:((x.kind:Int)==1)=(x.kind==1):=by rw[Bool.eq_iff_iff];simp;omega
    rw[h1,h2]
  have hwalk:gE W v dz p en=if okW x dz=true then dh p (br W v x.many.toNat (some (p+1)) 1 en) else (none,en):=by
    unfold gE;rw[hx]
  have hroom:okW x dz=true->x.many.toNat≠0->d≠0:=by
    rintro h1 h2 rfl
    unfold okW at h1
    simp only[Bool.and_eq_true,decide_eq_true_eq,Bool.not_eq_true',Bool.and_eq_false_iff,beq_eq_false_iff_ne]at h1
    obtain⟨⟨a1,a2⟩,a3⟩:=h1
    rw[hdz]at a3
    simp at a3
    rcases fp a1 with h|h
    · exact a3 h
    · rw[(fq a1 h).2.2.2.1]at h2;exact h2 rfl
  rw[hwalk]
  clear hwalk
  have w1:IntKind.i64.wrap ((p:Int)+1)=((p+1:Nat):Int):=aK
  have m1:=eq_false n1;have m2:=eq_false n2;have m3:=eq_false n3
  have m4:=eq_false (Ne.symm n1);have m5:=eq_false (Ne.symm n2);have m6:=eq_false (Ne.symm n3)
  unfold Fk at hw ⊢
  by_cases hkk:okW x dz=true
  · rw [if_pos hkk]
    have hroom:=hroom hkk
    rw[hkk]at hkx
    generalize hB1:gC x=B1 at hmx hkx
    generalize hB2:decide (x.many<0)=B2 at hkx
    generalize hB3:((x.kind:Int)==1)=B3 at hkx
    have hB:B1=true/\B2=false/\(B3&&dz)=false:=by cases B1<;>cases B2<;>cases B3<;>cases dz<;>simp at hkx ⊢
    obtain⟨rfl,rfl,hB4⟩:=hB
    have h0:0<=x.many:=by simpa using hB2
    obtain⟨m,hm⟩:∃ m:Nat,x.many=(m:Int):=⟨x.many.toNat,by omega⟩
    rw[hm]at hx2 hB2 hroom ⊢
    rw[Int.toNat_natCast]at hroom ⊢
    have hroom:∀ k,k<m->d≠0:=fun k hk=>hroom (by omega)
    refine aV call117 func117 rfl (by kernel_rfl) rfl ?_;intro b0 hb0;have zF:=Ai results117 ntmps117
    have l1:=aY hb0 hw
    have z0:=aZ l1
    have l2:=aY hb0 heb
    have y0:=aZ l2
    have l3:=aY hb0 he
    have x0:=aZ l3
    repeat' first|simp only[aj,ag,zF,ap,hat,aG,hm,b1,b2,b4,hB2,hB3,hB4,hpi,w1,hw,heb,he,Bt,Bf,Bool.and_false,Lm,ai,seval,ah]|exact rfl|refine aa (v:=.any) ?_|(first|(refine ac ?_ (hmx _) ?_)|(refine ab ?_ (fun _=>hmx _) ?_))|refine Ai (by omega) ?_
    (refine ay bu (fun s:WSt=>m-s.k) (fun s=>s.k<=m/\s.en.length=v.length/\(∀ q,s.next=some q->q<=v.length)/\br W v m (some (p+1)) 1 en=br W v (m-s.k) s.next s.last s.en) (b0+16) (fun s=>[(0,.int .i64 p),(1,.int .i64 (d:Int)),(2,.rp [.sl false 6 (v.map aG)]),(3,.ptr w 0 0),(4,.ptr eb 0 0),(8,.int .i64 (GL s.next)),(9,.int .u8 s.last),(52,.int .i64 m),(53,.int .i64 s.k)]) (fun s=>[(w,⟨1,[[.fn 117 [.rp [.sl false 6 (v.map aG)],.ptr w 0 0,.ptr eb 0 0]]]⟩),(eb,⟨1,[[.own e 0 v.length]]⟩),(e,⟨1,s.en.map ff⟩)]) (⟨0,some (p+1),1,en⟩) [some w,some eb,some e] ?_ ?_ ?_ ?_;rotate_left 1;(focus (show b0<=_;omega));(focus (refine⟨?_,?_⟩<;>(try simp only[aM,ad,aC,dJ v,hw,heb,he,z0,y0,x0,m1,m2,m3,m4,m5,m6,gF,Bool.and_self,Bool.and_false,Bool.false_and,Lm,ai,seval,ah,al])<;>(try omega)));rotate_left 1)
    · exact⟨Nat.zero_le _,hl,fun q hq=>by cases hq;omega,rfl⟩
    · rintro ⟨k,next,last,en1⟩ ⟨hk,hl1,hq,hinv⟩
      dsimp only at hk hl1 hq hinv ⊢
      rw[hinv]
      by_cases hlt:k<m
      · have hd1:decide ((k:Int)<(m:Int))=true:=cn
        have hd2:decide (k<m)=true:=decide_eq_true hlt
        obtain⟨c,hc⟩:∃ c,m-k=c+1:=⟨m-k-1,by omega⟩
        have hc2:m-(k+1)=c:=by omega
        rw[hc]at hinv ⊢
        have hwk:IntKind.i64.wrap ((k:Int)+1)=((k+1:Nat):Int):=aK
        cases next with
        | none =>
          have hr:br W v (c+1) none last en1=(none,en1):=rfl
          rw[hr]
          have q0:decide ((-1:Int)<0)=true:=rfl
          repeat' first|simp only[aj,ag,zF,ap,hd1,hd2,q0,ef,dh,Bt,Bf,Bool.and_false,Lm,ai,seval,ah]|exact rfl|refine aa (v:=.any) ?_|((first|apply Ca|apply Cb)<;>intro hb)|refine Ai (by omega) ?_|(apply Ai<;>intro hb)
          all_goals ((refine Fin.give [(w,none),(eb,none),(e,none)] [] ?_ ?_ ?_ ?_ ?_ (bB ho (by simp[bg,tgt]))<;>(try simp only[zF,ap,hw,heb,he,ef,dh,dJ v,z0,y0,x0,m1,m2,m3,m4,m5,m6,Bool.and_self,Bool.and_false,Bool.false_and,ad,aC,Lm,jU,ai,seval,ah])<;>(try simp only[al])<;>(try omega)))
        | some q =>
          have hqv:=hq q rfl
          have q0:decide ((q:Int)<0)=false:=aR
          cases hy:v[q]? with
          | none =>
            have hge:v.length<=q:=List.getElem?_eq_none_iff.1 hy
            have q1:decide (v.length<=q)=true:=decide_eq_true hge
            have hr:br W v (c+1) (some q) last en1=(none,en1):=by simp[br,hy]
            rw[hr]
            repeat' first|simp only[aj,ag,zF,ap,hd1,hd2,q0,q1,gF,ef,dh,Bt,Bf,Bool.and_false,Lm,ai,seval,ah]|exact rfl|refine aa (v:=.any) ?_|((first|apply Ca|apply Cb)<;>intro hb)|refine Ai (by omega) ?_|(apply Ai<;>intro hb)
            all_goals ((refine Fin.give [(w,none),(eb,none),(e,none)] [] ?_ ?_ ?_ ?_ ?_ (bB ho (by simp[bg,tgt]))<;>(try simp only[zF,ap,hw,heb,he,ef,dh,dJ v,z0,y0,x0,m1,m2,m3,m4,m5,m6,Bool.and_self,Bool.and_false,Bool.false_and,ad,aC,Lm,jU,ai,seval,ah])<;>(try simp only[al])<;>(try omega)))
          | some y =>
            have hql:=(List.getElem?_eq_some_iff.1 hy).1
            have q1:decide (v.length<=q)=false:=aR
            have hay:=dG hy
            have hqi:(q:Int)<(v.length:Int):=by omega
            have hbb:(((last:Int)==2)&&((y.kind:Int)==(last:Int)))=(last==2&&y.kind==2):=by
              rw[Bool.eq_iff_iff];simp;omega
            have hd0:=hroom k hlt
            have hwd:IntKind.i64.wrap ((d:Int)-1)=((d-1:Nat):Int):=by rw[aK];omega
            cases hB:(last==2&&y.kind==2) with
            | true =>
              rw[hB]at hbb
              simp only[Bool.and_eq_true]at hbb
              obtain⟨q2,q3⟩:=hbb
              have hr:br W v (c+1) (some q) last en1=(none,en1):=by simp[br,hy,hB]
              rw[hr]
              repeat' first|simp only[aj,ag,zF,ap,hd1,hd2,q0,q1,q2,q3,hay,aG,hql,hqi,gF,ef,dh,Bt,Bf,Bool.and_false,Lm,ai,seval,ah]|exact rfl|refine aa (v:=.any) ?_|((first|apply Ca|apply Cb)<;>intro hb)|refine Ai (by omega) ?_|(apply Ai<;>intro hb)
              all_goals ((refine Fin.give [(w,none),(eb,none),(e,none)] [] ?_ ?_ ?_ ?_ ?_ (bB ho (by simp[bg,tgt]))<;>(try simp only[zF,ap,hw,heb,he,ef,dh,dJ v,z0,y0,x0,m1,m2,m3,m4,m5,m6,Bool.and_self,Bool.and_false,Bool.false_and,ad,aC,Lm,jU,ai,seval,ah])<;>(try simp only[al])<;>(try omega)))
            | false =>
              rw[hB]at hbb
              have hr:br W v (c+1) (some q) last en1=br W v c (W q en1).1 y.kind (W q en1).2:=by simp[br,hy,hB]
              rw[hr]at hinv ⊢
              have hcall:=fun (M':am) (a1:M' w=some ⟨1,[[Fk v w eb]]⟩) (a2:M' eb=some ⟨1,[[.own e 0 v.length]]⟩) (a3:M' e=some ⟨1,en1.map ff⟩) (a4:∀ z,(M' z).isSome=true->z∈[w,eb,e]) (n:Nat) (k1:w<n) (k2:eb<n) (k3:e<n)=>ih hd0 q en1 M' n hql hl1 a1 a2 a3 a4 k1 k2 k3
              unfold Fk at hcall
              obtain⟨t1,t2⟩:=(hW hd0) q en1 hl1 |>.1
              generalize hB2:((last:Int)==2)=g2 at hbb
              generalize hB3:((y.kind:Int)==(last:Int))=g3 at hbb
              have hcs:(g2=true/\g3=false)\/g2=false:=by cases g2<;>cases g3<;>simp at hbb ⊢
              rcases hcs with ⟨rfl,rfl⟩|rfl
              all_goals (
                repeat' first|simp only[aj,ag,zF,ap,hd1,hd2,q0,q1,hB2,hB3,hay,aG,hql,hqi,hwd,hwk,z0,y0,x0,m1,m2,m3,m4,m5,m6,gF,ef,Bt,Bf,Bool.and_false,Lm,ai,seval,ah]|exact rfl|refine aa (v:=.any) ?_|((refine cN (caps:=?_) ?_ ?_ [w,eb,e] (hcall _ ?_ ?_ ?_ aP _ (by omega) (by omega) (by omega)) ?_ ?_);rotate_left 1)|((first|apply Ca|apply Cb)<;>intro hb)|refine Ai (by omega) ?_|(apply Ai<;>intro hb)
                all_goals ((refine au bu (⟨k+1,(W q en1).1,y.kind,(W q en1).2⟩) [some w,some eb,some e] ?_ ?_ ?_ ?_;rotate_left 2;(focus (show b0<=_;omega));(focus (refine⟨?_,?_⟩<;>(try simp only[aM,ad,aC,dJ v,hwk,z0,y0,x0,m1,m2,m3,m4,m5,m6,Bool.and_self,Bool.and_false,Bool.false_and,Lm,ai,seval,ah,al])<;>(try omega)))))
                all_goals (first|(show m-(k+1)<c+1;omega)|exact⟨hlt,t1,fun q' hq'=>by obtain⟨_,_,_,_,_,h4,_⟩:=t2 q' hq';exact h4,by show _=br _ _ (m-(k+1)) _ _ _;rw[hc2]⟩|skip))
      · have hkm:k=m:=by omega
        subst hkm
        have hd1:decide ((k:Int)<(k:Int))=false:=aR
        have hd2:decide (k<k)=false:=aR
        have hr:br W v (k-k) next last en1=(next,en1):=by rw[Nat.sub_self];rfl
        rw[hr]
        cases next with
        | none =>
          have q0:decide ((0:Int) <= -1)=false:=rfl
          repeat' first|simp only[aj,ag,zF,ap,hd1,hd2,q0,ef,dh,Bt,Bf,Bool.and_false,Lm,ai,seval,ah]|exact rfl|refine aa (v:=.any) ?_|((first|apply Ca|apply Cb)<;>intro hb)|refine Ai (by omega) ?_|(apply Ai<;>intro hb)
          all_goals ((refine Fin.give [(w,none),(eb,none),(e,none)] [] ?_ ?_ ?_ ?_ ?_ (bB ho (by simp[bg,tgt]))<;>(try simp only[zF,ap,hw,heb,he,ef,dh,dJ v,z0,y0,x0,m1,m2,m3,m4,m5,m6,Bool.and_self,Bool.and_false,Bool.false_and,ad,aC,Lm,jU,ai,seval,ah])<;>(try simp only[al])<;>(try omega)))
        | some q =>
          have q0:decide ((0:Int)<=(q:Int))=true:=cn
          have hset:(en1.map ff).set p [.int .i64 q]=(en1.set p q).map ff:=by rw[List.map_set];rfl
          have hpl:p<en1.length:=by omega
          have hgp:(en1.map ff)[p]? = some (ff (en1[p]'hpl)):=by rw[List.getElem?_map,List.getElem?_eq_getElem hpl];rfl
          repeat' first|simp only[aj,ag,zF,ap,hd1,hd2,q0,hset,hgp,ff,hpi,hp,z0,y0,x0,m1,m2,m3,m4,m5,m6,gF,dh,Bt,Bf,Bool.and_false,Lm,ai,seval,ah]|exact rfl|refine aa (v:=.any) ?_|((first|apply Ca|apply Cb)<;>intro hb)|refine Ai (by omega) ?_|(apply Ai<;>intro hb)
          all_goals ((refine Fin.give [(w,none),(eb,none),(e,none)] [] ?_ ?_ ?_ ?_ ?_ (bB ho (by simp[bg,tgt]))<;>(try simp only[zF,ap,hw,heb,he,gF,dh,dJ v,z0,y0,x0,m1,m2,m3,m4,m5,m6,Bool.and_self,Bool.and_false,Bool.false_and,ad,aC,Lm,jU,ai,seval,ah])<;>(try simp only[al])<;>(try omega)))
  · rw[if_neg hkk]
    have hkk':okW x dz=false:=by simpa using hkk
    rw[hkk']at hkx
    generalize hB1:gC x=B1 at hmx hkx
    generalize hB2:decide (x.many<0)=B2 at hkx
    generalize hB3:((x.kind:Int)==1)=B3 at hkx
    have hB:B1=false\/(B1=true/\B2=true)\/(B1=true/\B2=false/\B3=true/\dz=true):=by cases B1<;>cases B2<;>cases B3<;>cases dz<;>simp at hkx ⊢
    clear hdz
    rcases hB with rfl|⟨rfl,rfl⟩|⟨rfl,rfl,rfl,rfl⟩
    all_goals (
      refine aV call117 func117 rfl (by kernel_rfl) rfl ?_;intro b0 hb0;have zF:=Ai results117 ntmps117
      have l1:=aY hb0 hw
      have z0:=aZ l1
      have l2:=aY hb0 heb
      have y0:=aZ l2
      have l3:=aY hb0 he
      have x0:=aZ l3
      repeat' first|simp only[aj,ag,zF,ap,hat,aG,b1,b2,b4,hB2,hB3,hpi,w1,hw,heb,he,Bt,Bf,Bool.and_false,Bool.and_true,Lm,ai,seval,ah]|exact rfl|refine aa (v:=.any) ?_|(first|(refine ac ?_ (hmx _) ?_)|(refine ab ?_ (fun _=>hmx _) ?_))|refine Ai (by omega) ?_
      all_goals ((refine Fin.give [(w,none),(eb,none),(e,none)] [] ?_ ?_ ?_ ?_ ?_ (bB ho (by simp[bg,tgt]))<;>(try simp only[zF,ap,hw,heb,he,ef,dJ v,z0,y0,x0,m1,m2,m3,m4,m5,m6,Bool.and_self,Bool.and_false,Bool.false_and,ad,aC,Lm,jU,ai,seval,ah])<;>(try simp only[al])<;>(try omega))))
def zA (v:List Nd)(hv:v.length<=512)(hok:∀ n∈v,n.okTo aS/\n.i64)(w eb e:Nat)(n1:w≠eb)(n2:w≠e)(n3:eb≠e):∀(d:Nat),d<=12 -> ∀(p:Nat) (en:List Nat) (M:am) (nm:Nat),p<v.length->en.length=v.length->M w=some ⟨1,[[Fk v w eb]]⟩->M eb=some ⟨1,[[.own e 0 v.length]]⟩->M e=some ⟨1,en.map ff⟩->(∀ z,(M z).isSome=true->z∈[w,eb,e])->w<nm->eb<nm->e<nm ->
   Ev cx 117 nm [.int .i64 p,.int .i64 (d:Int),.rp [.sl false 6 (v.map aG)],.ptr w 0 0,.ptr eb 0 0] M (.int .i64 (GL (lh v d p en).1)) [(w,some ⟨1,[[Fk v w eb]]⟩),(eb,some ⟨1,[[.own e 0 v.length]]⟩),(e,some ⟨1,(lh v d p en).2.map ff⟩)]
 | 0,hd=>zd v hv hok 0 hd true rfl _ (fun h=>absurd rfl h) w eb e n1 n2 n3 (fun h=>absurd rfl h)
 | d+1,hd=>zd v hv hok (d+1) hd false (by simp) (lh v d) (fun _=>uD v d) w eb e n1 n2 n3 (fun _=>zA v hv hok w eb e n1 n2 n3 d (by omega))
def mF:∀ q,(am.nil q).isSome=true->q∈([]:List Nat):=fun q h=>by cases h
def fI (n:Nat):sF cx.P 46 n=⟨1,(List.replicate n 0).map ff⟩:=by
 unfold sF
 rw[show bM cx.P 46=some ([.int .i64 0],8) by kernel_rfl]
 simp[ff]
def pG (v:List Nd)(hv:v.length<=aS)(hok:∀ n∈v,n.okTo aS/\n.i64)(r:V)(eff:List (Nat×Option Blk))(nm:Nat)(hr:(bJ v=none/\r = .nils/\eff=[]) \/ ∃ en,bJ v=some en/\r = .own nm 0 v.length/\eff=[(nm,some ⟨1,en.map ff⟩)]) :
  Ev cx 66 nm [.sl false 6 (v.map aG)] am.nil r eff:=by
 unfold aS at hv
 by_cases h0:v.length=0
 ·have hb:bJ v=none:=by unfold bJ;rw[if_pos (by rw[List.length_eq_zero_iff.1 h0];rfl)]
  have hre:r = .nils/\eff=[]:=by
   rcases hr with ⟨_,h⟩|⟨en,h,_⟩
   ·exact h
   ·rw[hb]at h;cases h
  obtain⟨rfl,rfl⟩:=hre
  have q0:((v.length:Int)==0)=true:=by rw[h0];rfl
  refine aV call66 func66 rfl (by kernel_rfl) rfl ?_;intro b0 hb0;have zF:=Ai results66 ntmps66
  (repeat' first|simp only[aj,ag,zF,ap,q0,ad,Bt,Lm,ai,seval,ah]|exact rfl|refine aa (v:=.any) ?_|refine aq (ps:=[(1,2)]) (by decide +kernel) (by simp only[List.forall_mem_cons,List.getD_cons_zero,List.getD_cons_succ,zF,ap,q0,ad,Bt,Lm,ai,seval,ah]<;>(try simp)<;>(try omega)) ?_|refine ao (by decide +kernel) ?_|((first|apply Ca|apply Cb)<;>intro hb)|refine Ai (by omega) ?_|(apply Ai<;>intro hb)|refine Fin.pure ?_ ?_ ?_|simp only[al])
 have q0:((v.length:Int)==0)=false:=beq_false_of_ne (by omega)
 by_cases h1:512<v.length
 ·have hb:bJ v=none:=by unfold bJ;rw[if_pos (by simp[h1])]
  have hre:r = .nils/\eff=[]:=by
   rcases hr with ⟨_,h⟩|⟨en,h,_⟩
   ·exact h
   ·rw[hb]at h;cases h
  obtain⟨rfl,rfl⟩:=hre
  have q1:decide ((512:Int)<(v.length:Int))=true:=cn
  have q2:decide (512<v.length)=true:=decide_eq_true h1
  refine aV call66 func66 rfl (by kernel_rfl) rfl ?_;intro b0 hb0;have zF:=Ai results66 ntmps66
  (repeat' first|simp only[aj,ag,zF,ap,q0,q1,q2,ad,Bt,Bf,Lm,ai,seval,ah]|exact rfl|refine aa (v:=.any) ?_|refine aq (ps:=[(1,2)]) (by decide +kernel) (by simp only[List.forall_mem_cons,List.getD_cons_zero,List.getD_cons_succ,zF,ap,q0,q1,q2,ad,Bt,Bf,Lm,ai,seval,ah]<;>(try simp)<;>(try omega)) ?_|refine ao (by decide +kernel) ?_|((first|apply Ca|apply Cb)<;>intro hb)|refine Ai (by omega) ?_|(apply Ai<;>intro hb)|refine Fin.pure ?_ ?_ ?_|simp only[al])
 have q1:decide ((512:Int)<(v.length:Int))=false:=aR
 have q2:decide (512<v.length)=false:=decide_eq_false h1
 obtain⟨x,hx⟩:∃ x,v[0]? = some x:=⟨_,List.getElem?_eq_getElem (by omega)⟩
 have hat:=dG hx
 have hp0:0<v.length:=by omega
 have hpi:(0:Int)<(v.length:Int):=by omega
 by_cases hk:x.kind=1
 ·have q3:((x.kind:Int) != 1)=false:=by rw[hk];rfl
  have hbo:bJ v=Af v.length (lh v 12 0 (List.replicate v.length 0)):=by
   have hc:(v.isEmpty||decide (512<v.length) || !((v[0]?).map Nd.kind==some 1))=false:=by
    rw[q2,hx]
    simp only[Option.map_some,hk,beq_self_eq_true,Bt,Bool.or_false]
    cases v with
    | nil=>simp at h0
    | cons _ _=>rfl
   unfold bJ
   rw[if_neg (by rw[hc];simp)]
  rw[hbo]at hr
  clear hbo
  have hcall:=fun (M':am) (n:Nat) (w eb e:Nat) (n1:w≠eb) (n2:w≠e) (n3:eb≠e) a1 a2 a3 a4 k1 k2 k3=>zA v (by omega) hok w eb e n1 n2 n3 12 (by omega) 0 (List.replicate v.length 0) M' n hp0 (by simp) a1 a2 a3 a4 k1 k2 k3
  unfold Fk at hcall
  have hlen:=nW v 12 0 (List.replicate v.length 0)
  rw[List.length_replicate]at hlen
  generalize lh v 12 0 (List.replicate v.length 0)=R at hr hcall hlen
  obtain⟨o,en⟩:=R
  simp only at hcall hlen
  by_cases ho:o=some v.length
  ·subst ho
   simp only[Af,if_pos]at hr
   have hre:r = .own nm 0 v.length/\eff=[(nm,some ⟨1,en.map ff⟩)]:=by
    rcases hr with ⟨h,_⟩|⟨en',h,h2⟩
    ·cases h
    ·cases h;exact h2
   obtain⟨rfl,rfl⟩:=hre
   have q4:((v.length:Int) !=(v.length:Int))=false:=by simp
   have q5:=gF v.length
   refine nk rfl call66 func66 rfl mixed (by kernel_rfl) rfl ?_;intro b0 hb0;have zF:=Ai results66 ntmps66
   repeat' first|simp only[aj,ag,zF,ap,ai,seval,ah]|exact rfl|refine aa (v:=.any) ?_|refine aq (ps:=[(1,2)]) (by decide +kernel) (by simp only[List.forall_mem_cons,List.getD_cons_zero,List.getD_cons_succ,zF,ap,ai,seval,ah]<;>(try simp)<;>(try omega)) ?_|refine ao (by decide +kernel) ?_|((first|apply Ca|apply Cb)<;>intro hb)|refine Ai (by omega) ?_|(apply Ai<;>intro hb)
   (refine mu bu (b0+16) ([(1,.rp [.sl false 6 (v.map aG)]),(2,.nils)]) ([]) [] ?_ ?_ ?_;(focus (show b0<=_;omega));(focus (refine⟨?_,?_⟩<;>(try simp only[aM,ad,ai,seval,ah,al])<;>(try omega))))
   repeat' first|simp only[aj,ag,zF,ap,q0,q1,q2,q3,q4,q5,hat,aG,hp0,hpi,fI,ad,aC,List.length_replicate,Bt,Bf,Lm,ai,seval,ah]|exact rfl|refine aa (v:=.any) ?_|((refine cN (caps:=?_) ?_ ?_ [b0+336,b0+304,b0+288] (hcall _ _ (b0+336) (b0+304) (b0+288) (by omega) (by omega) (by omega) ?_ ?_ ?_ aP (by omega) (by omega) (by omega)) ?_ ?_);rotate_left 1)|(refine vn (n:=?_) (c:=?_) (kx:=?_) (ky:=?_) ?_ ?_ ?_ ?_ ?_ ?_;rotate_left 4;(iterate 2 (focus (simp only[zF,ap,q0,q1,q2,q3,q4,q5,hat,aG,hp0,hpi,fI,ad,aC,List.length_replicate,Bt,Bf,Lm,ai,seval,ah]<;>exact rfl)));(iterate 2 (focus (simp only[zF,ap,q0,q1,q2,q3,q4,q5,hat,aG,hp0,hpi,fI,ad,aC,List.length_replicate,Bt,Bf,Lm,ai,seval,ah]<;>omega)));(focus (simp only[qw,zF,ap,q0,q1,q2,q3,q4,q5,hat,aG,hp0,hpi,fI,ad,aC,List.length_replicate,Bt,Bf,Lm,ai,seval,ah]<;>omega)))|(refine bf ?_)|(refine aW ?_)|refine aq (ps:=[(1,2)]) (by decide +kernel) (by simp only[List.forall_mem_cons,List.getD_cons_zero,List.getD_cons_succ,zF,ap,q0,q1,q2,q3,q4,q5,hat,aG,hp0,hpi,fI,ad,aC,List.length_replicate,Bt,Bf,Lm,ai,seval,ah]<;>(try simp)<;>(try omega)) ?_|refine ao (by decide +kernel) ?_|((first|apply Ca|apply Cb)<;>intro hb)|refine Ai (by omega) ?_|(apply Ai<;>intro hb)
   all_goals ((refine Fin.give [(b0+288,some 0)] [] ?_ ?_ ?_ ?_ ?_ (bB mF (by simp[bg,tgt]))<;>(try simp only[zF,ap,hlen,aC,Lm,jU,ai,seval,ah])<;>(try simp only[al])<;>(try omega)))
  ·have hre:r = .nils/\eff=[]:=by
    rcases hr with ⟨_,h⟩|⟨en',h,h2⟩
    ·exact h
    ·cases o with
     | none=>cases h
     | some e =>
      simp only[Af]at h
      split at h
      ·rename_i he;exact absurd (by rw[he]) ho
      ·cases h
   obtain⟨rfl,rfl⟩:=hre
   have q4:(GL o !=(v.length:Int))=true:=by
    cases o with
    | none=>simp only[GL,bne_iff_ne,ne_eq];omega
    | some e =>
     have:e≠v.length:=fun h=>ho (by rw[h])
     simp only[GL,bne_iff_ne,ne_eq];omega
   have q5:True:=trivial
   refine nk rfl call66 func66 rfl mixed (by kernel_rfl) rfl ?_;intro b0 hb0;have zF:=Ai results66 ntmps66
   repeat' first|simp only[aj,ag,zF,ap,ai,seval,ah]|exact rfl|refine aa (v:=.any) ?_|refine aq (ps:=[(1,2)]) (by decide +kernel) (by simp only[List.forall_mem_cons,List.getD_cons_zero,List.getD_cons_succ,zF,ap,ai,seval,ah]<;>(try simp)<;>(try omega)) ?_|refine ao (by decide +kernel) ?_|((first|apply Ca|apply Cb)<;>intro hb)|refine Ai (by omega) ?_|(apply Ai<;>intro hb)
   (refine mu bu (b0+16) ([(1,.rp [.sl false 6 (v.map aG)]),(2,.nils)]) ([]) [] ?_ ?_ ?_;(focus (show b0<=_;omega));(focus (refine⟨?_,?_⟩<;>(try simp only[aM,ad,ai,seval,ah,al])<;>(try omega))))
   repeat' first|simp only[aj,ag,zF,ap,q0,q1,q2,q3,q4,q5,hat,aG,hp0,hpi,fI,ad,aC,List.length_replicate,Bt,Bf,Lm,ai,seval,ah]|exact rfl|refine aa (v:=.any) ?_|((refine cN (caps:=?_) ?_ ?_ [b0+336,b0+304,b0+288] (hcall _ _ (b0+336) (b0+304) (b0+288) (by omega) (by omega) (by omega) ?_ ?_ ?_ aP (by omega) (by omega) (by omega)) ?_ ?_);rotate_left 1)|(refine vn (n:=?_) (c:=?_) (kx:=?_) (ky:=?_) ?_ ?_ ?_ ?_ ?_ ?_;rotate_left 4;(iterate 2 (focus (simp only[zF,ap,q0,q1,q2,q3,q4,q5,hat,aG,hp0,hpi,fI,ad,aC,List.length_replicate,Bt,Bf,Lm,ai,seval,ah]<;>exact rfl)));(iterate 2 (focus (simp only[zF,ap,q0,q1,q2,q3,q4,q5,hat,aG,hp0,hpi,fI,ad,aC,List.length_replicate,Bt,Bf,Lm,ai,seval,ah]<;>omega)));(focus (simp only[qw,zF,ap,q0,q1,q2,q3,q4,q5,hat,aG,hp0,hpi,fI,ad,aC,List.length_replicate,Bt,Bf,Lm,ai,seval,ah]<;>omega)))|(refine bf ?_)|(refine aW ?_)|refine aq (ps:=[(1,2)]) (by decide +kernel) (by simp only[List.forall_mem_cons,List.getD_cons_zero,List.getD_cons_succ,zF,ap,q0,q1,q2,q3,q4,q5,hat,aG,hp0,hpi,fI,ad,aC,List.length_replicate,Bt,Bf,Lm,ai,seval,ah]<;>(try simp)<;>(try omega)) ?_|refine ao (by decide +kernel) ?_|((first|apply Ca|apply Cb)<;>intro hb)|refine Ai (by omega) ?_|(apply Ai<;>intro hb)
   all_goals ((refine Fin.pure ?_ ?_ ?_<;>simp only[Lm,zF,ai,seval,ah]))
 ·have hb:bJ v=none:=by
   unfold bJ
   rw[if_pos (by rw[hx];simp[hk])]
  have hre:r = .nils/\eff=[]:=by
   rcases hr with ⟨_,h⟩|⟨en,h,_⟩
   ·exact h
   ·rw[hb]at h;cases h
  obtain⟨rfl,rfl⟩:=hre
  have q3:((x.kind:Int) != 1)=true:=by simp;omega
  refine aV call66 func66 rfl (by kernel_rfl) rfl ?_;intro b0 hb0;have zF:=Ai results66 ntmps66
  (repeat' first|simp only[aj,ag,zF,ap,q0,q1,q2,q3,hat,aG,hp0,hpi,ad,Bt,Bf,Lm,ai,seval,ah]|exact rfl|refine aa (v:=.any) ?_|refine aq (ps:=[(1,2)]) (by decide +kernel) (by simp only[List.forall_mem_cons,List.getD_cons_zero,List.getD_cons_succ,zF,ap,q0,q1,q2,q3,hat,aG,hp0,hpi,ad,Bt,Bf,Lm,ai,seval,ah]<;>(try simp)<;>(try omega)) ?_|refine ao (by decide +kernel) ?_|((first|apply Ca|apply Cb)<;>intro hb)|refine Ai (by omega) ?_|(apply Ai<;>intro hb)|refine Fin.pure ?_ ?_ ?_|simp only[al])
def jD (v:List Nd)(hv:v.length<=aS)(hok:∀ n∈v,n.okTo aS/\n.i64)(h:bJ v=none)(nm:Nat):Ev cx 66 nm [.sl false 6 (v.map aG)] am.nil .nils [] :=
 pG v hv hok .nils [] nm (.inl ⟨h,rfl,rfl⟩)
def jE (v:List Nd)(hv:v.length<=aS)(hok:∀ n∈v,n.okTo aS/\n.i64){en:List Nat}(h:bJ v=some en)(nm:Nat):Ev cx 66 nm [.sl false 6 (v.map aG)] am.nil (.own nm 0 v.length) [(nm,some ⟨1,en.map ff⟩)] :=
 pG v hv hok _ _ nm (.inr ⟨en,h,rfl,rfl⟩)
end Go.Proofs.YtlnlopnpcmahgaaGreatDoor
