/-
 Texts joined: XUi,XSf,XSg,XSh.
-/
import Derived.Test.YtcllbjanalhjgaaGreatDoorQp
import Derived.Test.YtcllbjanalhjgaaGreatDoorQn
import Derived.Test.YtcllbjanalhjgaaGreatDoorQr
import Derived.Test.YtcllbjanalhjgaaGreatDoorQl
import Derived.Test.YtcllbjanalhjgaaGreatDoorQe
namespace Go.Proofs.YtcllbjanalhjgaaGreatDoor
set_option maxRecDepth 100000
set_option maxHeartbeats 32000000
set_option linter.unusedSimpArgs false
set_option linter.unusedVariables false
open Nat renaming reduceAdd→Ka,reduceMul→Kb,reduceEqDiff→Kc,reduceLeDiff→Kd,reduceSub→Ke,reduceLT→Kf,reduceBEq→Kr,reduceBNe→Ks,reducePow→Kt
open Int renaming reduceToNat→Kg,reduceLE→Kh,reduceLT→Ki,reduceAdd→Kj,reduceSub→Kk,reduceMul→Kl,reduceNeg→Km,reduceBEq→Kn,reduceBNe→Ko,reduceEq→Kp,reduceNe→Kq
open Go Go.RowKit Vm Go.Lib Tryz
open Vm renaming be→Ca,bo→Cb
open And renaming intro→Ai
open List renaming length_map→Lm,not_mem_nil→Ln,map_nil→Lo,map_cons→Lc,mem_cons→Lk
open Bool renaming not_false→Bf,not_true→Bt
theorem JY {x y:Nd} : x=y↔x.kind=y.kind∧x.space=y.space∧x.name=y.name∧x.text=y.text∧x.many=y.many∧x.attrs=y.attrs:=by
 cases x;cases y;simp only[Nd.mk.injEq];constructor
 ·rintro ⟨h1,h2,h3,h4,h5,h6⟩;exact⟨h1,h2,h3,h5,h6,h4⟩
 ·rintro ⟨h1,h2,h3,h4,h5,h6⟩;exact⟨h1,h2,h3,h6,h4,h5⟩
theorem D8 (a b:List At)(ha:a.length≤bk)(hb:b.length≤bk)(nm:Nat):Ev cx 38 nm [.sl false 3 (a.map bG),.sl false 3 (b.map bG)] ao.nil (.bool (decide (a=b))) []:=by
  unfold bk at ha hb
  by_cases hl:a.length=b.length
  · have e1 : (((a.length:Nat):Int) !=((b.length:Nat):Int))=false:=kg hl
    refine ay rfl (fun cargs w=>call38 cargs w) func38 rfl mixed (by kernel_rfl) rfl ?_;intro b0 hb0
    repeat' first|simp only[am,ah,results38,ntmps38,Kt,ap,e1,Bt,Lm,ag,Ka,Kb,Kc,Kd,Ke,Kf,Kg,Kh,Ki,Kj,Kk,Kl,Km,reduceCtorEq,reduceIte,Kn,Ko,Kp,Kq,Kr,Ks,ae]|exact rfl|refine aa (v:=.any) ?_|refine aG (by decide +kernel) ?_|((first|apply Ca|apply Cb)<;>intro hb)|refine Ai (by omega) ?_|(apply Ai<;>intro hb)
    (refine aV cm (fun x:Nat=>a.length-x) (fun x=>x≤a.length∧nk a b x) (b0+16) (fun x=>[(0,.sl false 3 (a.map bG)),(1,.sl false 3 (b.map bG)),(5,.int .i64 x)]) (fun x=>[]) (0) [] ?_ ?_ ?_ ?_;rotate_left 1;(focus (show b0≤_;omega));(focus (refine⟨?_,?_⟩<;>(try simp only[bj,aw,Lm,ag,Ka,Kb,Kc,Kd,Ke,Kf,Kg,Kh,Ki,Kj,Kk,Kl,Km,reduceCtorEq,reduceIte,Kn,Ko,Kp,Kq,Kr,Ks,ae,au])<;>(try omega)));rotate_left 1)
    · exact⟨Nat.zero_le _,fun i hi=>by omega⟩
    · rintro k ⟨hk,hsm⟩
      by_cases hlt:k<a.length
      · obtain ⟨x,hx⟩:∃ x,a[k]? = some x:=⟨_,List.getElem?_eq_getElem hlt⟩
        obtain⟨y,hy⟩:∃ y,b[k]? = some y:=⟨_,List.getElem?_eq_getElem (hl ▸ hlt)⟩
        have hax:=pE hx
        have hby:=pE hy
        have hd:decide (k<a.length)=true:=decide_eq_true hlt
        have hlt2:k<b.length:=hl ▸ hlt
        have hwk:IntKind.i64.wrap ((k:Int)+1)=((k+1:Nat):Int):=aR (by omega) (by omega)
        by_cases hxy:x=y
        · subst hxy
          have hsm':=jm hsm hx hy
          repeat' first|simp only[am,ah,results38,ntmps38,Kt,ap,aw,hax,hby,bG,hd,hlt,hlt2,beq_self_eq_true,Bool.and_self,Bt,Lm,ag,Ka,Kb,Kc,Kd,Ke,Kf,Kg,Kh,Ki,Kj,Kk,Kl,Km,reduceCtorEq,reduceIte,Kn,Ko,Kp,Kq,Kr,Ks,ae]|exact rfl|refine aa (v:=.any) ?_|refine aG (by decide +kernel) ?_|((first|apply Ca|apply Cb)<;>intro hb)|refine Ai (by omega) ?_|(apply Ai<;>intro hb)
          all_goals ((refine aJ cm (k+1) [] ?_ ?_ ?_ ?_;rotate_left 2;(focus (show b0≤_;omega));(focus (refine⟨?_,?_⟩<;>(try simp only[bj,aw,hwk,Lm,ag,Ka,Kb,Kc,Kd,Ke,Kf,Kg,Kh,Ki,Kj,Kk,Kl,Km,reduceCtorEq,reduceIte,Kn,Ko,Kp,Kq,Kr,Ks,ae,au])<;>(try omega)))))
          all_goals (first|(show a.length-(k+1)<a.length-k;omega)|exact⟨hlt,hsm'⟩|skip)
        · have hr:decide (a=b)=false:=decide_eq_false (qI hx hy hxy)
          have e2:((x.space==y.space)&&((x.name==y.name)&&(x.value==y.value)))=false:=by
            cases x with|mk xs xn xv=>cases y with|mk ys yn yv =>
            simp only[At.mk.injEq,not_and]at hxy
            by_cases h0:xs=ys
            · by_cases h1:xn=yn
              · have:=hxy h0 h1
                simp[this]
              · simp[h1]
            · simp[h0]
          (repeat' first|simp only[am,ah,results38,ntmps38,Kt,ap,aw,hax,hby,bG,hd,hlt,hlt2,hr,e2,Bool.and_true,Bf,Lm,ag,Ka,Kb,Kc,Kd,Ke,Kf,Kg,Kh,Ki,Kj,Kk,Kl,Km,reduceCtorEq,reduceIte,Kn,Ko,Kp,Kq,Kr,Ks,ae]|exact rfl|refine aa (v:=.any) ?_|refine aG (by decide +kernel) ?_|((first|apply Ca|apply Cb)<;>intro hb)|refine Ai (by omega) ?_|(apply Ai<;>intro hb)|refine Fin.pure ?_ ?_ ?_|simp only[au])
      · have hke:k=a.length:=by omega
        subst hke
        have hr:decide (a=b)=true:=decide_eq_true (oq hl hsm)
        have hd:decide (a.length<a.length)=false:=decide_eq_false (by omega)
        (repeat' first|simp only[am,ah,results38,ntmps38,Kt,ap,hd,hr,Lm,ag,Ka,Kb,Kc,Kd,Ke,Kf,Kg,Kh,Ki,Kj,Kk,Kl,Km,reduceCtorEq,reduceIte,Kn,Ko,Kp,Kq,Kr,Ks,ae]|exact rfl|refine aa (v:=.any) ?_|refine aG (by decide +kernel) ?_|((first|apply Ca|apply Cb)<;>intro hb)|refine Ai (by omega) ?_|(apply Ai<;>intro hb)|refine Fin.pure ?_ ?_ ?_|simp only[au])
  · have e1:(((a.length:Nat):Int) !=((b.length:Nat):Int))=true:=ki hl
    have hr:decide (a=b)=false:=decide_eq_false (fun e=>hl (congrArg List.length e))
    refine ay rfl (fun cargs w=>call38 cargs w) func38 rfl mixed (by kernel_rfl) rfl ?_;intro b0 hb0
    (repeat' first|simp only[am,ah,results38,ntmps38,Kt,ap,e1,hr,Bf,Lm,ag,Ka,Kb,Kc,Kd,Ke,Kf,Kg,Kh,Ki,Kj,Kk,Kl,Km,reduceCtorEq,reduceIte,Kn,Ko,Kp,Kq,Kr,Ks,ae]|exact rfl|refine aa (v:=.any) ?_|refine aG (by decide +kernel) ?_|((first|apply Ca|apply Cb)<;>intro hb)|refine Ai (by omega) ?_|(apply Ai<;>intro hb)|refine Fin.pure ?_ ?_ ?_|simp only[au])
theorem uR (a b:List Nd)(ha:a.length≤bk)(hb:b.length≤bk)(ha2:∀ t∈a,t.attrs.length≤bk)(hb2:∀ t∈b,t.attrs.length≤bk)(nm:Nat):Ev cx 11 nm [.sl false 6 (a.map bc),.sl false 6 (b.map bc)] ao.nil (.bool (decide (a=b))) []:=by
  unfold bk at ha hb
  by_cases hl:a.length=b.length
  · have e1:(((a.length:Nat):Int) !=((b.length:Nat):Int))=false:=kg hl
    refine ay rfl (fun cargs w=>call11 cargs w) func11 rfl mixed (by kernel_rfl) rfl ?_;intro b0 hb0
    repeat' first|simp only[am,ah,results11,ntmps11,Kt,ap,e1,Lm,ag,Ka,Kb,Kc,Kd,Ke,Kf,Kg,Kh,Ki,Kj,Kk,Kl,Km,reduceCtorEq,reduceIte,Kn,Ko,Kp,Kq,Kr,Ks,ae]|exact rfl|refine aa (v:=.any) ?_|refine aG (by decide +kernel) ?_|((first|apply Ca|apply Cb)<;>intro hb)|refine Ai (by omega) ?_|(apply Ai<;>intro hb)
    (refine aV cm (fun x:Nat=>a.length-x) (fun x=>x≤a.length∧nk a b x) (b0+16) (fun x=>[(0,.sl false 6 (a.map bc)),(1,.sl false 6 (b.map bc)),(5,.int .i64 x)]) (fun x=>[]) (0) [] ?_ ?_ ?_ ?_;rotate_left 1;(focus (show b0≤_;omega));(focus (refine⟨?_,?_⟩<;>(try simp only[bj,ai,Lm,ag,Ka,Kb,Kc,Kd,Ke,Kf,Kg,Kh,Ki,Kj,Kk,Kl,Km,reduceCtorEq,reduceIte,Kn,Ko,Kp,Kq,Kr,Ks,ae,au])<;>(try omega)));rotate_left 1)
    · exact⟨Nat.zero_le _,fun i hi=>by omega⟩
    · rintro k ⟨hk,hsm⟩
      by_cases hlt:k<a.length
      · obtain⟨x,hx⟩:∃ x,a[k]? = some x:=⟨_,List.getElem?_eq_getElem hlt⟩
        obtain⟨y,hy⟩:∃ y,b[k]? = some y:=⟨_,List.getElem?_eq_getElem (hl ▸ hlt)⟩
        have hax:=iI hx
        have hby:=iI hy
        have hd:decide (k<a.length)=true:=decide_eq_true hlt
        have hlt2:k<b.length:=hl ▸ hlt
        have hwk:IntKind.i64.wrap ((k:Int)+1)=((k+1:Nat):Int):=aR (by omega) (by omega)
        have hsp:=D8 x.attrs y.attrs (ha2 x (List.mem_of_getElem? hx)) (hb2 y (List.mem_of_getElem? hy))
        by_cases hxy:x=y
        · subst hxy
          have hsm':=jm hsm hx hy
          have hz:decide (x.attrs=x.attrs)=true:=decide_eq_true rfl
          rw[hz]at hsp
          repeat' first|simp (maxSteps:=4000000) only[am,ah,results11,ntmps11,Kt,ap,List.append_eq,aw,hax,hby,bc,hd,hlt,hlt2,beq_self_eq_true,bne_self_eq_false,Bool.and_self,Bt,Lm,ag,Ka,Kb,Kc,Kd,Ke,Kf,Kg,Kh,Ki,Kj,Kk,Kl,Km,reduceCtorEq,reduceIte,Kn,Ko,Kp,Kq,Kr,Ks,ae]|exact rfl|refine aa (v:=.any) ?_|(first|(refine ac ?_ (hsp _) ?_)|(refine ab ?_ (fun _=>hsp _) ?_))|refine aG (by decide +kernel) ?_|((first|apply Ca|apply Cb)<;>intro hb)|refine Ai (by omega) ?_|(apply Ai<;>intro hb)
          all_goals ((refine aJ cm (k+1) [] ?_ ?_ ?_ ?_;rotate_left 2;(focus (show b0≤_;omega));(focus (refine⟨?_,?_⟩<;>(try simp only[bj,ai,hwk,Lm,ag,Ka,Kb,Kc,Kd,Ke,Kf,Kg,Kh,Ki,Kj,Kk,Kl,Km,reduceCtorEq,reduceIte,Kn,Ko,Kp,Kq,Kr,Ks,ae,au])<;>(try omega)))))
          all_goals (first|(show a.length-(k+1)<a.length-k;omega)|exact⟨hlt,hsm'⟩|skip)
        · have hr:decide (a=b)=false:=decide_eq_false (qI hx hy hxy)
          have hk1:((x.kind:Int) !=(y.kind:Int)) = !decide (x.kind=y.kind):=by rw[bne,IP]
          have hk2:(x.many != y.many) = !decide (x.many=y.many):=by
            rw[bne];congr 1
          have hcs:decide (x.kind=y.kind)=false∨(decide (x.kind=y.kind)=true∧(x.space==y.space)=false)∨(decide (x.kind=y.kind)=true∧(x.space==y.space)=true∧(x.name==y.name)=false)∨(decide (x.kind=y.kind)=true∧(x.space==y.space)=true∧(x.name==y.name)=true∧(x.text==y.text)=false)∨(decide (x.kind=y.kind)=true∧(x.space==y.space)=true∧(x.name==y.name)=true∧(x.text==y.text)=true∧decide (x.many=y.many)=false)∨(decide (x.kind=y.kind)=true∧(x.space==y.space)=true∧(x.name==y.name)=true∧(x.text==y.text)=true∧decide (x.many=y.many)=true∧decide (x.attrs=y.attrs)=false):=by
            have hx2:¬(decide (x.kind=y.kind)=true∧(x.space==y.space)=true∧(x.name==y.name)=true∧(x.text==y.text)=true∧decide (x.many=y.many)=true∧decide (x.attrs=y.attrs)=true):=by
              rintro ⟨h1,h2,h3,h4,h5,h6⟩
              exact hxy (JY.2 ⟨of_decide_eq_true h1,eq_of_beq h2,eq_of_beq h3,eq_of_beq h4,of_decide_eq_true h5,of_decide_eq_true h6⟩)
            generalize decide (x.kind=y.kind)=p1 at hx2 ⊢
            generalize (x.space==y.space)=p2 at hx2 ⊢
            generalize (x.name==y.name)=p3 at hx2 ⊢
            generalize (x.text==y.text)=p4 at hx2 ⊢
            generalize decide (x.many=y.many)=p5 at hx2 ⊢
            generalize decide (x.attrs=y.attrs)=p6 at hx2 ⊢
            cases p1<;>cases p2<;>cases p3<;>cases p4<;>cases p5<;>cases p6<;>simp at hx2 ⊢
          generalize hg1:decide (x.kind=y.kind)=g1 at hcs hk1
          generalize hg2:(x.space==y.space)=g2 at hcs
          generalize hg3:(x.name==y.name)=g3 at hcs
          generalize hg4:(x.text==y.text)=g4 at hcs
          generalize hg5:decide (x.many=y.many)=g5 at hcs hk2
          generalize hg6:decide (x.attrs=y.attrs)=g6 at hcs hsp
          rcases hcs with rfl|⟨rfl,rfl⟩|⟨rfl,rfl,rfl⟩|⟨rfl,rfl,rfl,rfl⟩|⟨rfl,rfl,rfl,rfl,rfl⟩|⟨rfl,rfl,rfl,rfl,rfl,rfl⟩
          all_goals ((repeat' first|simp (maxSteps:=4000000) only[am,ah,results11,ntmps11,Kt,ap,List.append_eq,aw,hax,hby,bc,hd,hlt,hlt2,hr,hk1,hk2,hg2,hg3,hg4,Bt,Bf,Lm,ag,Ka,Kb,Kc,Kd,Ke,Kf,Kg,Kh,Ki,Kj,Kk,Kl,Km,reduceCtorEq,reduceIte,Kn,Ko,Kp,Kq,Kr,Ks,ae]|exact rfl|refine aa (v:=.any) ?_|(first|(refine ac ?_ (hsp _) ?_)|(refine ab ?_ (fun _=>hsp _) ?_))|(refine aa (v:=.any) ?_)|refine aG (by decide +kernel) ?_|((first|apply Ca|apply Cb)<;>intro hb)|refine Ai (by omega) ?_|(apply Ai<;>intro hb)|refine Fin.pure ?_ ?_ ?_|simp only[au]))
      · have hke:k=a.length:=by omega
        subst hke
        have hr:decide (a=b)=true:=decide_eq_true (oq hl hsm)
        have hd:decide (a.length<a.length)=false:=decide_eq_false (by omega)
        (repeat' first|simp only[am,ah,results11,ntmps11,Kt,ap,hd,hr,Lm,ag,Ka,Kb,Kc,Kd,Ke,Kf,Kg,Kh,Ki,Kj,Kk,Kl,Km,reduceCtorEq,reduceIte,Kn,Ko,Kp,Kq,Kr,Ks,ae]|exact rfl|refine aa (v:=.any) ?_|refine aG (by decide +kernel) ?_|((first|apply Ca|apply Cb)<;>intro hb)|refine Ai (by omega) ?_|(apply Ai<;>intro hb)|refine Fin.pure ?_ ?_ ?_|simp only[au])
  · have e1:(((a.length:Nat):Int) !=((b.length:Nat):Int))=true:=ki hl
    have hr:decide (a=b)=false:=decide_eq_false (fun e=>hl (congrArg List.length e))
    refine ay rfl (fun cargs w=>call11 cargs w) func11 rfl mixed (by kernel_rfl) rfl ?_;intro b0 hb0
    (repeat' first|simp only[am,ah,results11,ntmps11,Kt,ap,e1,hr,Lm,ag,Ka,Kb,Kc,Kd,Ke,Kf,Kg,Kh,Ki,Kj,Kk,Kl,Km,reduceCtorEq,reduceIte,Kn,Ko,Kp,Kq,Kr,Ks,ae]|exact rfl|refine aa (v:=.any) ?_|refine aG (by decide +kernel) ?_|((first|apply Ca|apply Cb)<;>intro hb)|refine Ai (by omega) ?_|(apply Ai<;>intro hb)|refine Fin.pure ?_ ?_ ?_|simp only[au])
end Go.Proofs.YtcllbjanalhjgaaGreatDoor
namespace Go.Proofs.YtcllbjanalhjgaaGreatDoor
set_option maxRecDepth 100000
set_option maxHeartbeats 32000000
set_option linter.unusedSimpArgs false
set_option linter.unusedVariables false
open Go Go.RowKit Vm Go.Lib Tryz
open Vm renaming be→Ca,bo→Cb
open And renaming intro→Ai
open List renaming length_map→Lm,not_mem_nil→Ln,map_nil→Lo,map_cons→Lc,mem_cons→Lk
open Bool renaming not_false→Bf,not_true→Bt
def I7 (o:Option Nat):Int:=match o with|some n=>n|none=>-1
theorem iK (n:Nat):I7 (some n)=n:=rfl
theorem fh:I7 none = -1:=rfl
def Nd.i64 (n:Nd):Prop:=-9223372036854775808≤n.many∧n.many≤9223372036854775807
structure WSt where
 k:Nat
 next:Option Nat
 last:Nat
 en:List Nat
theorem eO (v:List Nd):V.plain (.rp [.sl false 6 (v.map bc)])=true:=by simp[V.plain,plainL,ai]
def HD (v:List Nd)(w eb:Nat):V:=.fn 69 [.rp [.sl false 6 (v.map bc)],.ptr w 0 0,.ptr eb 0 0]
theorem BN (v:List Nd)(hv:v.length≤512)(hok:∀ n∈v,n.okTo bk∧n.i64)(d:Nat)(hd:d≤12)(dz:Bool)(hdz:dz=decide (d=0))(W:Nat→List Nat→Option Nat×List Nat)(hW:d≠0→qN v (d-1) W)(w eb e:Nat)(n1:w≠eb)(n2:w≠e)(n3:eb≠e)
    (ih:d≠0 → ∀(p:Nat) (en:List Nat) (M:ao) (nm:Nat),p<v.length→en.length=v.length→M w=some ⟨1,[[HD v w eb]]⟩→M eb=some ⟨1,[[.own e 0 v.length]]⟩→M e=some ⟨1,en.map eT⟩→(∀ z,(M z).isSome=true→z∈[w,eb,e])→w<nm→eb<nm→e<nm →
      Ev cx 69 nm [.int .i64 p,.int .i64 ((d-1:Nat):Int),.rp [.sl false 6 (v.map bc)],.ptr w 0 0,.ptr eb 0 0] M (.int .i64 (I7 (W p en).1)) [(w,some ⟨1,[[HD v w eb]]⟩),(eb,some ⟨1,[[.own e 0 v.length]]⟩),(e,some ⟨1,(W p en).2.map eT⟩)])
    (p:Nat) (en:List Nat) (M:ao) (nm:Nat) (hp:p<v.length) (hl:en.length=v.length) (hw:M w=some ⟨1,[[HD v w eb]]⟩) (heb:M eb=some ⟨1,[[.own e 0 v.length]]⟩) (he:M e=some ⟨1,en.map eT⟩) (ho:∀ z,(M z).isSome=true→z∈[w,eb,e]) (lw:w<nm) (leb:eb<nm) (le:e<nm) :
    Ev cx 69 nm [.int .i64 p,.int .i64 d,.rp [.sl false 6 (v.map bc)],.ptr w 0 0,.ptr eb 0 0] M (.int .i64 (I7 (iJ W v dz p en).1)) [(w,some ⟨1,[[HD v w eb]]⟩),(eb,some ⟨1,[[.own e 0 v.length]]⟩),(e,some ⟨1,(iJ W v dz p en).2.map eT⟩)]:=by
  obtain⟨x,hx⟩:∃ x,v[p]? = some x:=⟨_,List.getElem?_eq_getElem hp⟩
  obtain⟨hxo,hx1,hx2⟩:=hok x (List.mem_of_getElem? hx)
  have hat:=iI hx
  have hmx:=LB x hxo
  have b1:decide ((p:Int)<0)=false:=decide_eq_false (by omega)
  have b2:decide (v.length≤p)=false:=decide_eq_false (by omega)
  have hpi:(p:Int)<(v.length:Int):=by omega
  have b4:((d:Int)==0)=dz:=by rw[hdz,Bool.eq_iff_iff];simp
  have hkx:okW x dz=(iY x && !decide (x.many<0) && !(((x.kind:Int)==1)&&dz)):=by
    unfold okW
    have h1:decide (0≤x.many) = !decide (x.many<0):=by rw[Bool.eq_iff_iff];simp
    have h2:((x.kind:Int)==1)=(x.kind==1):=by rw[Bool.eq_iff_iff];simp;omega
    rw[h1,h2]
  have hwalk:iJ W v dz p en=if okW x dz=true then dZ p (bM W v x.many.toNat (some (p+1)) 1 en) else (none,en):=by
    unfold iJ;rw[hx]
  have hroom:okW x dz=true→x.many.toNat≠0→d≠0:=by
    rintro h1 h2 rfl
    unfold okW at h1
    simp only[Bool.and_eq_true,decide_eq_true_eq,Bool.not_eq_true',Bool.and_eq_false_iff,beq_eq_false_iff_ne]at h1
    obtain⟨⟨a1,a2⟩,a3⟩:=h1
    rw[hdz]at a3
    simp at a3
    rcases pg a1 with h|h
    · exact a3 h
    · rw[(ma a1 h).2.2.2.1]at h2;exact h2 rfl
  rw[hwalk]
  clear hwalk
  have w1:IntKind.i64.wrap ((p:Int)+1)=((p+1:Nat):Int):=aR (by omega) (by omega)
  have m1:=eq_false n1;have m2:=eq_false n2;have m3:=eq_false n3
  have m4:=eq_false (Ne.symm n1);have m5:=eq_false (Ne.symm n2);have m6:=eq_false (Ne.symm n3)
  unfold HD at hw ⊢
  by_cases hkk:okW x dz=true
  · rw [if_pos hkk]
    have hroom:=hroom hkk
    rw[hkk]at hkx
    generalize hB1:iY x=B1 at hmx hkx
    generalize hB2:decide (x.many<0)=B2 at hkx
    generalize hB3:((x.kind:Int)==1)=B3 at hkx
    have hB:B1=true∧B2=false∧(B3&&dz)=false:=by cases B1<;>cases B2<;>cases B3<;>cases dz<;>simp at hkx ⊢
    obtain⟨rfl,rfl,hB4⟩:=hB
    have h0:0≤x.many:=by simpa using hB2
    obtain⟨m,hm⟩:∃ m:Nat,x.many=(m:Int):=⟨x.many.toNat,by omega⟩
    rw[hm]at hx2 hB2 hroom ⊢
    rw[Int.toNat_natCast]at hroom ⊢
    have hroom:∀ k,k<m→d≠0:=fun k hk=>hroom (by omega)
    refine ay rfl (fun cargs w=>call69 cargs w) func69 rfl mixed (by kernel_rfl) rfl ?_;intro b0 hb0
    have l1:w<b0:=av hb0 (by rw[hw];rfl)
    have z0:=aS l1;have z1:=aq l1;have z2:=aI l1;have z3:=aj l1
    have l2:eb<b0:=av hb0 (by rw[heb];rfl)
    have y0:=aS l2;have y1:=aq l2;have y2:=aI l2;have y3:=aj l2
    have l3:e<b0:=av hb0 (by rw[he];rfl)
    have x0:=aS l3;have x1:=aq l3;have x2:=aI l3;have x3:=aj l3
    repeat' first|simp only[am,ah,results69,ntmps69,ap,hat,bc,hm,b1,b2,b4,hB2,hB3,hB4,hpi,w1,hw,heb,he,Bt,Bf,Bool.and_false,Lm,ag,seval,ae]|exact rfl|refine aa (v:=.any) ?_|(first|(refine ac ?_ (hmx _) ?_)|(refine ab ?_ (fun _=>hmx _) ?_))|refine Ai (by omega) ?_
    (refine aV cm (fun s:WSt=>m-s.k) (fun s=>s.k≤m∧s.en.length=v.length∧(∀ q,s.next=some q→q≤v.length)∧bM W v m (some (p+1)) 1 en=bM W v (m-s.k) s.next s.last s.en) (b0+16) (fun s=>[(0,.int .i64 p),(1,.int .i64 (d:Int)),(2,.rp [.sl false 6 (v.map bc)]),(3,.ptr w 0 0),(4,.ptr eb 0 0),(8,.int .i64 (I7 s.next)),(9,.int .u8 s.last),(52,.int .i64 m),(53,.int .i64 s.k)]) (fun s=>[(w,⟨1,[[.fn 69 [.rp [.sl false 6 (v.map bc)],.ptr w 0 0,.ptr eb 0 0]]]⟩),(eb,⟨1,[[.own e 0 v.length]]⟩),(e,⟨1,s.en.map eT⟩)]) (⟨0,some (p+1),1,en⟩) [some w,some eb,some e] ?_ ?_ ?_ ?_;rotate_left 1;(focus (show b0≤_;omega));(focus (refine⟨?_,?_⟩<;>(try simp only[bj,ai,aY,eO v,hw,heb,he,z0,z1,z2,z3,y0,y1,y2,y3,x0,x1,x2,x3,m1,m2,m3,m4,m5,m6,iK,Bool.and_self,Bool.and_false,Bool.false_and,Lm,ag,seval,ae,au])<;>(try omega)));rotate_left 1)
    · exact⟨Nat.zero_le _,hl,fun q hq=>by cases hq;omega,rfl⟩
    · rintro ⟨k,next,last,en1⟩ ⟨hk,hl1,hq,hinv⟩
      dsimp only at hk hl1 hq hinv ⊢
      rw[hinv]
      by_cases hlt:k<m
      · have hd1:decide ((k:Int)<(m:Int))=true:=decide_eq_true (by omega)
        have hd2:decide (k<m)=true:=decide_eq_true hlt
        obtain⟨c,hc⟩:∃ c,m-k=c+1:=⟨m-k-1,by omega⟩
        have hc2:m-(k+1)=c:=by omega
        rw[hc]at hinv ⊢
        have hwk:IntKind.i64.wrap ((k:Int)+1)=((k+1:Nat):Int):=aR (by omega) (by omega)
        cases next with
        | none =>
          have hr:bM W v (c+1) none last en1=(none,en1):=rfl
          rw[hr]
          have q0:decide ((-1:Int)<0)=true:=rfl
          repeat' first|simp only[am,ah,results69,ntmps69,ap,hd1,hd2,q0,fh,dZ,Bt,Bf,Bool.and_false,Lm,ag,seval,ae]|exact rfl|refine aa (v:=.any) ?_|((first|apply Ca|apply Cb)<;>intro hb)|refine Ai (by omega) ?_|(apply Ai<;>intro hb)
          all_goals ((refine Fin.give [(w,none),(eb,none),(e,none)] [] ?_ ?_ ?_ ?_ ?_ (fun q hq=>by have hqq:=ho q hq;first|(simp only[aD,tgt,Lc,Lo,Lk,Ln,or_false]at hqq ⊢;omega)|(simp only[aD,tgt,Lc,Lo,Lk,Ln,or_false]at hqq))<;>(try simp only[results69,ntmps69,ap,hw,heb,he,fh,dZ,eO v,z0,z1,z2,z3,y0,y1,y2,y3,x0,x1,x2,x3,m1,m2,m3,m4,m5,m6,Bool.and_self,Bool.and_false,Bool.false_and,ai,aY,Lm,ec,ag,seval,ae])<;>(try simp only[au])<;>(try omega)))
        | some q =>
          have hqv:=hq q rfl
          have q0:decide ((q:Int)<0)=false:=decide_eq_false (by omega)
          cases hy:v[q]? with
          | none =>
            have hge:v.length≤q:=List.getElem?_eq_none_iff.1 hy
            have q1:decide (v.length≤q)=true:=decide_eq_true hge
            have hr:bM W v (c+1) (some q) last en1=(none,en1):=by simp[bM,hy]
            rw[hr]
            repeat' first|simp only[am,ah,results69,ntmps69,ap,hd1,hd2,q0,q1,iK,fh,dZ,Bt,Bf,Bool.and_false,Lm,ag,seval,ae]|exact rfl|refine aa (v:=.any) ?_|((first|apply Ca|apply Cb)<;>intro hb)|refine Ai (by omega) ?_|(apply Ai<;>intro hb)
            all_goals ((refine Fin.give [(w,none),(eb,none),(e,none)] [] ?_ ?_ ?_ ?_ ?_ (fun q hq=>by have hqq:=ho q hq;first|(simp only[aD,tgt,Lc,Lo,Lk,Ln,or_false]at hqq ⊢;omega)|(simp only[aD,tgt,Lc,Lo,Lk,Ln,or_false]at hqq))<;>(try simp only[results69,ntmps69,ap,hw,heb,he,fh,dZ,eO v,z0,z1,z2,z3,y0,y1,y2,y3,x0,x1,x2,x3,m1,m2,m3,m4,m5,m6,Bool.and_self,Bool.and_false,Bool.false_and,ai,aY,Lm,ec,ag,seval,ae])<;>(try simp only[au])<;>(try omega)))
          | some y =>
            have hql:=(List.getElem?_eq_some_iff.1 hy).1
            have q1:decide (v.length≤q)=false:=decide_eq_false (by omega)
            have hay:=iI hy
            have hqi:(q:Int)<(v.length:Int):=by omega
            have hbb:(((last:Int)==2)&&((y.kind:Int)==(last:Int)))=(last==2&&y.kind==2):=by
              rw[Bool.eq_iff_iff];simp;omega
            have hd0:=hroom k hlt
            have hwd:IntKind.i64.wrap ((d:Int)-1)=((d-1:Nat):Int):=by rw[aR (by omega) (by omega)];omega
            cases hB:(last==2&&y.kind==2) with
            | true =>
              rw[hB]at hbb
              simp only[Bool.and_eq_true]at hbb
              obtain⟨q2,q3⟩:=hbb
              have hr:bM W v (c+1) (some q) last en1=(none,en1):=by simp[bM,hy,hB]
              rw[hr]
              repeat' first|simp only[am,ah,results69,ntmps69,ap,hd1,hd2,q0,q1,q2,q3,hay,bc,hql,hqi,iK,fh,dZ,Bt,Bf,Bool.and_false,Lm,ag,seval,ae]|exact rfl|refine aa (v:=.any) ?_|((first|apply Ca|apply Cb)<;>intro hb)|refine Ai (by omega) ?_|(apply Ai<;>intro hb)
              all_goals ((refine Fin.give [(w,none),(eb,none),(e,none)] [] ?_ ?_ ?_ ?_ ?_ (fun q hq=>by have hqq:=ho q hq;first|(simp only[aD,tgt,Lc,Lo,Lk,Ln,or_false]at hqq ⊢;omega)|(simp only[aD,tgt,Lc,Lo,Lk,Ln,or_false]at hqq))<;>(try simp only[results69,ntmps69,ap,hw,heb,he,fh,dZ,eO v,z0,z1,z2,z3,y0,y1,y2,y3,x0,x1,x2,x3,m1,m2,m3,m4,m5,m6,Bool.and_self,Bool.and_false,Bool.false_and,ai,aY,Lm,ec,ag,seval,ae])<;>(try simp only[au])<;>(try omega)))
            | false =>
              rw[hB]at hbb
              have hr:bM W v (c+1) (some q) last en1=bM W v c (W q en1).1 y.kind (W q en1).2:=by simp[bM,hy,hB]
              rw[hr]at hinv ⊢
              have hcall:=fun (M':ao) (a1:M' w=some ⟨1,[[HD v w eb]]⟩) (a2:M' eb=some ⟨1,[[.own e 0 v.length]]⟩) (a3:M' e=some ⟨1,en1.map eT⟩) (a4:∀ z,(M' z).isSome=true→z∈[w,eb,e]) (n:Nat) (k1:w<n) (k2:eb<n) (k3:e<n)=>ih hd0 q en1 M' n hql hl1 a1 a2 a3 a4 k1 k2 k3
              unfold HD at hcall
              obtain⟨t1,t2⟩:=(hW hd0) q en1 hl1 |>.1
              generalize hB2:((last:Int)==2)=g2 at hbb
              generalize hB3:((y.kind:Int)==(last:Int))=g3 at hbb
              have hcs:(g2=true∧g3=false)∨g2=false:=by cases g2<;>cases g3<;>simp at hbb ⊢
              rcases hcs with ⟨rfl,rfl⟩|rfl
              all_goals (
                repeat' first|simp only[am,ah,results69,ntmps69,ap,hd1,hd2,q0,q1,hB2,hB3,hay,bc,hql,hqi,hwd,hwk,z0,z1,z2,z3,y0,y1,y2,y3,x0,x1,x2,x3,m1,m2,m3,m4,m5,m6,iK,fh,Bt,Bf,Bool.and_false,Lm,ag,seval,ae]|exact rfl|refine aa (v:=.any) ?_|((refine c9 (caps:=?_) ?_ ?_ [w,eb,e] (hcall _ ?_ ?_ ?_ ak _ (by omega) (by omega) (by omega)) ?_ ?_);rotate_left 1)|((first|apply Ca|apply Cb)<;>intro hb)|refine Ai (by omega) ?_|(apply Ai<;>intro hb)
                all_goals ((refine aJ cm (⟨k+1,(W q en1).1,y.kind,(W q en1).2⟩) [some w,some eb,some e] ?_ ?_ ?_ ?_;rotate_left 2;(focus (show b0≤_;omega));(focus (refine⟨?_,?_⟩<;>(try simp only[bj,ai,aY,eO v,hwk,z0,z1,z2,z3,y0,y1,y2,y3,x0,x1,x2,x3,m1,m2,m3,m4,m5,m6,Bool.and_self,Bool.and_false,Bool.false_and,Lm,ag,seval,ae,au])<;>(try omega)))))
                all_goals (first|(show m-(k+1)<c+1;omega)|exact⟨hlt,t1,fun q' hq'=>by obtain⟨_,_,_,_,_,h4,_⟩:=t2 q' hq';exact h4,by show _=bM _ _ (m-(k+1)) _ _ _;rw[hc2]⟩|skip))
      · have hkm:k=m:=by omega
        subst hkm
        have hd1:decide ((k:Int)<(k:Int))=false:=decide_eq_false (by omega)
        have hd2:decide (k<k)=false:=decide_eq_false (by omega)
        have hr:bM W v (k-k) next last en1=(next,en1):=by rw[Nat.sub_self];rfl
        rw[hr]
        cases next with
        | none =>
          have q0:decide ((0:Int) ≤ -1)=false:=rfl
          repeat' first|simp only[am,ah,results69,ntmps69,ap,hd1,hd2,q0,fh,dZ,Bt,Bf,Bool.and_false,Lm,ag,seval,ae]|exact rfl|refine aa (v:=.any) ?_|((first|apply Ca|apply Cb)<;>intro hb)|refine Ai (by omega) ?_|(apply Ai<;>intro hb)
          all_goals ((refine Fin.give [(w,none),(eb,none),(e,none)] [] ?_ ?_ ?_ ?_ ?_ (fun q hq=>by have hqq:=ho q hq;first|(simp only[aD,tgt,Lc,Lo,Lk,Ln,or_false]at hqq ⊢;omega)|(simp only[aD,tgt,Lc,Lo,Lk,Ln,or_false]at hqq))<;>(try simp only[results69,ntmps69,ap,hw,heb,he,fh,dZ,eO v,z0,z1,z2,z3,y0,y1,y2,y3,x0,x1,x2,x3,m1,m2,m3,m4,m5,m6,Bool.and_self,Bool.and_false,Bool.false_and,ai,aY,Lm,ec,ag,seval,ae])<;>(try simp only[au])<;>(try omega)))
        | some q =>
          have q0:decide ((0:Int)≤(q:Int))=true:=decide_eq_true (by omega)
          have hset:(en1.map eT).set p [.int .i64 q]=(en1.set p q).map eT:=by rw[List.map_set];rfl
          have hpl:p<en1.length:=by omega
          have hgp:(en1.map eT)[p]? = some (eT (en1[p]'hpl)):=by rw[List.getElem?_map,List.getElem?_eq_getElem hpl];rfl
          repeat' first|simp only[am,ah,results69,ntmps69,ap,hd1,hd2,q0,hset,hgp,eT,hpi,hp,z0,z1,z2,z3,y0,y1,y2,y3,x0,x1,x2,x3,m1,m2,m3,m4,m5,m6,iK,dZ,Bt,Bf,Bool.and_false,Lm,ag,seval,ae]|exact rfl|refine aa (v:=.any) ?_|((first|apply Ca|apply Cb)<;>intro hb)|refine Ai (by omega) ?_|(apply Ai<;>intro hb)
          all_goals ((refine Fin.give [(w,none),(eb,none),(e,none)] [] ?_ ?_ ?_ ?_ ?_ (fun q hq=>by have hqq:=ho q hq;first|(simp only[aD,tgt,Lc,Lo,Lk,Ln,or_false]at hqq ⊢;omega)|(simp only[aD,tgt,Lc,Lo,Lk,Ln,or_false]at hqq))<;>(try simp only[results69,ntmps69,ap,hw,heb,he,iK,dZ,eO v,z0,z1,z2,z3,y0,y1,y2,y3,x0,x1,x2,x3,m1,m2,m3,m4,m5,m6,Bool.and_self,Bool.and_false,Bool.false_and,ai,aY,Lm,ec,ag,seval,ae])<;>(try simp only[au])<;>(try omega)))
  · rw[if_neg hkk]
    have hkk':okW x dz=false:=by simpa using hkk
    rw[hkk']at hkx
    generalize hB1:iY x=B1 at hmx hkx
    generalize hB2:decide (x.many<0)=B2 at hkx
    generalize hB3:((x.kind:Int)==1)=B3 at hkx
    have hB:B1=false∨(B1=true∧B2=true)∨(B1=true∧B2=false∧B3=true∧dz=true):=by cases B1<;>cases B2<;>cases B3<;>cases dz<;>simp at hkx ⊢
    clear hdz
    rcases hB with rfl|⟨rfl,rfl⟩|⟨rfl,rfl,rfl,rfl⟩
    all_goals (
      refine ay rfl (fun cargs w=>call69 cargs w) func69 rfl mixed (by kernel_rfl) rfl ?_;intro b0 hb0
      have l1:w<b0:=av hb0 (by rw[hw];rfl)
      have z0:=aS l1;have z1:=aq l1;have z2:=aI l1;have z3:=aj l1
      have l2:eb<b0:=av hb0 (by rw[heb];rfl)
      have y0:=aS l2;have y1:=aq l2;have y2:=aI l2;have y3:=aj l2
      have l3:e<b0:=av hb0 (by rw[he];rfl)
      have x0:=aS l3;have x1:=aq l3;have x2:=aI l3;have x3:=aj l3
      repeat' first|simp only[am,ah,results69,ntmps69,ap,hat,bc,b1,b2,b4,hB2,hB3,hpi,w1,hw,heb,he,Bt,Bf,Bool.and_false,Bool.and_true,Lm,ag,seval,ae]|exact rfl|refine aa (v:=.any) ?_|(first|(refine ac ?_ (hmx _) ?_)|(refine ab ?_ (fun _=>hmx _) ?_))|refine Ai (by omega) ?_
      all_goals ((refine Fin.give [(w,none),(eb,none),(e,none)] [] ?_ ?_ ?_ ?_ ?_ (fun q hq=>by have hqq:=ho q hq;first|(simp only[aD,tgt,Lc,Lo,Lk,Ln,or_false]at hqq ⊢;omega)|(simp only[aD,tgt,Lc,Lo,Lk,Ln,or_false]at hqq))<;>(try simp only[results69,ntmps69,ap,hw,heb,he,fh,eO v,z0,z1,z2,z3,y0,y1,y2,y3,x0,x1,x2,x3,m1,m2,m3,m4,m5,m6,Bool.and_self,Bool.and_false,Bool.false_and,ai,aY,Lm,ec,ag,seval,ae])<;>(try simp only[au])<;>(try omega))))
theorem B8 (v:List Nd)(hv:v.length≤512)(hok:∀ n∈v,n.okTo bk∧n.i64)(w eb e:Nat)(n1:w≠eb)(n2:w≠e)(n3:eb≠e):∀(d:Nat),d≤12 → ∀(p:Nat) (en:List Nat) (M:ao) (nm:Nat),p<v.length→en.length=v.length→M w=some ⟨1,[[HD v w eb]]⟩→M eb=some ⟨1,[[.own e 0 v.length]]⟩→M e=some ⟨1,en.map eT⟩→(∀ z,(M z).isSome=true→z∈[w,eb,e])→w<nm→eb<nm→e<nm →
   Ev cx 69 nm [.int .i64 p,.int .i64 (d:Int),.rp [.sl false 6 (v.map bc)],.ptr w 0 0,.ptr eb 0 0] M (.int .i64 (I7 (mG v d p en).1)) [(w,some ⟨1,[[HD v w eb]]⟩),(eb,some ⟨1,[[.own e 0 v.length]]⟩),(e,some ⟨1,(mG v d p en).2.map eT⟩)]
 | 0,hd=>BN v hv hok 0 hd true rfl _ (fun h=>absurd rfl h) w eb e n1 n2 n3 (fun h=>absurd rfl h)
 | d+1,hd=>BN v hv hok (d+1) hd false (by simp) (mG v d) (fun _=>wy v d) w eb e n1 n2 n3 (fun _=>B8 v hv hok w eb e n1 n2 n3 d (by omega))
theorem Ik (a b:List At)(f:Nat)(caps:List V)(hf:∀ x∈a,∀ y∈b,∀ nm,Ev cx f nm (.agg (bG x) :: .agg (bG y)::caps) ao.nil (.bool (decide (x=y))) [])(ha:a.length≤bk)(hb:b.length≤bk)(hpl:plainL caps=true)(nm:Nat):Ev cx 68 nm [.sl false 3 (a.map bG),.sl false 3 (b.map bG),.fn f caps] ao.nil (.bool (decide (a=b))) []:=by
 unfold bk at ha hb
 by_cases hl:a.length=b.length
 ·have e1:(((a.length:Nat):Int) !=((b.length:Nat):Int))=false:=kg hl
  refine ay rfl (fun cargs w=>call68 cargs w) func68 rfl mixed (by kernel_rfl) rfl ?_;intro b0 hb0
  repeat' first|simp only[am,ah,results68,ntmps68,ap,e1,Bt,Lm,ag,seval,ae]|exact rfl|refine aa (v:=.any) ?_|((first|(refine aL (g:=?_) ?_ ?_)|(refine aH (g:=?_) ?_ ?_));rotate_left 1;(focus (simp only[results68,ntmps68,ap,e1,Bt,Lm,ag,seval,ae]<;>exact rfl)))|((first|apply Ca|apply Cb)<;>intro hb)|refine Ai (by omega) ?_|(apply Ai<;>intro hb)
  (refine aV cm (fun x:Nat=>a.length-x) (fun x=>x≤a.length∧nk a b x) (b0+16) (fun x=>[(1,.sl false 3 (b.map bG)),(2,.fn f caps),(15,.sl false 3 (a.map bG)),(16,.int .i64 a.length),(17,.int .i64 x)]) (fun x=>[]) (0) [] ?_ ?_ ?_ ?_;rotate_left 1;(focus (show b0≤_;omega));(focus (refine⟨?_,?_⟩<;>(try simp only[bj,aw,eo hpl,c5 hpl,Lm,ag,seval,ae,au])<;>(try omega)));rotate_left 1)
  ·exact⟨Nat.zero_le _,fun i hi=>by omega⟩
  ·rintro k ⟨hk,hsm⟩
   by_cases hlt:k<a.length
   ·obtain⟨x,hx⟩:∃ x,a[k]? = some x:=⟨_,List.getElem?_eq_getElem hlt⟩
    obtain⟨y,hy⟩:∃ y,b[k]? = some y:=⟨_,List.getElem?_eq_getElem (hl ▸ hlt)⟩
    have hax:=pE hx
    have hby:=pE hy
    have hd:decide (k<a.length)=true:=decide_eq_true hlt
    have hlt2:k<b.length:=hl ▸ hlt
    have hwk:IntKind.i64.wrap ((k:Int)+1)=((k+1:Nat):Int):=aR (by omega) (by omega)
    have hfh:=hf x (List.mem_of_getElem? hx) y (List.mem_of_getElem? hy)
    by_cases hxy:x=y
    ·subst hxy
     have hsm':=jm hsm hx hy
     rw[decide_eq_true rfl]at hfh
     repeat' first|simp only[am,ah,results68,ntmps68,ap,aw,hax,hby,bG,hd,hlt,hlt2,hwk,Bt,Lm,ag,seval,ae]|exact rfl|refine aa (v:=.any) ?_|refine cE (g:=f) (caps:=caps) (by simp only[results68,ntmps68,ap,aw,hax,hby,bG,hd,hlt,hlt2,hwk,Bt,Lm,ag,seval,ae]<;>exact rfl) (by simp only[results68,ntmps68,ap,aw,hax,hby,bG,hd,hlt,hlt2,hwk,Bt,Lm,ag,seval,ae]<;>exact rfl) (hfh _) ?_|((first|(refine aL (g:=?_) ?_ ?_)|(refine aH (g:=?_) ?_ ?_));rotate_left 1;(focus (simp only[results68,ntmps68,ap,aw,hax,hby,bG,hd,hlt,hlt2,hwk,Bt,Lm,ag,seval,ae]<;>exact rfl)))|((first|apply Ca|apply Cb)<;>intro hb)|refine Ai (by omega) ?_|(apply Ai<;>intro hb)
     all_goals ((refine aJ cm (k+1) [] ?_ ?_ ?_ ?_;rotate_left 2;(focus (show b0≤_;omega));(focus (refine⟨?_,?_⟩<;>(try simp only[bj,aw,eo hpl,c5 hpl,hwk,Lm,ag,seval,ae,au])<;>(try omega)))))
     all_goals (first|(show a.length-(k+1)<a.length-k;omega)|exact⟨hlt,hsm'⟩|skip)
    ·have hr:decide (a=b)=false:=decide_eq_false (qI hx hy hxy)
     rw[decide_eq_false hxy]at hfh
     (repeat' first|simp only[am,ah,results68,ntmps68,ap,aw,hax,hby,bG,hd,hlt,hlt2,hr,Bf,Lm,ag,seval,ae]|exact rfl|refine aa (v:=.any) ?_|refine cE (g:=f) (caps:=caps) (by simp only[results68,ntmps68,ap,aw,hax,hby,bG,hd,hlt,hlt2,hr,Bf,Lm,ag,seval,ae]<;>exact rfl) (by simp only[results68,ntmps68,ap,aw,hax,hby,bG,hd,hlt,hlt2,hr,Bf,Lm,ag,seval,ae]<;>exact rfl) (hfh _) ?_|((first|(refine aL (g:=?_) ?_ ?_)|(refine aH (g:=?_) ?_ ?_));rotate_left 1;(focus (simp only[results68,ntmps68,ap,aw,hax,hby,bG,hd,hlt,hlt2,hr,Bf,Lm,ag,seval,ae]<;>exact rfl)))|((first|apply Ca|apply Cb)<;>intro hb)|refine Ai (by omega) ?_|(apply Ai<;>intro hb)|refine Fin.pure ?_ ?_ ?_|simp only[au])
   ·have hke:k=a.length:=by omega
    subst hke
    have hr:decide (a=b)=true:=decide_eq_true (oq hl hsm)
    have hd:decide (a.length<a.length)=false:=decide_eq_false (by omega)
    (repeat' first|simp only[am,ah,results68,ntmps68,ap,hd,hr,Lm,ag,seval,ae]|exact rfl|refine aa (v:=.any) ?_|((first|(refine aL (g:=?_) ?_ ?_)|(refine aH (g:=?_) ?_ ?_));rotate_left 1;(focus (simp only[results68,ntmps68,ap,hd,hr,Lm,ag,seval,ae]<;>exact rfl)))|((first|apply Ca|apply Cb)<;>intro hb)|refine Ai (by omega) ?_|(apply Ai<;>intro hb)|refine Fin.pure ?_ ?_ ?_|simp only[au])
 ·have e1:(((a.length:Nat):Int) !=((b.length:Nat):Int))=true:=ki hl
  have hr:decide (a=b)=false:=decide_eq_false (fun e=>hl (congrArg List.length e))
  refine ay rfl (fun cargs w=>call68 cargs w) func68 rfl mixed (by kernel_rfl) rfl ?_;intro b0 hb0
  (repeat' first|simp only[am,ah,results68,ntmps68,ap,e1,hr,Bf,Lm,ag,seval,ae]|exact rfl|refine aa (v:=.any) ?_|((first|(refine aL (g:=?_) ?_ ?_)|(refine aH (g:=?_) ?_ ?_));rotate_left 1;(focus (simp only[results68,ntmps68,ap,e1,hr,Bf,Lm,ag,seval,ae]<;>exact rfl)))|((first|apply Ca|apply Cb)<;>intro hb)|refine Ai (by omega) ?_|(apply Ai<;>intro hb)|refine Fin.pure ?_ ?_ ?_|simp only[au])
theorem Im (a b:List Nd)(f:Nat)(caps:List V)(hf:∀ x∈a,∀ y∈b,∀ nm,Ev cx f nm (.agg (bc x) :: .agg (bc y)::caps) ao.nil (.bool (decide (x=y))) [])(ha:a.length≤bk)(hb:b.length≤bk)(hpl:plainL caps=true)(nm:Nat):Ev cx 67 nm [.sl false 6 (a.map bc),.sl false 6 (b.map bc),.fn f caps] ao.nil (.bool (decide (a=b))) []:=by
 unfold bk at ha hb
 by_cases hl:a.length=b.length
 ·have e1:(((a.length:Nat):Int) !=((b.length:Nat):Int))=false:=kg hl
  refine ay rfl (fun cargs w=>call67 cargs w) func67 rfl mixed (by kernel_rfl) rfl ?_;intro b0 hb0
  repeat' first|simp only[am,ah,results67,ntmps67,ap,e1,Bt,Lm,ag,seval,ae]|exact rfl|refine aa (v:=.any) ?_|((first|(refine aL (g:=?_) ?_ ?_)|(refine aH (g:=?_) ?_ ?_));rotate_left 1;(focus (simp only[results67,ntmps67,ap,e1,Bt,Lm,ag,seval,ae]<;>exact rfl)))|((first|apply Ca|apply Cb)<;>intro hb)|refine Ai (by omega) ?_|(apply Ai<;>intro hb)
  (refine aV cm (fun x:Nat=>a.length-x) (fun x=>x≤a.length∧nk a b x) (b0+16) (fun x=>[(1,.sl false 6 (b.map bc)),(2,.fn f caps),(15,.sl false 6 (a.map bc)),(16,.int .i64 a.length),(17,.int .i64 x)]) (fun x=>[]) (0) [] ?_ ?_ ?_ ?_;rotate_left 1;(focus (show b0≤_;omega));(focus (refine⟨?_,?_⟩<;>(try simp only[bj,ai,eo hpl,c5 hpl,Lm,ag,seval,ae,au])<;>(try omega)));rotate_left 1)
  ·exact⟨Nat.zero_le _,fun i hi=>by omega⟩
  ·rintro k ⟨hk,hsm⟩
   by_cases hlt:k<a.length
   ·obtain⟨x,hx⟩:∃ x,a[k]? = some x:=⟨_,List.getElem?_eq_getElem hlt⟩
    obtain⟨y,hy⟩:∃ y,b[k]? = some y:=⟨_,List.getElem?_eq_getElem (hl ▸ hlt)⟩
    have hax:=iI hx
    have hby:=iI hy
    have hd:decide (k<a.length)=true:=decide_eq_true hlt
    have hlt2:k<b.length:=hl ▸ hlt
    have hwk:IntKind.i64.wrap ((k:Int)+1)=((k+1:Nat):Int):=aR (by omega) (by omega)
    have hfh:=hf x (List.mem_of_getElem? hx) y (List.mem_of_getElem? hy)
    by_cases hxy:x=y
    ·subst hxy
     have hsm':=jm hsm hx hy
     rw[decide_eq_true rfl]at hfh
     repeat' first|simp only[am,ah,results67,ntmps67,ap,ai,hax,hby,bc,hd,hlt,hlt2,hwk,Bt,Lm,ag,seval,ae]|exact rfl|refine aa (v:=.any) ?_|refine cE (g:=f) (caps:=caps) (by simp only[results67,ntmps67,ap,ai,hax,hby,bc,hd,hlt,hlt2,hwk,Bt,Lm,ag,seval,ae]<;>exact rfl) (by simp only[results67,ntmps67,ap,ai,hax,hby,bc,hd,hlt,hlt2,hwk,Bt,Lm,ag,seval,ae]<;>exact rfl) (hfh _) ?_|((first|(refine aL (g:=?_) ?_ ?_)|(refine aH (g:=?_) ?_ ?_));rotate_left 1;(focus (simp only[results67,ntmps67,ap,ai,hax,hby,bc,hd,hlt,hlt2,hwk,Bt,Lm,ag,seval,ae]<;>exact rfl)))|((first|apply Ca|apply Cb)<;>intro hb)|refine Ai (by omega) ?_|(apply Ai<;>intro hb)
     all_goals ((refine aJ cm (k+1) [] ?_ ?_ ?_ ?_;rotate_left 2;(focus (show b0≤_;omega));(focus (refine⟨?_,?_⟩<;>(try simp only[bj,ai,eo hpl,c5 hpl,hwk,Lm,ag,seval,ae,au])<;>(try omega)))))
     all_goals (first|(show a.length-(k+1)<a.length-k;omega)|exact⟨hlt,hsm'⟩|skip)
    ·have hr:decide (a=b)=false:=decide_eq_false (qI hx hy hxy)
     rw[decide_eq_false hxy]at hfh
     (repeat' first|simp only[am,ah,results67,ntmps67,ap,ai,hax,hby,bc,hd,hlt,hlt2,hr,Bf,Lm,ag,seval,ae]|exact rfl|refine aa (v:=.any) ?_|refine cE (g:=f) (caps:=caps) (by simp only[results67,ntmps67,ap,ai,hax,hby,bc,hd,hlt,hlt2,hr,Bf,Lm,ag,seval,ae]<;>exact rfl) (by simp only[results67,ntmps67,ap,ai,hax,hby,bc,hd,hlt,hlt2,hr,Bf,Lm,ag,seval,ae]<;>exact rfl) (hfh _) ?_|((first|(refine aL (g:=?_) ?_ ?_)|(refine aH (g:=?_) ?_ ?_));rotate_left 1;(focus (simp only[results67,ntmps67,ap,ai,hax,hby,bc,hd,hlt,hlt2,hr,Bf,Lm,ag,seval,ae]<;>exact rfl)))|((first|apply Ca|apply Cb)<;>intro hb)|refine Ai (by omega) ?_|(apply Ai<;>intro hb)|refine Fin.pure ?_ ?_ ?_|simp only[au])
   ·have hke:k=a.length:=by omega
    subst hke
    have hr:decide (a=b)=true:=decide_eq_true (oq hl hsm)
    have hd:decide (a.length<a.length)=false:=decide_eq_false (by omega)
    (repeat' first|simp only[am,ah,results67,ntmps67,ap,hd,hr,Lm,ag,seval,ae]|exact rfl|refine aa (v:=.any) ?_|((first|(refine aL (g:=?_) ?_ ?_)|(refine aH (g:=?_) ?_ ?_));rotate_left 1;(focus (simp only[results67,ntmps67,ap,hd,hr,Lm,ag,seval,ae]<;>exact rfl)))|((first|apply Ca|apply Cb)<;>intro hb)|refine Ai (by omega) ?_|(apply Ai<;>intro hb)|refine Fin.pure ?_ ?_ ?_|simp only[au])
 ·have e1:(((a.length:Nat):Int) !=((b.length:Nat):Int))=true:=ki hl
  have hr:decide (a=b)=false:=decide_eq_false (fun e=>hl (congrArg List.length e))
  refine ay rfl (fun cargs w=>call67 cargs w) func67 rfl mixed (by kernel_rfl) rfl ?_;intro b0 hb0
  (repeat' first|simp only[am,ah,results67,ntmps67,ap,e1,hr,Bf,Lm,ag,seval,ae]|exact rfl|refine aa (v:=.any) ?_|((first|(refine aL (g:=?_) ?_ ?_)|(refine aH (g:=?_) ?_ ?_));rotate_left 1;(focus (simp only[results67,ntmps67,ap,e1,hr,Bf,Lm,ag,seval,ae]<;>exact rfl)))|((first|apply Ca|apply Cb)<;>intro hb)|refine Ai (by omega) ?_|(apply Ai<;>intro hb)|refine Fin.pure ?_ ?_ ?_|simp only[au])
theorem GX (x y:At)(nm:Nat):Ev cx 44 nm [.agg (bG x),.agg (bG y)] ao.nil (.bool (decide (x=y))) []:=by
 have h:decide (x=y)=((x.space==y.space)&&((x.name==y.name)&&(x.value==y.value))):=by
  cases x;cases y
  rw[Bool.eq_iff_iff];simp
 rw[h]
 refine ay rfl (fun cargs w=>call44 cargs w) func44 rfl mixed (by kernel_rfl) rfl ?_;intro b0 hb0
 (repeat' first|simp only[am,ah,results44,ntmps44,ap,bG,Bool.and_true,ag,seval,ae]|exact rfl|refine aa (v:=.any) ?_|((first|apply Ca|apply Cb)<;>intro hb)|refine Ai (by omega) ?_|(apply Ai<;>intro hb)|refine Fin.pure ?_ ?_ ?_|simp only[au])
theorem AR (a b:List At)(ha:a.length≤bk)(hb:b.length≤bk)(nm:Nat):Ev cx 47 nm [.sl false 3 (a.map bG),.sl false 3 (b.map bG),.fn 44 []] ao.nil (.bool (decide (a=b))) []:=by
 have h:=Ik a b 44 [] (fun x _ y _ nm=>GX x y nm) ha hb rfl
 refine ay rfl (fun cargs w=>call47 cargs w) func47 rfl mixed (by kernel_rfl) rfl ?_;intro b0 hb0
 (repeat' first|simp only[am,ah,results47,ntmps47,ap,Lm,ag,seval,ae]|exact rfl|refine aa (v:=.any) ?_|(first|(refine ac ?_ (h _) ?_)|(refine ab ?_ (fun _=>h _) ?_))|((first|apply Ca|apply Cb)<;>intro hb)|refine Ai (by omega) ?_|(apply Ai<;>intro hb)|refine Fin.pure ?_ ?_ ?_|simp only[au])
theorem GY (x y:Nd)(hx:x.attrs.length≤bk)(hy:y.attrs.length≤bk)(nm:Nat):Ev cx 46 nm [.agg (bc x),.agg (bc y),.rp [.fn 44 []]] ao.nil (.bool (decide (x=y))) []:=by
 have hs:=AR x.attrs y.attrs hx hy
 have h:decide (x=y)=(((((((x.kind:Int)==(y.kind:Int))&&(x.space==y.space))&&(x.name==y.name))&&(x.text==y.text))&&(x.many==y.many))&&decide (x.attrs=y.attrs)):=by
  rw[Bool.eq_iff_iff]
  simp only[decide_eq_true_eq,Bool.and_eq_true,beq_iff_eq,JY]
  constructor
  ·rintro ⟨h1,h2,h3,h4,h5,h6⟩;exact⟨⟨⟨⟨⟨by omega,h2⟩,h3⟩,h4⟩,h5⟩,h6⟩
  ·rintro ⟨⟨⟨⟨⟨h1,h2⟩,h3⟩,h4⟩,h5⟩,h6⟩;exact⟨by omega,h2,h3,h4,h5,h6⟩
 rw[h]
 refine ay rfl (fun cargs w=>call46 cargs w) func46 rfl mixed (by kernel_rfl) rfl ?_;intro b0 hb0
 (repeat' first|simp only[am,ah,results46,ntmps46,ap,bc,aw,ag,seval,ae]|exact rfl|refine aa (v:=.any) ?_|(first|(refine ac ?_ (hs _) ?_)|(refine ab ?_ (fun _=>hs _) ?_))|((first|apply Ca|apply Cb)<;>intro hb)|refine Ai (by omega) ?_|(apply Ai<;>intro hb)|refine Fin.pure ?_ ?_ ?_|simp only[au])
theorem yy (a b:List Nd)(ha:a.length≤bk)(hb:b.length≤bk)(ha2:∀ t∈a,t.attrs.length≤bk)(hb2:∀ t∈b,t.attrs.length≤bk)(nm:Nat):Ev cx 18 nm [.sl false 6 (a.map bc),.sl false 6 (b.map bc)] ao.nil (.bool (decide (a=b))) []:=by
 have h:=Im a b 46 [.rp [.fn 44 []]] (fun x hx y hy nm=>GY x y (ha2 x hx) (hb2 y hy) nm) ha hb rfl
 have h2:∀ nm,Ev cx 45 nm [.sl false 6 (a.map bc),.sl false 6 (b.map bc),.fn 46 [.rp [.fn 44 []]]] ao.nil (.bool (decide (a=b))) []:=by
  intro nm
  refine ay rfl (fun cargs w=>call45 cargs w) func45 rfl mixed (by kernel_rfl) rfl ?_;intro b0 hb0
  (repeat' first|simp only[am,ah,results45,ntmps45,ap,Lm,ag,seval,ae]|exact rfl|refine aa (v:=.any) ?_|(first|(refine ac ?_ (h _) ?_)|(refine ab ?_ (fun _=>h _) ?_))|((first|apply Ca|apply Cb)<;>intro hb)|refine Ai (by omega) ?_|(apply Ai<;>intro hb)|refine Fin.pure ?_ ?_ ?_|simp only[au])
 refine ay rfl (fun cargs w=>call18 cargs w) func18 rfl mixed (by kernel_rfl) rfl ?_;intro b0 hb0
 (repeat' first|simp only[am,ah,results18,ntmps18,ap,ai,ag,seval,ae]|exact rfl|refine aa (v:=.any) ?_|((refine bn (xs:=?_) [b0+16] ?_ ?_ ?_ rfl (h2 _) ?_);rotate_left 1)|omega|((first|apply Ca|apply Cb)<;>intro hb)|refine Ai (by omega) ?_|(apply Ai<;>intro hb)|refine Fin.pure ?_ ?_ ?_|simp only[au])
theorem n9:∀ q,(ao.nil q).isSome=true→q∈([]:List Nat):=fun q h=>by cases h
theorem gC (n:Nat):uC cx.P 75 n=⟨1,(List.replicate n 0).map eT⟩:=by
 unfold uC
 rw[show cF cx.P 75=some ([.int .i64 0],8) by kernel_rfl]
 simp[eT]
theorem qZ (v:List Nd)(hv:v.length≤bk)(hok:∀ n∈v,n.okTo bk∧n.i64)(r:V)(eff:List (Nat×Option Blk))(nm:Nat)(hr:(cN v=none∧r = .nils∧eff=[]) ∨ ∃ en,cN v=some en∧r = .own nm 0 v.length∧eff=[(nm,some ⟨1,en.map eT⟩)]) :
  Ev cx 48 nm [.sl false 6 (v.map bc)] ao.nil r eff:=by
 unfold bk at hv
 by_cases h0:v.length=0
 ·have hb:cN v=none:=by unfold cN;rw[if_pos (by rw[List.length_eq_zero_iff.1 h0];rfl)]
  have hre:r = .nils∧eff=[]:=by
   rcases hr with ⟨_,h⟩|⟨en,h,_⟩
   ·exact h
   ·rw[hb]at h;cases h
  obtain⟨rfl,rfl⟩:=hre
  have q0:((v.length:Int)==0)=true:=by rw[h0];rfl
  refine ay rfl (fun cargs w=>call48 cargs w) func48 rfl mixed (by kernel_rfl) rfl ?_;intro b0 hb0
  (repeat' first|simp only[am,ah,results48,ntmps48,ap,q0,ai,Bt,Lm,ag,seval,ae]|exact rfl|refine aa (v:=.any) ?_|refine bg (ps:=[(1,2)]) (by decide +kernel) (by simp only[List.forall_mem_cons,List.getD_cons_zero,List.getD_cons_succ,results48,ntmps48,ap,q0,ai,Bt,Lm,ag,seval,ae]<;>(try simp)<;>(try omega)) ?_|refine aG (by decide +kernel) ?_|((first|apply Ca|apply Cb)<;>intro hb)|refine Ai (by omega) ?_|(apply Ai<;>intro hb)|refine Fin.pure ?_ ?_ ?_|simp only[au])
 have q0:((v.length:Int)==0)=false:=beq_false_of_ne (by omega)
 by_cases h1:512<v.length
 ·have hb:cN v=none:=by unfold cN;rw[if_pos (by simp[h1])]
  have hre:r = .nils∧eff=[]:=by
   rcases hr with ⟨_,h⟩|⟨en,h,_⟩
   ·exact h
   ·rw[hb]at h;cases h
  obtain⟨rfl,rfl⟩:=hre
  have q1:decide ((512:Int)<(v.length:Int))=true:=decide_eq_true (by omega)
  have q2:decide (512<v.length)=true:=decide_eq_true h1
  refine ay rfl (fun cargs w=>call48 cargs w) func48 rfl mixed (by kernel_rfl) rfl ?_;intro b0 hb0
  (repeat' first|simp only[am,ah,results48,ntmps48,ap,q0,q1,q2,ai,Bt,Bf,Lm,ag,seval,ae]|exact rfl|refine aa (v:=.any) ?_|refine bg (ps:=[(1,2)]) (by decide +kernel) (by simp only[List.forall_mem_cons,List.getD_cons_zero,List.getD_cons_succ,results48,ntmps48,ap,q0,q1,q2,ai,Bt,Bf,Lm,ag,seval,ae]<;>(try simp)<;>(try omega)) ?_|refine aG (by decide +kernel) ?_|((first|apply Ca|apply Cb)<;>intro hb)|refine Ai (by omega) ?_|(apply Ai<;>intro hb)|refine Fin.pure ?_ ?_ ?_|simp only[au])
 have q1:decide ((512:Int)<(v.length:Int))=false:=decide_eq_false (by omega)
 have q2:decide (512<v.length)=false:=decide_eq_false h1
 obtain⟨x,hx⟩:∃ x,v[0]? = some x:=⟨_,List.getElem?_eq_getElem (by omega)⟩
 have hat:=iI hx
 have hp0:0<v.length:=by omega
 have hpi:(0:Int)<(v.length:Int):=by omega
 by_cases hk:x.kind=1
 ·have q3:((x.kind:Int) != 1)=false:=by rw[hk];rfl
  have hbo:cN v=CP v.length (mG v 12 0 (List.replicate v.length 0)):=by
   have hc:(v.isEmpty||decide (512<v.length) || !((v[0]?).map Nd.kind==some 1))=false:=by
    rw[q2,hx]
    simp only[Option.map_some,hk,beq_self_eq_true,Bt,Bool.or_false]
    cases v with
    | nil=>simp at h0
    | cons _ _=>rfl
   unfold cN
   rw[if_neg (by rw[hc];simp)]
  rw[hbo]at hr
  clear hbo
  have hcall:=fun (M':ao) (n:Nat) (w eb e:Nat) (n1:w≠eb) (n2:w≠e) (n3:eb≠e) a1 a2 a3 a4 k1 k2 k3=>B8 v (by omega) hok w eb e n1 n2 n3 12 (by omega) 0 (List.replicate v.length 0) M' n hp0 (by simp) a1 a2 a3 a4 k1 k2 k3
  unfold HD at hcall
  have hlen:=pC v 12 0 (List.replicate v.length 0)
  rw[List.length_replicate]at hlen
  generalize mG v 12 0 (List.replicate v.length 0)=R at hr hcall hlen
  obtain⟨o,en⟩:=R
  simp only at hcall hlen
  by_cases ho:o=some v.length
  ·subst ho
   simp only[CP,if_pos]at hr
   have hre:r = .own nm 0 v.length∧eff=[(nm,some ⟨1,en.map eT⟩)]:=by
    rcases hr with ⟨h,_⟩|⟨en',h,h2⟩
    ·cases h
    ·cases h;exact h2
   obtain⟨rfl,rfl⟩:=hre
   have q4:((v.length:Int) !=(v.length:Int))=false:=by simp
   have q5:=iK v.length
   refine rC rfl (fun cargs w=>call48 cargs w) func48 rfl mixed (by kernel_rfl) rfl ?_;intro b0 hb0
   repeat' first|simp only[am,ah,results48,ntmps48,ap,ag,seval,ae]|exact rfl|refine aa (v:=.any) ?_|refine bg (ps:=[(1,2)]) (by decide +kernel) (by simp only[List.forall_mem_cons,List.getD_cons_zero,List.getD_cons_succ,results48,ntmps48,ap,ag,seval,ae]<;>(try simp)<;>(try omega)) ?_|refine aG (by decide +kernel) ?_|((first|apply Ca|apply Cb)<;>intro hb)|refine Ai (by omega) ?_|(apply Ai<;>intro hb)
   (refine qA cm (b0+16) ([(1,.rp [.sl false 6 (v.map bc)]),(2,.nils)]) ([]) [] ?_ ?_ ?_;(focus (show b0≤_;omega));(focus (refine⟨?_,?_⟩<;>(try simp only[bj,ai,ag,seval,ae,au])<;>(try omega))))
   repeat' first|simp only[am,ah,results48,ntmps48,ap,q0,q1,q2,q3,q4,q5,hat,bc,hp0,hpi,gC,ai,aY,List.length_replicate,Bt,Bf,Lm,ag,seval,ae]|exact rfl|refine aa (v:=.any) ?_|((refine c9 (caps:=?_) ?_ ?_ [b0+336,b0+304,b0+288] (hcall _ _ (b0+336) (b0+304) (b0+288) (by omega) (by omega) (by omega) ?_ ?_ ?_ ak (by omega) (by omega) (by omega)) ?_ ?_);rotate_left 1)|(refine xh (n:=?_) (c:=?_) (kx:=?_) (ky:=?_) ?_ ?_ ?_ ?_ ?_ ?_;rotate_left 4;(iterate 2 (focus (simp only[results48,ntmps48,ap,q0,q1,q2,q3,q4,q5,hat,bc,hp0,hpi,gC,ai,aY,List.length_replicate,Bt,Bf,Lm,ag,seval,ae]<;>exact rfl)));(iterate 2 (focus (simp only[results48,ntmps48,ap,q0,q1,q2,q3,q4,q5,hat,bc,hp0,hpi,gC,ai,aY,List.length_replicate,Bt,Bf,Lm,ag,seval,ae]<;>omega)));(focus (simp only[se,results48,ntmps48,ap,q0,q1,q2,q3,q4,q5,hat,bc,hp0,hpi,gC,ai,aY,List.length_replicate,Bt,Bf,Lm,ag,seval,ae]<;>omega)))|(refine bh ?_)|(refine ba ?_)|refine bg (ps:=[(1,2)]) (by decide +kernel) (by simp only[List.forall_mem_cons,List.getD_cons_zero,List.getD_cons_succ,results48,ntmps48,ap,q0,q1,q2,q3,q4,q5,hat,bc,hp0,hpi,gC,ai,aY,List.length_replicate,Bt,Bf,Lm,ag,seval,ae]<;>(try simp)<;>(try omega)) ?_|refine aG (by decide +kernel) ?_|((first|apply Ca|apply Cb)<;>intro hb)|refine Ai (by omega) ?_|(apply Ai<;>intro hb)
   all_goals ((refine Fin.give [(b0+288,some 0)] [] ?_ ?_ ?_ ?_ ?_ (fun q hq=>by have hqq:=n9 q hq;first|(simp only[aD,tgt,Lc,Lo,Lk,Ln,or_false]at hqq ⊢;omega)|(simp only[aD,tgt,Lc,Lo,Lk,Ln,or_false]at hqq))<;>(try simp only[results48,ntmps48,ap,hlen,aY,Lm,ec,ag,seval,ae])<;>(try simp only[au])<;>(try omega)))
  ·have hre:r = .nils∧eff=[]:=by
    rcases hr with ⟨_,h⟩|⟨en',h,h2⟩
    ·exact h
    ·cases o with
     | none=>cases h
     | some e =>
      simp only[CP]at h
      split at h
      ·rename_i he;exact absurd (by rw[he]) ho
      ·cases h
   obtain⟨rfl,rfl⟩:=hre
   have q4:(I7 o !=(v.length:Int))=true:=by
    cases o with
    | none=>simp only[I7,bne_iff_ne,ne_eq];omega
    | some e =>
     have:e≠v.length:=fun h=>ho (by rw[h])
     simp only[I7,bne_iff_ne,ne_eq];omega
   have q5:True:=trivial
   refine rC rfl (fun cargs w=>call48 cargs w) func48 rfl mixed (by kernel_rfl) rfl ?_;intro b0 hb0
   repeat' first|simp only[am,ah,results48,ntmps48,ap,ag,seval,ae]|exact rfl|refine aa (v:=.any) ?_|refine bg (ps:=[(1,2)]) (by decide +kernel) (by simp only[List.forall_mem_cons,List.getD_cons_zero,List.getD_cons_succ,results48,ntmps48,ap,ag,seval,ae]<;>(try simp)<;>(try omega)) ?_|refine aG (by decide +kernel) ?_|((first|apply Ca|apply Cb)<;>intro hb)|refine Ai (by omega) ?_|(apply Ai<;>intro hb)
   (refine qA cm (b0+16) ([(1,.rp [.sl false 6 (v.map bc)]),(2,.nils)]) ([]) [] ?_ ?_ ?_;(focus (show b0≤_;omega));(focus (refine⟨?_,?_⟩<;>(try simp only[bj,ai,ag,seval,ae,au])<;>(try omega))))
   repeat' first|simp only[am,ah,results48,ntmps48,ap,q0,q1,q2,q3,q4,q5,hat,bc,hp0,hpi,gC,ai,aY,List.length_replicate,Bt,Bf,Lm,ag,seval,ae]|exact rfl|refine aa (v:=.any) ?_|((refine c9 (caps:=?_) ?_ ?_ [b0+336,b0+304,b0+288] (hcall _ _ (b0+336) (b0+304) (b0+288) (by omega) (by omega) (by omega) ?_ ?_ ?_ ak (by omega) (by omega) (by omega)) ?_ ?_);rotate_left 1)|(refine xh (n:=?_) (c:=?_) (kx:=?_) (ky:=?_) ?_ ?_ ?_ ?_ ?_ ?_;rotate_left 4;(iterate 2 (focus (simp only[results48,ntmps48,ap,q0,q1,q2,q3,q4,q5,hat,bc,hp0,hpi,gC,ai,aY,List.length_replicate,Bt,Bf,Lm,ag,seval,ae]<;>exact rfl)));(iterate 2 (focus (simp only[results48,ntmps48,ap,q0,q1,q2,q3,q4,q5,hat,bc,hp0,hpi,gC,ai,aY,List.length_replicate,Bt,Bf,Lm,ag,seval,ae]<;>omega)));(focus (simp only[se,results48,ntmps48,ap,q0,q1,q2,q3,q4,q5,hat,bc,hp0,hpi,gC,ai,aY,List.length_replicate,Bt,Bf,Lm,ag,seval,ae]<;>omega)))|(refine bh ?_)|(refine ba ?_)|refine bg (ps:=[(1,2)]) (by decide +kernel) (by simp only[List.forall_mem_cons,List.getD_cons_zero,List.getD_cons_succ,results48,ntmps48,ap,q0,q1,q2,q3,q4,q5,hat,bc,hp0,hpi,gC,ai,aY,List.length_replicate,Bt,Bf,Lm,ag,seval,ae]<;>(try simp)<;>(try omega)) ?_|refine aG (by decide +kernel) ?_|((first|apply Ca|apply Cb)<;>intro hb)|refine Ai (by omega) ?_|(apply Ai<;>intro hb)
   all_goals ((refine Fin.pure ?_ ?_ ?_<;>simp only[Lm,results48,ntmps48,ag,seval,ae]))
 ·have hb:cN v=none:=by
   unfold cN
   rw[if_pos (by rw[hx];simp[hk])]
  have hre:r = .nils∧eff=[]:=by
   rcases hr with ⟨_,h⟩|⟨en,h,_⟩
   ·exact h
   ·rw[hb]at h;cases h
  obtain⟨rfl,rfl⟩:=hre
  have q3:((x.kind:Int) != 1)=true:=by simp;omega
  refine ay rfl (fun cargs w=>call48 cargs w) func48 rfl mixed (by kernel_rfl) rfl ?_;intro b0 hb0
  (repeat' first|simp only[am,ah,results48,ntmps48,ap,q0,q1,q2,q3,hat,bc,hp0,hpi,ai,Bt,Bf,Lm,ag,seval,ae]|exact rfl|refine aa (v:=.any) ?_|refine bg (ps:=[(1,2)]) (by decide +kernel) (by simp only[List.forall_mem_cons,List.getD_cons_zero,List.getD_cons_succ,results48,ntmps48,ap,q0,q1,q2,q3,hat,bc,hp0,hpi,ai,Bt,Bf,Lm,ag,seval,ae]<;>(try simp)<;>(try omega)) ?_|refine aG (by decide +kernel) ?_|((first|apply Ca|apply Cb)<;>intro hb)|refine Ai (by omega) ?_|(apply Ai<;>intro hb)|refine Fin.pure ?_ ?_ ?_|simp only[au])
theorem ra (v:List Nd)(hv:v.length≤bk)(hok:∀ n∈v,n.okTo bk∧n.i64)(h:cN v=none)(nm:Nat):Ev cx 48 nm [.sl false 6 (v.map bc)] ao.nil .nils [] :=
 qZ v hv hok .nils [] nm (.inl ⟨h,rfl,rfl⟩)
theorem rc (v:List Nd)(hv:v.length≤bk)(hok:∀ n∈v,n.okTo bk∧n.i64){en:List Nat}(h:cN v=some en)(nm:Nat):Ev cx 48 nm [.sl false 6 (v.map bc)] ao.nil (.own nm 0 v.length) [(nm,some ⟨1,en.map eT⟩)] :=
 qZ v hv hok _ _ nm (.inr ⟨en,h,rfl,rfl⟩)
end Go.Proofs.YtcllbjanalhjgaaGreatDoor
