/-
 Texts joined: XSp,XSq.
-/
import Derived.Test.YtjonibipieofcaaGreatDoorQq
import Derived.Test.YtjonibipieofcaaGreatDoorQs
set_option linter.all false
namespace Go.Proofs.YtjonibipieofcaaGreatDoor
set_option maxRecDepth 100000
set_option maxHeartbeats 32000000
open Go Go.RowKit Vm Go.Lib Tryz
open Vm renaming aI->Ca,aP->Cb
open And renaming intro->Ai
open List renaming length_map->Lm,not_mem_nil->Ln,map_nil->Lo,map_cons->Lc,mem_cons->Lk
open Bool renaming not_false->Bf,not_true->Bt
def qD (L:List Nd)(e:Int):V:=.tup [.sl false 6 (L.map aD),.int .i64 e]
def IG (a:At):Nat:=min a.name.length 20000+min a.space.length 20000+min a.value.length 20000
def lr (l:List At):Nat:=(l.map IG).sum
def tJ (x:Nd):Nat:=min x.name.length 20000+min x.space.length 20000+min x.text.length 20000
def Am (bytes:Nat):List Nd->Nat->Bool×Nat
 | [],n=>(false,n)
 | x::r,n=>if 30<x.attrs.length\/bytes<n+tJ x then (true,n) else Am bytes r (n+tJ x+lr x.attrs)
def kq (v:List Nd)(most bytes:Nat):Bool:=(Am bytes (v.take 600) 0).1||decide (most<v.length)||decide (bytes<(Am bytes (v.take 600) 0).2)
def Fj (a:At):IG a<=60000:=by unfold IG;omega
def MR (x:Nd):tJ x<=60000:=by unfold tJ;omega
def BM (l:List At):lr l<=60000*l.length:=by
 unfold lr
 induction l with
 | nil=>simp
 | cons a l ih=>have:=Fj a;simp only[Lc,List.sum_cons,List.length_cons];omega
def CF {l:List At}{k:Nat}{a:At}(h:l[k]? = some a):lr (l.take (k+1))=lr (l.take k)+IG a:=by
 obtain⟨hk,rfl⟩:=List.getElem?_eq_some_iff.1 h
 unfold lr
 rw[List.take_succ_eq_append_getElem hk,List.map_append,List.sum_append];simp
def Fl {l:List At}{a:At}(h:a∈l):IG a<=lr l:=by
 unfold lr
 induction l with
 | nil=>cases h
 | cons b l ih =>
  simp only[Lc,List.sum_cons]
  rcases List.mem_cons.1 h with rfl|h
  ·omega
  ·have:=ih h;omega
def uO {bytes:Nat} : ∀(v:List Nd) (n:Nat),(Am bytes v n).1=false->n<=(Am bytes v n).2 /\ ∀ x∈v,x.attrs.length<=30/\tJ x+lr x.attrs<=(Am bytes v n).2
 | [],n,_=>⟨Nat.le_refl _,fun x hx=>by cases hx⟩
 | x::r,n,h=>by
  simp only[Am]at h ⊢
  split at h
  ·cases h
  ·rename_i hc
   rw[if_neg hc]
   obtain⟨h1,h2⟩:=uO r _ h
   refine⟨by omega,fun y hy=>?_⟩
   rcases List.mem_cons.1 hy with rfl|hy
   ·exact⟨by omega,by omega⟩
   ·exact h2 y hy
def jw {v:List Nd}{most bytes:Nat}(hm:most<=600)(hb:bytes<20000)(h:kq v most bytes=false):v.length<=most /\ ∀ x∈v,x.attrs.length<=30/\x.okTo 20000/\x.name.length+x.space.length+x.text.length<=bytes:=by
 unfold kq at h
 simp only[Bool.or_eq_false_iff,decide_eq_false_iff_not,Nat.not_lt]at h
 obtain⟨⟨h1,h2⟩,h3⟩:=h
 refine⟨h2,fun x hx=>?_⟩
 have ht:v.take 600=v:=List.take_of_length_le (by omega)
 rw[ht]at h1 h3
 obtain⟨_,h5⟩:=uO v 0 h1
 obtain⟨h6,h7⟩:=h5 x hx
 have hn:tJ x<=bytes:=by omega
 have ha:lr x.attrs<=bytes:=by omega
 unfold tJ at hn
 refine⟨h6,⟨?_,?_,?_,?_,fun a ha2=>?_⟩,by omega⟩
 ·omega
 ·omega
 ·omega
 ·omega
 ·have:=Fl ha2
  unfold IG at this
  exact⟨by omega,by omega,by omega⟩
def Iw:lr []=0:=rfl
structure GSt where
 k:Nat
 n:Nat
def Av (v:List Nd)(most bytes:Nat)(hm:most<=1000)(hb:bytes<=1000000)(hv:v.length<=aT)(hok:∀ n∈v,n.okTo aT)(nm:Nat):Ev cx 10 nm [.sl false 6 (v.map aD),.int .i64 most,.int .i64 bytes] ao.nil (.bool (kq v most bytes)) []:=by
  have hv':=hv
  unfold aT at hv'
  refine aX call10 func10 ?_;intro b0 hb0
  refine wR (a2 results10 ntmps10) trivial ?_
  (refine ew (fun s:GSt=>v.length-s.k) (fun s=>s.k<=v.length/\s.k<=600/\Am bytes (v.take 600) 0=Am bytes ((v.take 600).drop s.k) s.n/\s.n<=bytes+1800000) (b0+16) (fun s=>[(0,.sl false 6 (v.map aD)),(1,.int .i64 most),(2,.int .i64 bytes),(7,.int .i64 s.n),(8,.int .i64 s.k)]) (fun s=>[]) (⟨0,0⟩) [] ?_ ?_ ?_;(focus (refine⟨?_,?_⟩<;>(try simp only[aE,ae,Lm,aj,ai,aq,seval])<;>(try omega))))
  · exact⟨Nat.zero_le _,Nat.zero_le _,rfl,Nat.zero_le _⟩
  · rintro ⟨k,n⟩ ⟨hk,hk6,hinv,hn⟩
    dsimp only at hk hk6 hinv hn ⊢
    by_cases hlt:k<v.length/\k<600
    · obtain⟨h1,h2⟩:=hlt
      obtain⟨x,hx⟩:∃ x,v[k]? = some x:=⟨_,List.getElem?_eq_getElem h1⟩
      obtain⟨o1,o2,o3,o4,o5⟩:=hok x (List.mem_of_getElem? hx)
      unfold aT at o1 o2 o3 o4
      have hat:=dS hx
      have hki:=jB k v.length
      have d1:=sC k v.length
      have d2:decide (k<v.length)=true:=decide_eq_true h1
      have d3:decide ((k:Int)<600)=true:=dh
      have d4:decide (k<600)=true:=decide_eq_true h2
      have hdr:(v.take 600).drop k=x::(v.take 600).drop (k+1):=by
        have:(v.take 600)[k]? = some x:=by rw[List.getElem?_take,if_pos h2];exact hx
        obtain⟨hp,rfl⟩:=List.getElem?_eq_some_iff.1 this
        exact List.drop_eq_getElem_cons hp
      rw[hdr]at hinv
      have hnx:=MR x
      have m1:min (x.name.length:Int) 20000=((min x.name.length 20000:Nat):Int):=by omega
      have m2:min (x.space.length:Int) 20000=((min x.space.length 20000:Nat):Int):=by omega
      have m3:min (x.text.length:Int) 20000=((min x.text.length 20000:Nat):Int):=by omega
      have hnd:tJ x=min x.name.length 20000+min x.space.length 20000+min x.text.length 20000:=rfl
      generalize min x.name.length 20000=n1 at m1 hnd
      generalize min x.space.length 20000=n2 at m2 hnd
      generalize min x.text.length 20000=n3 at m3 hnd
      have w1:IntKind.i64.wrap ((n:Int)+n1)=((n+n1:Nat):Int):=by rw[bH];omega
      have w2:IntKind.i64.wrap (((n+n1:Nat):Int)+n2)=((n+(n1+n2):Nat):Int):=by rw[bH];omega
      have w3:IntKind.i64.wrap (((n+(n1+n2):Nat):Int)+n3)=((n+tJ x:Nat):Int):=by rw[bH];omega
      have hwk:=eD k
      by_cases hc:30<x.attrs.length\/bytes<n+tJ x
      · have hg:Am bytes (v.take 600) 0=(true,n):=by rw[hinv];simp only[Am];rw[if_pos hc]
        have hr:kq v most bytes=true:=by unfold kq;rw[hg];rfl
        rw[hr]
        have e1:decide ((30:Int)<(x.attrs.length:Int))=decide (30<x.attrs.length):=by rw[Bool.eq_iff_iff];simp;omega
        have e2:decide ((bytes:Int)<((n+tJ x:Nat):Int))=decide (bytes<n+tJ x):=by rw[Bool.eq_iff_iff];simp;omega
        by_cases hc1:30<x.attrs.length
        · have q1:decide (30<x.attrs.length)=true:=decide_eq_true hc1
          rw[q1]at e1
          exact wP (a2 results10 (a9 ntmps10 hat @aD.eq_1 h1 hki d1 d2 d3 (a9 d4 m1 m2 m3 w1 w2 w3 e1 q1))) trivial
        · have q1:decide (30<x.attrs.length)=false:=decide_eq_false hc1
          have q2:decide (bytes<n+tJ x)=true:=dh
          rw[q1]at e1
          rw[q2]at e2
          exact wP (a4 results10 ntmps10 hat (a9 @aD.eq_1 h1 hki d1 d2 d3 d4 m1 (a9 m2 m3 w1 w2 w3 e1 e2 q1 q2))) trivial
      · have e1:decide ((30:Int)<(x.attrs.length:Int))=false:=bi
        have e2:decide ((bytes:Int)<((n+tJ x:Nat):Int))=false:=bi
        have q1:decide (30<x.attrs.length)=false:=bi
        have q2:decide (bytes<n+tJ x)=false:=bi
        have hg:Am bytes (x::(v.take 600).drop (k+1)) n=Am bytes ((v.take 600).drop (k+1)) (n+tJ x+lr x.attrs):=by simp only[Am];rw[if_neg hc]
        rw[hg]at hinv
        have hn1:n+tJ x<=bytes:=by omega
        refine wR (a4 results10 ntmps10 hat (a9 @aD.eq_1 h1 hki d1 d2 d3 d4 m1 (a9 m2 m3 w1 w2 w3 e1 e2 q1 q2))) trivial ?_
        (refine ew (fun j:Nat=>x.attrs.length-j) (fun j=>j<=x.attrs.length) (b0+16) (fun j=>[(0,.sl false 6 (v.map aD)),(1,.int .i64 most),(2,.int .i64 bytes),(7,.int .i64 ((n+tJ x+lr (x.attrs.take j):Nat):Int)),(8,.int .i64 k),(9,.int .i64 j)]) (fun j=>[]) (0) [] ?_ ?_ ?_;(focus (refine⟨?_,?_⟩<;>(try simp only[aE,ae,Iw,List.take_zero,Nat.add_zero,Lm,aj,ai,aq,seval])<;>(try omega))))
        · exact Nat.zero_le _
        · intro j hj
          by_cases hja:j<x.attrs.length
          · obtain⟨a,ha⟩:=ic hja
            obtain⟨p1,p2,p3⟩:=o5 a (List.mem_of_getElem? ha)
            unfold aT at p1 p2 p3
            have haa:=iu ha
            have f1:=sC j x.attrs.length
            have f2:=decide_eq_true hja
            have hji:=jB j x.attrs.length
            have hsum:=BM (x.attrs.take j)
            have hjl:(x.attrs.take j).length<=30:=by rw[List.length_take];omega
            have hts:=CF ha
            have haN:=Fj a
            generalize hN:n+tJ x+lr (x.attrs.take j)=N
            have hN1:n+tJ x+lr (x.attrs.take (j+1))=N+IG a:=by omega
            have hNb:N<=bytes+1800000:=by omega
            have m4:min (a.name.length:Int) 20000=((min a.name.length 20000:Nat):Int):=by omega
            have m5:min (a.space.length:Int) 20000=((min a.space.length 20000:Nat):Int):=by omega
            have m6:min (a.value.length:Int) 20000=((min a.value.length 20000:Nat):Int):=by omega
            have had:IG a=min a.name.length 20000+min a.space.length 20000+min a.value.length 20000:=rfl
            generalize min a.name.length 20000=n4 at m4 had
            generalize min a.space.length 20000=n5 at m5 had
            generalize min a.value.length 20000=n6 at m6 had
            have v1:IntKind.i64.wrap ((N:Int)+n4)=((N+n4:Nat):Int):=by rw[bH];omega
            have v2:IntKind.i64.wrap (((N+n4:Nat):Int)+n5)=((N+(n4+n5):Nat):Int):=by rw[bH];omega
            have v3:IntKind.i64.wrap (((N+(n4+n5):Nat):Int)+n6)=((N+IG a:Nat):Int):=by rw[bH];omega
            have hwj:=eD j
            refine wR (a3 results10 ntmps10 (a9 hat @aD.eq_1 haa @bf.eq_1 h1 hki hja hji (a9 f1 f2 m4 m5 m6 v1 v2 v3 hwj))) trivial ?_
            all_goals ((refine de (j+1) [] ?_ ?_ ?_;(focus (refine⟨?_,?_⟩<;>(try simp only[aE,ae,hwj,hN1,Lm,aj,ai,aq,seval])<;>(try omega)))))
            all_goals (first|(show x.attrs.length-(j+1)<x.attrs.length-j;omega)|exact hja|skip)
          · have hje:j=x.attrs.length:=by omega
            subst hje
            have f1:=nu x.attrs.length x.attrs.length
            have f2:decide (x.attrs.length<x.attrs.length)=false:=bi
            have hsum:=BM x.attrs
            have htl:x.attrs.take x.attrs.length=x.attrs:=List.take_length
            rw[htl]
            refine wR (a9 results10 ntmps10 hat @aD.eq_1 h1 hki f1 f2 hwk) trivial ?_
            all_goals ((refine de (⟨k+1,n+tJ x+lr x.attrs⟩) [] ?_ ?_ ?_;(focus (refine⟨?_,?_⟩<;>(try simp only[aE,ae,hwk,Lm,aj,ai,aq,seval])<;>(try omega)))))
            all_goals (first|(show v.length-(k+1)<v.length-k;omega)|exact⟨h1,h2,hinv,by show n+tJ x+lr x.attrs<=_;omega⟩|skip)
    · have hdr:(v.take 600).drop k=[]:=List.drop_of_length_le (by rw[List.length_take];omega)
      rw[hdr]at hinv
      have hg:Am bytes (v.take 600) 0=(false,n):=hinv
      have hr:kq v most bytes=(decide (most<v.length)||decide (bytes<n)):=by unfold kq;rw[hg];rfl
      rw[hr]
      have e1:decide ((most:Int)<(v.length:Int))=decide (most<v.length):=by rw[Bool.eq_iff_iff];simp
      have e2:decide ((bytes:Int)<(n:Int))=decide (bytes<n):=by rw[Bool.eq_iff_iff];simp
      by_cases h1:k<v.length
      · have d1:=sC k v.length
        have d2:=decide_eq_true h1
        have d3:decide ((k:Int)<600)=false:=bi
        have d4:decide (k<600)=false:=bi
        exact wP (a8 results10 ntmps10 d1 d2 d3 d4 e1 e2) trivial
      · have d1:=nu k v.length
        have d2:decide (k<v.length)=false:=decide_eq_false h1
        exact wP (a6 results10 ntmps10 d1 d2 e1 e2) trivial
end Go.Proofs.YtjonibipieofcaaGreatDoor
