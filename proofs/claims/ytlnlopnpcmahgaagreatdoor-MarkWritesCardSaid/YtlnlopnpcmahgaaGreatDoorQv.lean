/-
 Texts joined: XSp,XSq.
-/
import Derived.Test.YtlnlopnpcmahgaaGreatDoorQq
import Derived.Test.YtlnlopnpcmahgaaGreatDoorQs
import Derived.Test.YtlnlopnpcmahgaaGreatDoorQp
import Derived.Test.YtlnlopnpcmahgaaGreatDoorQr
set_option linter.all false
namespace Go.Proofs.YtlnlopnpcmahgaaGreatDoor
set_option maxRecDepth 100000
set_option maxHeartbeats 32000000
open Go Go.RowKit Vm Go.Lib Tryz
open Vm renaming aH->Ca,aL->Cb
open And renaming intro->Ai
open List renaming length_map->Lm,not_mem_nil->Ln,map_nil->Lo,map_cons->Lc,mem_cons->Lk
open Bool renaming not_false->Bf,not_true->Bt
def oI (L:List Nd)(e:Int):V:=.tup [.sl false 6 (L.map aG),.int .i64 e]
def Fs (a:At):Nat:=min a.name.length 20000+min a.space.length 20000+min a.value.length 20000
def jB (l:List At):Nat:=(l.map Fs).sum
def rm (x:Nd):Nat:=min x.name.length 20000+min x.space.length 20000+min x.text.length 20000
def xw (bytes:Nat):List Nd->Nat->Bool×Nat
 | [],n=>(false,n)
 | x::r,n=>if 30<x.attrs.length\/bytes<n+rm x then (true,n) else xw bytes r (n+rm x+jB x.attrs)
def jV (v:List Nd)(most bytes:Nat):Bool:=(xw bytes (v.take 600) 0).1||decide (most<v.length)||decide (bytes<(xw bytes (v.take 600) 0).2)
def Cn (a:At):Fs a<=60000:=by unfold Fs;omega
def IH (x:Nd):rm x<=60000:=by unfold rm;omega
def yO (l:List At):jB l<=60000*l.length:=by
 unfold jB
 induction l with
 | nil=>simp
 | cons a l ih=>have:=Cn a;simp only[Lc,List.sum_cons,List.length_cons];omega
def zJ {l:List At}{k:Nat}{a:At}(h:l[k]? = some a):jB (l.take (k+1))=jB (l.take k)+Fs a:=by
 obtain⟨hk,rfl⟩:=List.getElem?_eq_some_iff.1 h
 unfold jB
 rw[List.take_succ_eq_append_getElem hk,List.map_append,List.sum_append];simp
def Cp {l:List At}{a:At}(h:a∈l):Fs a<=jB l:=by
 unfold jB
 induction l with
 | nil=>cases h
 | cons b l ih =>
  simp only[Lc,List.sum_cons]
  rcases List.mem_cons.1 h with rfl|h
  ·omega
  ·have:=ih h;omega
def sr {bytes:Nat} : ∀(v:List Nd) (n:Nat),(xw bytes v n).1=false->n<=(xw bytes v n).2 /\ ∀ x∈v,x.attrs.length<=30/\rm x+jB x.attrs<=(xw bytes v n).2
 | [],n,_=>⟨Nat.le_refl _,fun x hx=>by cases hx⟩
 | x::r,n,h=>by
  simp only[xw]at h ⊢
  split at h
  ·cases h
  ·rename_i hc
   rw[if_neg hc]
   obtain⟨h1,h2⟩:=sr r _ h
   refine⟨by omega,fun y hy=>?_⟩
   rcases List.mem_cons.1 hy with rfl|hy
   ·exact⟨by omega,by omega⟩
   ·exact h2 y hy
def rP {v:List Nd}{most bytes:Nat}(hm:most<=600)(hb:bytes<20000)(h:jV v most bytes=false):v.length<=most /\ ∀ x∈v,x.attrs.length<=30/\x.okTo 20000/\x.name.length+x.space.length+x.text.length<=bytes:=by
 unfold jV at h
 simp only[Bool.or_eq_false_iff,decide_eq_false_iff_not,Nat.not_lt]at h
 obtain⟨⟨h1,h2⟩,h3⟩:=h
 refine⟨h2,fun x hx=>?_⟩
 have ht:v.take 600=v:=List.take_of_length_le (by omega)
 rw[ht]at h1 h3
 obtain⟨_,h5⟩:=sr v 0 h1
 obtain⟨h6,h7⟩:=h5 x hx
 have hn:rm x<=bytes:=by omega
 have ha:jB x.attrs<=bytes:=by omega
 unfold rm at hn
 refine⟨h6,⟨?_,?_,?_,?_,fun a ha2=>?_⟩,by omega⟩
 ·omega
 ·omega
 ·omega
 ·omega
 ·have:=Cp ha2
  unfold Fs at this
  exact⟨by omega,by omega,by omega⟩
def Fg:jB []=0:=rfl
structure GSt where
 k:Nat
 n:Nat
def xF (v:List Nd)(most bytes:Nat)(hm:most<=1000)(hb:bytes<=1000000)(hv:v.length<=aS)(hok:∀ n∈v,n.okTo aS)(nm:Nat):Ev cx 9 nm [.sl false 6 (v.map aG),.int .i64 most,.int .i64 bytes] am.nil (.bool (jV v most bytes)) []:=by
  have hv':=hv
  unfold aS at hv'
  refine aV call9 func9 rfl (by kernel_rfl) rfl ?_;intro b0 hb0;have zF:=Ai results9 ntmps9
  repeat' first|simp only[aj,ag,zF,ap,ai,seval,ah]|exact rfl|refine aa (v:=.any) ?_|refine ao (by decide +kernel) ?_|((first|apply Ca|apply Cb)<;>intro hb)|refine Ai (by omega) ?_|(apply Ai<;>intro hb)
  (refine ay bu (fun s:GSt=>v.length-s.k) (fun s=>s.k<=v.length/\s.k<=600/\xw bytes (v.take 600) 0=xw bytes ((v.take 600).drop s.k) s.n/\s.n<=bytes+1800000) (b0+16) (fun s=>[(0,.sl false 6 (v.map aG)),(1,.int .i64 most),(2,.int .i64 bytes),(7,.int .i64 s.n),(8,.int .i64 s.k)]) (fun s=>[]) (⟨0,0⟩) [] ?_ ?_ ?_ ?_;rotate_left 1;(focus (show b0<=_;omega));(focus (refine⟨?_,?_⟩<;>(try simp only[aM,ad,Lm,ai,seval,ah,al])<;>(try omega)));rotate_left 1)
  · exact⟨Nat.zero_le _,Nat.zero_le _,rfl,Nat.zero_le _⟩
  · rintro ⟨k,n⟩ ⟨hk,hk6,hinv,hn⟩
    dsimp only at hk hk6 hinv hn ⊢
    by_cases hlt:k<v.length/\k<600
    · obtain⟨h1,h2⟩:=hlt
      obtain⟨x,hx⟩:∃ x,v[k]? = some x:=⟨_,List.getElem?_eq_getElem h1⟩
      obtain⟨o1,o2,o3,o4,o5⟩:=hok x (List.mem_of_getElem? hx)
      unfold aS at o1 o2 o3 o4
      have hat:=dG hx
      have hki:(k:Int)<(v.length:Int):=by omega
      have d1:decide ((k:Int)<(v.length:Int))=true:=cn
      have d2:decide (k<v.length)=true:=decide_eq_true h1
      have d3:decide ((k:Int)<600)=true:=cn
      have d4:decide (k<600)=true:=decide_eq_true h2
      have hdr:(v.take 600).drop k=x::(v.take 600).drop (k+1):=by
        have:(v.take 600)[k]? = some x:=by rw[List.getElem?_take,if_pos h2];exact hx
        obtain⟨hp,rfl⟩:=List.getElem?_eq_some_iff.1 this
        exact List.drop_eq_getElem_cons hp
      rw[hdr]at hinv
      have hnx:=IH x
      have m1:min (x.name.length:Int) 20000=((min x.name.length 20000:Nat):Int):=by omega
      have m2:min (x.space.length:Int) 20000=((min x.space.length 20000:Nat):Int):=by omega
      have m3:min (x.text.length:Int) 20000=((min x.text.length 20000:Nat):Int):=by omega
      have hnd:rm x=min x.name.length 20000+min x.space.length 20000+min x.text.length 20000:=rfl
      generalize min x.name.length 20000=n1 at m1 hnd
      generalize min x.space.length 20000=n2 at m2 hnd
      generalize min x.text.length 20000=n3 at m3 hnd
      have w1:IntKind.i64.wrap ((n:Int)+n1)=((n+n1:Nat):Int):=by rw[aK];omega
      have w2:IntKind.i64.wrap (((n+n1:Nat):Int)+n2)=((n+(n1+n2):Nat):Int):=by rw[aK];omega
      have w3:IntKind.i64.wrap (((n+(n1+n2):Nat):Int)+n3)=((n+rm x:Nat):Int):=by rw[aK];omega
      have hwk:IntKind.i64.wrap ((k:Int)+1)=((k+1:Nat):Int):=aK
      by_cases hc:30<x.attrs.length\/bytes<n+rm x
      · have hg:xw bytes (v.take 600) 0=(true,n):=by rw[hinv];simp only[xw];rw[if_pos hc]
        have hr:jV v most bytes=true:=by unfold jV;rw[hg];rfl
        rw[hr]
        have e1:decide ((30:Int)<(x.attrs.length:Int))=decide (30<x.attrs.length):=by rw[Bool.eq_iff_iff];simp;omega
        have e2:decide ((bytes:Int)<((n+rm x:Nat):Int))=decide (bytes<n+rm x):=by rw[Bool.eq_iff_iff];simp;omega
        by_cases hc1:30<x.attrs.length
        · have q1:decide (30<x.attrs.length)=true:=decide_eq_true hc1
          rw[q1]at e1
          (repeat' first|simp only[aj,ag,zF,ap,hat,aG,h1,hki,d1,d2,d3,d4,m1,m2,m3,w1,w2,w3,e1,q1,Bt,Bf,Lm,ai,seval,ah]|exact rfl|refine aa (v:=.any) ?_|refine ao (by decide +kernel) ?_|((first|apply Ca|apply Cb)<;>intro hb)|refine Ai (by omega) ?_|(apply Ai<;>intro hb)|refine Fin.pure ?_ ?_ ?_|simp only[al])
        · have q1:decide (30<x.attrs.length)=false:=decide_eq_false hc1
          have q2:decide (bytes<n+rm x)=true:=cn
          rw[q1]at e1
          rw[q2]at e2
          (repeat' first|simp only[aj,ag,zF,ap,hat,aG,h1,hki,d1,d2,d3,d4,m1,m2,m3,w1,w2,w3,e1,e2,q1,q2,Bt,Bf,Lm,ai,seval,ah]|exact rfl|refine aa (v:=.any) ?_|refine ao (by decide +kernel) ?_|((first|apply Ca|apply Cb)<;>intro hb)|refine Ai (by omega) ?_|(apply Ai<;>intro hb)|refine Fin.pure ?_ ?_ ?_|simp only[al])
      · have e1:decide ((30:Int)<(x.attrs.length:Int))=false:=aR
        have e2:decide ((bytes:Int)<((n+rm x:Nat):Int))=false:=aR
        have q1:decide (30<x.attrs.length)=false:=aR
        have q2:decide (bytes<n+rm x)=false:=aR
        have hg:xw bytes (x::(v.take 600).drop (k+1)) n=xw bytes ((v.take 600).drop (k+1)) (n+rm x+jB x.attrs):=by simp only[xw];rw[if_neg hc]
        rw[hg]at hinv
        have hn1:n+rm x<=bytes:=by omega
        repeat' first|simp only[aj,ag,zF,ap,hat,aG,h1,hki,d1,d2,d3,d4,m1,m2,m3,w1,w2,w3,e1,e2,q1,q2,Bt,Bf,Lm,ai,seval,ah]|exact rfl|refine aa (v:=.any) ?_|refine ao (by decide +kernel) ?_|((first|apply Ca|apply Cb)<;>intro hb)|refine Ai (by omega) ?_|(apply Ai<;>intro hb)
        (refine ay bu (fun j:Nat=>x.attrs.length-j) (fun j=>j<=x.attrs.length) (b0+16) (fun j=>[(0,.sl false 6 (v.map aG)),(1,.int .i64 most),(2,.int .i64 bytes),(7,.int .i64 ((n+rm x+jB (x.attrs.take j):Nat):Int)),(8,.int .i64 k),(9,.int .i64 j)]) (fun j=>[]) (0) [] ?_ ?_ ?_ ?_;rotate_left 1;(focus (show b0<=_;omega));(focus (refine⟨?_,?_⟩<;>(try simp only[aM,ad,Fg,List.take_zero,Nat.add_zero,Lm,ai,seval,ah,al])<;>(try omega)));rotate_left 1)
        · exact Nat.zero_le _
        · intro j hj
          by_cases hja:j<x.attrs.length
          · obtain⟨a,ha⟩:∃ a,x.attrs[j]? = some a:=⟨_,List.getElem?_eq_getElem hja⟩
            obtain⟨p1,p2,p3⟩:=o5 a (List.mem_of_getElem? ha)
            unfold aS at p1 p2 p3
            have haa:=gN ha
            have f1:decide ((j:Int)<(x.attrs.length:Int))=true:=cn
            have f2:decide (j<x.attrs.length)=true:=decide_eq_true hja
            have hji:(j:Int)<(x.attrs.length:Int):=by omega
            have hsum:=yO (x.attrs.take j)
            have hjl:(x.attrs.take j).length<=30:=by rw[List.length_take];omega
            have hts:=zJ ha
            have haN:=Cn a
            generalize hN:n+rm x+jB (x.attrs.take j)=N
            have hN1:n+rm x+jB (x.attrs.take (j+1))=N+Fs a:=by omega
            have hNb:N<=bytes+1800000:=by omega
            have m4:min (a.name.length:Int) 20000=((min a.name.length 20000:Nat):Int):=by omega
            have m5:min (a.space.length:Int) 20000=((min a.space.length 20000:Nat):Int):=by omega
            have m6:min (a.value.length:Int) 20000=((min a.value.length 20000:Nat):Int):=by omega
            have had:Fs a=min a.name.length 20000+min a.space.length 20000+min a.value.length 20000:=rfl
            generalize min a.name.length 20000=n4 at m4 had
            generalize min a.space.length 20000=n5 at m5 had
            generalize min a.value.length 20000=n6 at m6 had
            have v1:IntKind.i64.wrap ((N:Int)+n4)=((N+n4:Nat):Int):=by rw[aK];omega
            have v2:IntKind.i64.wrap (((N+n4:Nat):Int)+n5)=((N+(n4+n5):Nat):Int):=by rw[aK];omega
            have v3:IntKind.i64.wrap (((N+(n4+n5):Nat):Int)+n6)=((N+Fs a:Nat):Int):=by rw[aK];omega
            have hwj:IntKind.i64.wrap ((j:Int)+1)=((j+1:Nat):Int):=aK
            repeat' first|simp only[aj,ag,zF,ap,hat,aG,haa,bh,h1,hki,hja,hji,f1,f2,m4,m5,m6,v1,v2,v3,hwj,Lm,ai,seval,ah]|exact rfl|refine aa (v:=.any) ?_|refine ao (by decide +kernel) ?_|((first|apply Ca|apply Cb)<;>intro hb)|refine Ai (by omega) ?_|(apply Ai<;>intro hb)
            all_goals ((refine au bu (j+1) [] ?_ ?_ ?_ ?_;rotate_left 2;(focus (show b0<=_;omega));(focus (refine⟨?_,?_⟩<;>(try simp only[aM,ad,hwj,hN1,Lm,ai,seval,ah,al])<;>(try omega)))))
            all_goals (first|(show x.attrs.length-(j+1)<x.attrs.length-j;omega)|exact hja|skip)
          · have hje:j=x.attrs.length:=by omega
            subst hje
            have f1:decide ((x.attrs.length:Int)<(x.attrs.length:Int))=false:=aR
            have f2:decide (x.attrs.length<x.attrs.length)=false:=aR
            have hsum:=yO x.attrs
            have htl:x.attrs.take x.attrs.length=x.attrs:=List.take_length
            rw[htl]
            repeat' first|simp only[aj,ag,zF,ap,hat,aG,h1,hki,f1,f2,hwk,Lm,ai,seval,ah]|exact rfl|refine aa (v:=.any) ?_|refine ao (by decide +kernel) ?_|((first|apply Ca|apply Cb)<;>intro hb)|refine Ai (by omega) ?_|(apply Ai<;>intro hb)
            all_goals ((refine au bu (⟨k+1,n+rm x+jB x.attrs⟩) [] ?_ ?_ ?_ ?_;rotate_left 2;(focus (show b0<=_;omega));(focus (refine⟨?_,?_⟩<;>(try simp only[aM,ad,hwk,Lm,ai,seval,ah,al])<;>(try omega)))))
            all_goals (first|(show v.length-(k+1)<v.length-k;omega)|exact⟨h1,h2,hinv,by show n+rm x+jB x.attrs<=_;omega⟩|skip)
    · have hdr:(v.take 600).drop k=[]:=List.drop_of_length_le (by rw[List.length_take];omega)
      rw[hdr]at hinv
      have hg:xw bytes (v.take 600) 0=(false,n):=hinv
      have hr:jV v most bytes=(decide (most<v.length)||decide (bytes<n)):=by unfold jV;rw[hg];rfl
      rw[hr]
      have e1:decide ((most:Int)<(v.length:Int))=decide (most<v.length):=by rw[Bool.eq_iff_iff];simp
      have e2:decide ((bytes:Int)<(n:Int))=decide (bytes<n):=by rw[Bool.eq_iff_iff];simp
      by_cases h1:k<v.length
      · have d1:decide ((k:Int)<(v.length:Int))=true:=cn
        have d2:decide (k<v.length)=true:=decide_eq_true h1
        have d3:decide ((k:Int)<600)=false:=aR
        have d4:decide (k<600)=false:=aR
        (repeat' first|simp only[aj,ag,zF,ap,d1,d2,d3,d4,e1,e2,Lm,ai,seval,ah]|exact rfl|refine aa (v:=.any) ?_|refine ao (by decide +kernel) ?_|((first|apply Ca|apply Cb)<;>intro hb)|refine Ai (by omega) ?_|(apply Ai<;>intro hb)|refine Fin.pure ?_ ?_ ?_|simp only[al])
      · have d1:decide ((k:Int)<(v.length:Int))=false:=aR
        have d2:decide (k<v.length)=false:=decide_eq_false h1
        (repeat' first|simp only[aj,ag,zF,ap,d1,d2,e1,e2,Lm,ai,seval,ah]|exact rfl|refine aa (v:=.any) ?_|refine ao (by decide +kernel) ?_|((first|apply Ca|apply Cb)<;>intro hb)|refine Ai (by omega) ?_|(apply Ai<;>intro hb)|refine Fin.pure ?_ ?_ ?_|simp only[al])
end Go.Proofs.YtlnlopnpcmahgaaGreatDoor
