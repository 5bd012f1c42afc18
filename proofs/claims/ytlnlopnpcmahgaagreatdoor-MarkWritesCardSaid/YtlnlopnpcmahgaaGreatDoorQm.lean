/-
 Texts joined: XPa,XPb,XNp.
-/
import Derived.Test.YtlnlopnpcmahgaaGreatDoorQl
set_option linter.all false
namespace Go.Proofs.YtlnlopnpcmahgaaGreatDoor
set_option maxRecDepth 100000
set_option maxHeartbeats 32000000
open Go Go.RowKit Go.Lib
def pd {a b:List UInt8}(ha:(cL a).isSome=true)(hb:(cL b).isSome=true):(cL (a++b)).isSome=true:=by
 obtain⟨x,hx⟩:=Option.isSome_iff_exists.1 ha
 obtain⟨y,hy⟩:=Option.isSome_iff_exists.1 hb
 rw[pM hx hy];rfl
def sq:∀ {s:List UInt8},(∀ c∈s,c≠9/\c≠10/\c≠13)->s.map so=s
 | [],_=>rfl
 | c::s,h=>by
  have h1:=h c (by simp)
  rw[List.map_cons,sq fun x hx=>h x (by simp[hx])]
  congr 1
  unfold so m9
  by_cases h32:c=32
  ·subst h32;rfl
  ·simp[h32,h1.1,h1.2.1,h1.2.2]
def z7 (k:Nat):List UInt8:=if k=3 then [47,62] else [62]
def wx {n:List UInt8}{P:List Pr->List UInt8->Tk->List UInt8->Prop}
  (h1:∀ l s k t,ni (cC s)=some (k,t)->P l s ⟨k,n,l,[]⟩ t)
  (h2:∀ l s a r u v,ni (cC s)=none->(cC s).length<s.length->jl (cC s)=some (a,r)->(l.any fun b=>a.name==b.name)=false->ki n (l++[a]) r=some (u,v)->P (l++[a]) r u v->P l s u v) :
  ∀(m:Nat) (l:List Pr) (s:List UInt8) (u:Tk) (v:List UInt8),s.length<=m->ki n l s=some (u,v)->P l s u v:=by
 intro m
 induction m with
 | zero =>
  intro l s u v hm h
  obtain rfl:=List.length_eq_zero_iff.1 (Nat.le_zero.1 hm)
  rw[po (by rfl) (by simp[cC])]at h;cases h
 | succ m ih =>
  intro l s u v hm h
  cases he:ni (cC s) with
  | some p =>
   obtain⟨k,t⟩:=p
   rw[zt he]at h
   cases h
   exact h1 _ _ _ _ he
  | none =>
   cases ha:jl (cC s) with
   | none=>rw[zq he ha]at h;cases h
   | some p =>
    obtain⟨a,r⟩:=p
    cases hd:l.any fun b=>a.name==b.name with
    | true=>rw[sY he ha hd]at h;cases h
    | false =>
     by_cases hg:(cC s).length<s.length
     ·rw[wy he hg ha hd]at h
      have hl:=o8 ha
      have:=fJ s
      exact h2 l s a r u v he hg ha hd h (ih _ _ _ _ (by omega) h)
     ·rw[po he hg]at h;cases h
def DR {s r:List UInt8}{t:Tk}(h:oW s=some (t,r))(h4:t.kind=4):g0 60 s=none/\cS (oG s)=some t.text/\r=ld s/\t=⟨4,[],[],t.text⟩:=by
 unfold oW at h
 split at h
 ·rename_i u hu
  exfalso
  unfold EE at h
  split at h
  ·obtain⟨⟨n,r1⟩,h1,h2⟩:=Option.bind_eq_some_iff.1 h
   obtain⟨r2,h3,e⟩:=Option.map_eq_some_iff.1 h2
   cases e
   cases h4
  ·obtain⟨⟨n,r1⟩,h1,h2⟩:=Option.bind_eq_some_iff.1 h
   have:t.kind=1\/t.kind=3:=by
    refine wx (n:=n) (P:=fun l s u v=>u.kind=1\/u.kind=3) ?_ (fun _ _ _ _ _ _ _ _ _ _ _ ih=>ih) _ [] r1 t r (Nat.le_refl _) h2
    intro l s k t he
    unfold ni at he
    split at he
    ·cases he;exact .inl rfl
    ·cases he;exact .inr rfl
    ·cases he
   omega
 ·rename_i hu
  obtain⟨x,h1,h2⟩:=Option.map_eq_some_iff.1 h
  cases h2
  exact⟨hu,h1,rfl,rfl⟩
def yE (s:List UInt8):∀ c,(ld s).head? = some c->c=60:=by
 intro c hc
 have:=List.head?_dropWhile_not jr s
 unfold ld at hc
 rw[hc]at this
 simpa [jr] using this
def sO {a:List UInt8}{x:List UInt8}(h:iU a=some x):x.length<=a.length+2/\(cL x).isSome=true:=by
 have hp:∀(o:Option Nat) (k:Nat),2<=k->nI o=some x->x.length<=k+2/\(cL x).isSome=true:=by
  intro o k hk ho
  unfold nI at ho
  obtain⟨n,_,hn⟩:=Option.bind_eq_some_iff.1 ho
  split at hn
  ·rename_i hm
   cases hn
   have:=(bN (n:Int)).2
   have hd:=eS [(n:Int)] (by simp[hm])
   simp only[enc,List.flatMap_cons,List.flatMap_nil,List.append_nil]at hd
   exact⟨by omega,by rw[hd];rfl⟩
  ·cases hn
 unfold iU at h
 repeat' split at h
 ·rename_i e;cases h;subst e;exact⟨by decide,by decide⟩
 ·rename_i e;cases h;subst e;exact⟨by decide,by decide⟩
 ·rename_i e;cases h;subst e;exact⟨by decide,by decide⟩
 ·rename_i e;cases h;subst e;exact⟨by decide,by decide⟩
 ·rename_i e;cases h;subst e;exact⟨by decide,by decide⟩
 ·rename_i e1 e2
  refine hp _ _ ?_ h
  cases a with
  | nil=>cases e1
  | cons c a =>
   cases a with
   | nil=>cases e2
   | cons d a=>simp
 ·rename_i e1 e2
  refine hp _ _ ?_ h
  cases a with
  | nil=>cases e1
  | cons c a =>
   cases a with
   | nil=>simp[nI,Jz]at h
   | cons d a=>simp
 ·cases h
def iZ:∀(n:Nat) (s x:List UInt8),s.length<=n->cS s=some x->x.length<=s.length
 | n,[],x,_,h=>by rw[nM]at h;cases h;simp
 | 0,c::r,x,hn,_=>by simp at hn
 | n+1,c::r,x,hn,h=>by
  have hl:r.length<=n:=by simpa using hn
  by_cases h1:c=60
  ·subst h1;rw[qH]at h;cases h
  by_cases h2:c=38
  ·subst h2
   cases hc:eA 59 r with
   | none=>rw[lN hc]at h;cases h
   | some p =>
    obtain⟨u,v⟩:=p
    have hlen:=congrArg List.length (gk hc).1
    cases hm:iU u with
    | none=>rw[nL hc hm]at h;cases h
    | some y =>
     rw[nN hc hm]at h
     obtain⟨w,hw,rfl⟩:=Option.map_eq_some_iff.1 h
     simp only[List.length_append,List.length_cons]at hlen
     have h3:=iZ n v w (by omega) hw
     have h4:=(sO hm).1
     simp only[List.length_append,List.length_cons];omega
  ·rw[gX h1 h2]at h
   obtain⟨w,hw,rfl⟩:=Option.map_eq_some_iff.1 h
   have:=iZ n r w hl hw
   simp only[List.length_cons];omega
def qG:∀ {p:List UInt8} (r:List UInt8),(∀ c∈p,128<=c.toNat)->cS (p++r)=(cS r).map (p ++ ·)
 | [],r,_=>by
  rw[List.nil_append]
  cases cS r<;>simp
 | c::p,r,h=>by
  have h0:=h c (by simp)
  rw[List.cons_append,gX (by rintro rfl;simp at h0) (by rintro rfl;simp at h0),qG r fun x hx=>h x (by simp[hx])]
  cases cS r<;>simp
def sT:∀(n:Nat) (s x:List UInt8),s.length<=n->(cL s).isSome=true->cS s=some x->(cL x).isSome=true:=by
  intro n
  induction n with
  | zero =>
    intro s x hn _ h
    obtain rfl:=List.length_eq_zero_iff.1 (Nat.le_zero.1 hn)
    rw[nM]at h;cases h;rfl
  | succ n ih =>
    intro s x hn hd h
    obtain⟨zs,hz⟩:=Option.isSome_iff_exists.1 hd
    obtain⟨hm,rfl⟩:=(kC s zs).1 hz
    cases zs with
    | nil=>rw[show enc []=[] from rfl,nM]at h;cases h;rfl
    | cons z zs =>
      simp only[List.all_cons,Bool.and_eq_true]at hm
      have e:enc (z::zs)=encodeRune z++enc zs:=by simp[enc]
      have hl:=(bN z).1
      rw[e]at h hn hd
      rw[List.length_append]at hn
      have hdz:(cL (enc zs)).isSome=true:=by rw[eS zs hm.2];rfl
      have hd1:(cL (encodeRune z)).isSome=true:=by
        have:=eS [z] (by simp[hm.1])
        simp only[enc,List.flatMap_cons,List.flatMap_nil,List.append_nil]at this
        rw[this];rfl
      have hr:=(nG hm.1).1
      by_cases hz128:z<128
      · rw [tE hr hz128]at h hd1 hd hn
        rw[List.singleton_append]at h hd
        generalize z.toNat.toUInt8=c at h hd1 hd hn
        simp only[List.length_cons,List.length_nil]at hn
        by_cases h1:c=60
        · subst h1;rw[qH]at h;cases h
        by_cases h2:c=38
        · subst h2
          cases hc:eA 59 (enc zs) with
          | none=>rw[lN hc]at h;cases h
          | some p =>
            obtain⟨u,v⟩:=p
            have hce:=(gk hc).1
            have hlen:=congrArg List.length hce
            simp only[List.length_append,List.length_cons]at hlen
            cases hmm:iU u with
            | none=>rw[nL hc hmm]at h;cases h
            | some y =>
              rw[nN hc hmm]at h
              obtain⟨w,hw,rfl⟩:=Option.map_eq_some_iff.1 h
              have hv:=(cQ (d:=59) (by decide) hdz hce).2
              exact pd (sO hmm).2 (ih v w (by omega) hv hw)
        · rw[gX h1 h2]at h
          obtain⟨w,hw,rfl⟩:=Option.map_eq_some_iff.1 h
          exact pd (a:=[c]) hd1 (ih _ w (by omega) hdz hw)
      · rw[qG _ (pV (by omega))]at h
        obtain⟨w,hw,rfl⟩:=Option.map_eq_some_iff.1 h
        exact pd hd1 (ih _ w (by omega) hdz hw)
def Ah {s:List UInt8}(h:(cL s).isSome=true):(cL (s.map so)).isSome=true:=by
 obtain⟨zs,hz⟩:=Option.isSome_iff_exists.1 h
 obtain⟨hm,rfl⟩:=(kC s zs).1 hz
 clear hz h
 induction zs with
 | nil=>rfl
 | cons z zs ih =>
  simp only[List.all_cons,Bool.and_eq_true]at hm
  have e:enc (z::zs)=encodeRune z++enc zs:=by simp[enc]
  rw[e,List.map_append]
  refine pd ?_ (ih hm.2)
  have hr:=(nG hm.1).1
  by_cases hz:z<128
  ·rw[tE hr hz,List.map_cons,List.map_nil]
   unfold so
   split
   ·decide
   ·have:=eS [z] (by simp[hm.1])
    simp only[enc,List.flatMap_cons,List.flatMap_nil,List.append_nil,tE hr hz]at this
    rw[this];rfl
  ·have:(encodeRune z).map so=encodeRune z:=sq fun c hc=>by
    have:=pV (z:=z) (by omega) c hc
    refine⟨?_,?_,?_⟩<;>(rintro rfl;simp at this)
   rw[this]
   have:=eS [z] (by simp[hm.1])
   simp only[enc,List.flatMap_cons,List.flatMap_nil,List.append_nil]at this
   rw[this];rfl
def B7 {s v r:List UInt8}(h:(cL s).isSome=true)(hl:s.length<=16384)(hv:nV s=some (v,r)):az v=0/\(bo true v).length+6*r.length+12<=6*s.length:=by
 obtain⟨a,h1,h2⟩:=lP hv
 obtain⟨q,hq,rfl,_⟩:=lL h1
 have hq128:q.toNat<128:=by rcases hq with rfl|rfl<;>decide
 have d1:=(cQ hq128 (a:=[]) h rfl).2
 have d2:=(cQ hq128 d1 rfl).1
 unfold EN at h2
 have d3:=sT _ _ _ (Nat.le_refl _) (Ah d2) h2
 have l3:=iZ _ _ _ (Nat.le_refl _) h2
 have:=(bm true v).2
 simp only[List.length_map,List.length_cons,List.length_append]at l3 hl ⊢
 exact⟨eD.2 ⟨by omega,d3⟩,by omega⟩
def Cr {s r:List UInt8}{a:Pr}(h:(cL s).isSome=true)(hl:s.length<=16384)(ha:jl s=some (a,r)):bC a.name=true/\az a.value=0/\(jC a).length+6*r.length<=6*s.length:=by
 obtain⟨r1,t,h1,h2,h3⟩:=mZ ha
 obtain⟨e,_,hf,_⟩:=kK h1
 have d1:=gG (my h h1)
 rw[h2]at d1
 have d2:=gG (cQ (d:=61) (by decide) (a:=[]) d1 rfl).2
 have l1:=congrArg List.length e
 have l2:=fJ r1
 have l3:=fJ t
 rw[h2]at l2
 simp only[List.length_append,List.length_cons]at l1 l2
 obtain⟨g1,g2⟩:=B7 d2 (by omega) h3
 refine⟨hf,g1,?_⟩
 simp only[jC,List.length_append,List.length_cons,List.length_nil]
 omega
def ED {n:List UInt8}(hn:bC n=true){l:List Pr}{s v:List UInt8}{u:Tk}(h:ki n l s=some (u,v))(hd:(cL s).isSome=true)(hl:s.length<=16384)(hok:fC l l.length):u.name=n/\u.text=[]/\(u.kind=1\/u.kind=3)/\fC u.attrs u.attrs.length/\(cL v).isSome=true/\(cX u.attrs).length+(z7 u.kind).length+6*v.length<=(cX l).length+6*s.length:=by
 refine wx (n:=n) (P:=fun l s u v=>(cL s).isSome=true->s.length<=16384->fC l l.length->u.name=n/\u.text=[]/\(u.kind=1\/u.kind=3)/\fC u.attrs u.attrs.length/\(cL v).isSome=true/\(cX u.attrs).length+(z7 u.kind).length+6*v.length<=(cX l).length+6*s.length) ?_ ?_ _ l s u v (Nat.le_refl _) h hd hl hok
 ·intro l s k t he hd hl hok
  have hs:=gG hd
  have hsl:=fJ s
  unfold ni at he
  split at he
  ·rename_i e
   cases he
   rw[e]at hs hsl
   refine⟨rfl,rfl,.inl rfl,hok,(cQ (d:=62) (by decide) (a:=[]) hs rfl).2,?_⟩
   simp only[List.length_cons]at hsl
   simp[z7];omega
  ·rename_i e
   cases he
   rw[e]at hs hsl
   have h1:=(cQ (d:=47) (by decide) (a:=[]) hs rfl).2
   refine⟨rfl,rfl,.inr rfl,hok,(cQ (d:=62) (by decide) (a:=[]) h1 rfl).2,?_⟩
   simp only[List.length_cons]at hsl
   simp[z7];omega
  ·cases he
 ·intro l s a r u v he hg ha hd2 _ ih hd hl hok
  have hs:=gG hd
  obtain⟨g1,g2,g3⟩:=Cr hs (by omega) ha
  have hlt:=o8 ha
  have hr:=Cq hs ha
  obtain⟨k1,k2,k3,k4,k5,k6⟩:=ih hr (by omega) (by
   intro i b hi hb
   by_cases hil:i<l.length
   ·rw[List.getElem?_append_left hil]at hb
    rw[List.take_append_of_le_length (by omega)]
    exact hok i b hil hb
   ·have:i=l.length:=by simp at hi;omega
    subst this
    rw[List.getElem?_append_right (by omega)]at hb
    simp at hb;subst hb
    rw[List.take_append_of_le_length (by omega),List.take_length]
    unfold Fj
    simp[hd2,g1,g2])
  refine⟨k1,k2,k3,k4,k5,?_⟩
  have:(cX (l++[a])).length=(cX l).length+(jC a).length:=by simp[cX]
  omega
def GR {s r:List UInt8}{t:Tk}(hne:s≠[])(h:oW s=some (t,r))(hd:(cL s).isSome=true)(hl:s.length<=16384)(h16:t.attrs.length<=16):dN t=true/\(cL r).isSome=true/\(t.kind=4 -> ∀ c,r.head? = some c->c=60)/\(t.kind=4->g0 60 s=none)/\(c9 t).length+6*r.length<=6*s.length:=by
  by_cases h4:t.kind=4
  · obtain ⟨g1,g2,rfl,g4⟩:=DR h h4
    have e:s=oG s++ld s:=(List.takeWhile_append_dropWhile).symm
    have le:=congrArg List.length e
    rw[List.length_append]at le
    obtain⟨d1,d2⟩:=EI hd
    have l1:=iZ _ _ _ (Nat.le_refl _) g2
    have l2:=(bm false t.text).2
    have d3:=sT _ _ _ (Nat.le_refl _) d1 g2
    have hx:t.text≠[]:=by
      intro hx
      have hT:oG s≠[]:=by
        cases s with
        | nil=>exact absurd rfl hne
        | cons c s =>
          have hc:jr c=true:=by
            rw[iG]at g1
            split at g1
            · cases g1
            · rename_i e;simp[jr,e]
          unfold oG
          rw[List.takeWhile_cons,if_pos hc];simp
      rw[hx]at g2
      cases hT':oG s with
      | nil=>exact hT hT'
      | cons c w =>
        rw[hT']at g2
        by_cases c60:c=60
        · subst c60;rw[qH]at g2;cases g2
        by_cases c38:c=38
        · subst c38
          cases hc:eA 59 w with
          | none=>rw[lN hc]at g2;cases g2
          | some p =>
            obtain⟨u,v⟩:=p
            cases hm:iU u with
            | none=>rw[nL hc hm]at g2;cases g2
            | some y =>
              rw[nN hc hm]at g2
              obtain⟨z,_,hz⟩:=Option.map_eq_some_iff.1 g2
              have:=(List.append_eq_nil_iff.1 hz).1
              subst this
              unfold iU at hm
              repeat' split at hm
              all_goals (first|cases hm;done|skip)
              all_goals (
                unfold nI at hm
                obtain⟨n,_,hn⟩:=Option.bind_eq_some_iff.1 hm
                split at hn
                · have:=(bN (n:Int)).1
                  simp only[Option.some.injEq]at hn
                  rw[hn]at this
                  simp at this
                · cases hn)
        · rw[gX c60 c38]at g2
          obtain⟨z,_,hz⟩:=Option.map_eq_some_iff.1 g2
          cases hz
    refine⟨?_,d2,fun _=>yE s,fun _=>g1,?_⟩
    · rw[g4]
      unfold dN
      rw[if_neg (show ¬((4:Nat)=1\/(4:Nat)=3) by decide),if_neg (show ¬(4:Nat)=2 by decide),if_pos rfl]
      have:az t.text=0:=eD.2 ⟨by omega,d3⟩
      have hxe:t.text.isEmpty=false:=by rw[List.isEmpty_eq_false_iff];exact hx
      simp[this,hxe]
    · have:c9 t=bo false t.text:=by unfold c9;rw[if_pos h4]
      rw[this]
      omega
  · have hh:∃ u,g0 60 s=some u:=by
      cases ha:g0 60 s with
      | some u=>exact⟨u,rfl⟩
      | none =>
        exfalso
        unfold oW at h
        rw[ha]at h
        obtain⟨x,_,hx⟩:=Option.map_eq_some_iff.1 h
        cases hx
        exact h4 rfl
    obtain⟨u,hu⟩:=hh
    have hs:=eu hu
    subst hs
    have du:=(cQ (d:=60) (by decide) (a:=[]) hd rfl).2
    simp only[List.length_cons]at hl
    unfold oW at h
    rw[hu]at h
    simp only at h
    unfold EE at h
    split at h
    · rename_i w hw
      obtain rfl:=eu hw
      have dw:=(cQ (d:=47) (by decide) (a:=[]) du rfl).2
      obtain⟨⟨n,r1⟩,h1,h2⟩:=Option.bind_eq_some_iff.1 h
      obtain⟨r2,h3,e⟩:=Option.map_eq_some_iff.1 h2
      cases e
      obtain⟨e1,_,hf,_⟩:=kK h1
      have l1:=congrArg List.length e1
      have l2:=fJ r1
      have d1:=gG (my dw h1)
      rw[eu h3]at l2 d1
      simp only[List.length_append,List.length_cons]at l1 l2
      refine⟨?_,(cQ (d:=62) (by decide) (a:=[]) d1 rfl).2,fun h=>absurd h h4,fun h=>absurd h h4,?_⟩
      · unfold dN
        rw[if_neg (show ¬((2:Nat)=1\/(2:Nat)=3) by decide),if_pos rfl]
        simp[hf]
      · have:c9 ⟨2,n,[],[]⟩=[60,47]++n++[62]:=by unfold c9;rw[if_neg (show ¬(2:Nat)=4 by decide),if_pos rfl]
        rw[this]
        simp only[List.length_append,List.length_cons,List.length_nil]
        omega
    · rename_i hw
      obtain⟨⟨n,r1⟩,h1,h2⟩:=Option.bind_eq_some_iff.1 h
      obtain⟨e1,_,hf,_⟩:=kK h1
      have l1:=congrArg List.length e1
      simp only[List.length_append]at l1
      have d1:=my du h1
      obtain⟨k1,k2,k3,k4,k5,k6⟩:=ED hf h2 d1 (by show r1.length<=16384;omega) (by intro i a hi;simp at hi)
      refine⟨?_,k5,fun h=>absurd h h4,fun h=>absurd h h4,?_⟩
      · unfold dN
        rw[if_pos k3,k1,k2,hf,dO.2 ⟨h16,k4⟩]
        rfl
      · have:c9 t=[60]++t.name++cX t.attrs++z7 t.kind:=by
          unfold c9 z7
          rw[if_neg h4,if_neg (by rcases k3 with h|h<;>rw[h]<;>decide)]
        rw[this,k1]
        have:cX []=[]:=rfl
        rw[this]at k6
        simp only[List.length_append,List.length_cons,List.length_nil]at k6 ⊢
        omega
def uH:∀ {l:List Tk} {t:Tk},ia l=false->(∀ u,l.getLast? = some u -> ¬(u.kind=4/\t.kind=4))->ia (l++[t])=false
 | [],t,_,_=>rfl
 | [a],t,_,h=>by
  have:=h a rfl
  simp only[List.singleton_append,ia,Bool.or_false]
  simp only[Bool.and_eq_false_iff,beq_eq_false_iff_ne]
  by_cases e:a.kind=4
  ·right;exact fun e2=>this ⟨e,e2⟩
  ·left;exact e
 | a::b::l,t,h,h2=>by
  simp only[List.cons_append,ia,Bool.or_eq_false_iff]at h ⊢
  exact⟨h.1,uH (l:=b::l) h.2 (fun u hu=>h2 u (by rw[List.getLast?_cons_cons];exact hu))⟩
def Dq (n:Nat):∀(m:Nat) (acc:List Tk) (s:List UInt8),s.length<=m->s.length<=n->(cL s).isSome=true->s.length<=16384->(∀ t∈acc,dN t=true)->ia acc=false->acc.length<=512->(∀ t,acc.getLast? = some t->t.kind=4 -> ∀ c,s.head? = some c->c=60) ->
  ((gA n acc s).2.2=0->(∀ t∈(gA n acc s).1,dN t=true)/\ia (gA n acc s).1=false/\(gA n acc s).1.length<=512/\(gA n acc s).1.length<=acc.length+s.length/\(gA n acc s).2.1=0/\(bI (gA n acc s).1).length<=(bI acc).length+6*s.length) /\
  ((gA n acc s).2.2≠0->(gA n acc s).1=[]/\(gA n acc s).2.1<n):=by
 intro m
 induction m with
 | zero =>
  intro acc s hm _ _ _ h1 h2 h3 _
  obtain rfl:=List.length_eq_zero_iff.1 (Nat.le_zero.1 hm)
  rw[vZ]
  exact⟨fun _=>⟨h1,h2,h3,by simp,rfl,by simp⟩,fun h=>absurd rfl h⟩
 | succ m ih =>
  intro acc s hm hn hd hl h1 h2 h3 h4
  by_cases hs:s=[]
  ·subst hs
   rw[vZ]
   exact⟨fun _=>⟨h1,h2,h3,by simp,rfl,by simp⟩,fun h=>absurd rfl h⟩
  ·have hpos:=List.length_pos_iff.2 hs
   by_cases hmany:512<=acc.length
   ·rw[AO hs hmany]
    exact⟨fun h=>absurd (show(4:Int)=0 from h) (by decide),fun _=>⟨rfl,by show n-s.length<n;omega⟩⟩
   ·cases ho:oW s with
    | none =>
     rw[Dp hs (by omega) ho]
     exact⟨fun h=>absurd (show(80:Int)=0 from h) (by decide),fun _=>⟨rfl,by show n-s.length<n;omega⟩⟩
    | some p =>
     obtain⟨t,r⟩:=p
     by_cases ha:16<t.attrs.length
     ·rw[xN hs (by omega) ho ha]
      exact⟨fun h=>absurd (show(4:Int)=0 from h) (by decide),fun _=>⟨rfl,by show n-s.length<n;omega⟩⟩
     ·have hlt:=DS hs ho
      obtain⟨k1,k2,k3,k4,k5⟩:=GR hs ho hd hl (by omega)
      rw[GA hs (by omega) ho (by omega)]
      obtain⟨g1,g2⟩:=ih (acc++[t]) r (by omega) (by omega) k2 (by omega) (by
       intro u hu
       rcases List.mem_append.1 hu with hu|hu
       ·exact h1 u hu
       ·simp at hu;subst hu;exact k1) (uH h2 (by
       rintro u hu ⟨e1,e2⟩
       have h60:=h4 u hu e1
       have hn:=k4 e2
       cases s with
       | nil=>exact hs rfl
       | cons c s =>
        have:=h60 c rfl
        subst this
        rw[iG,if_pos rfl]at hn
        cases hn)) (by simp;omega) (by
       intro u hu hk
       simp at hu;subst hu
       exact k3 hk)
      refine⟨fun h=>?_,g2⟩
      obtain⟨e1,e2,e3,e4,e5,e6⟩:=g1 h
      have:(bI (acc++[t])).length=(bI acc).length+(c9 t).length:=by simp[bI]
      simp only[List.length_append,List.length_cons,List.length_nil]at e4
      exact⟨e1,e2,e3,by omega,e5,by omega⟩
def y6 (s:List UInt8):((jw s).2.2=0->(∀ t∈(jw s).1,dN t=true)/\ia (jw s).1=false/\(jw s).1.length<=512/\(jw s).1.length<=s.length/\(jw s).2.1=0/\(bI (jw s).1).length<=6*s.length)/\((jw s).2.2≠0->(jw s).1=[]/\(jw s).2.1<=s.length/\((jw s).2.2=80->(jw s).2.1<s.length)):=by
 unfold jw
 by_cases hp:az s=0
 ·rw[if_neg (by simp[hp])]
  obtain⟨hl,hd⟩:=eD.1 hp
  obtain⟨h1,h2⟩:=Dq s.length s.length [] s (Nat.le_refl _) (Nat.le_refl _) hd hl (by simp) rfl (by simp) (by simp)
  refine⟨fun h=>?_,fun h=>?_⟩
  ·obtain⟨e1,e2,e3,e4,e5,e6⟩:=h1 h
   exact⟨e1,e2,e3,by simpa using e4,e5,by simpa [bI] using e6⟩
  ·obtain⟨e1,e2⟩:=h2 h
   exact⟨e1,by omega,fun _=>e2⟩
 ·rw[if_pos (by simpa using hp)]
  refine⟨fun h=>absurd h (by simpa using hp),fun _=>⟨rfl,by simp,fun h=>?_⟩⟩
  exfalso
  have h:az s=80:=h
  unfold az at h
  split at h
  ·cases h
  ·split at h<;>cases h
end Go.Proofs.YtlnlopnpcmahgaaGreatDoor
namespace Go.Proofs.YtlnlopnpcmahgaaGreatDoor
set_option maxRecDepth 100000
set_option maxHeartbeats 32000000
open Go Go.RowKit Vm Go.Lib Tryz
open Vm renaming aH->Ca,aL->Cb
open And renaming intro->Ai
open List renaming length_map->Lm,not_mem_nil->Ln,map_nil->Lo,map_cons->Lc,mem_cons->Lk
open Bool renaming not_false->Bf,not_true->Bt
end Go.Proofs.YtlnlopnpcmahgaaGreatDoor
