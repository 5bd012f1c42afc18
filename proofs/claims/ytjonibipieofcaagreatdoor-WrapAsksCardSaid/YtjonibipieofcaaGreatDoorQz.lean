/-
 Texts joined: XJv,XKj,XKk,XKp.
-/
import Derived.Test.YtjonibipieofcaaGreatDoorMn
set_option linter.all false
namespace Go.Proofs.YtjonibipieofcaaGreatDoor
open Go Go.RowKit Vm Go.Lib Tryz
open Vm renaming aI->Ca,aP->Cb
open And renaming intro->Ai
open List renaming length_map->Lm,not_mem_nil->Ln,map_nil->Lo,map_cons->Lc,mem_cons->Lk
open Bool renaming not_false->Bf,not_true->Bt
set_option maxRecDepth 100000 in
set_option maxHeartbeats 8000000 in
def Em (v:List Nd)(hv:v.length<=1000)(ha:∀ n∈v,n.attrs.length<=1000)(nm:Nat):Ev cx 5 nm [.sl false 6 (v.map aD)] ao.nil (.own nm 0 v.length) [(nm,some ⟨6,v.map aD⟩)]:=by
 refine aX call5 func5 ?_;intro b0 hb0;have zF:=Ai results5 ntmps5
 repeat' first|simp only[au,ap,zF,am,aj,ai,seval]|exact rfl|refine aa (v:=.any) ?_|((first|apply Ca|apply Cb)<;>intro hb)|refine Ai (by omega) ?_|(apply Ai<;>intro hb)
 (refine Oj (fun x:Nat=>v.length-x) (fun x=>x<=v.length) (b0+16) (fun x=>[(0,.sl false 6 (v.map aD)),(3,.own b0 0 x),(4,.int .i64 x)]) (fun x=>[(b0,⟨6,(v.take x).map aD⟩)]) (0) [none] ?_ ?_ ?_;(focus (refine⟨?_,?_⟩<;>(try simp only[aE,cL,ae,al,List.take_zero,Lo,List.length_nil,Lm,aj,ai,aq,seval])<;>(try omega))))
 ·exact Nat.zero_le _
 ·intro k hk
  by_cases hlt:k<v.length
  ·obtain⟨x,hx⟩:=ic hlt
   have hat:=dS hx
   have hxa:=ha x (List.mem_of_getElem? hx)
   have d1:=sC k v.length
   have d2:=decide_eq_true hlt
   have hki:=jB k v.length
   have hwk:=eD k
   have hkl:(v.take k).length=k:=by rw[List.length_take];omega
   have htk:((v.take k).map aD).take k=(v.take k).map aD:=List.take_of_length_le (by rw[Lm,hkl];omega)
   have hta:(x.attrs.map bf).take x.attrs.length=x.attrs.map bf:=ba _ _
   have hsn:(v.take (k+1)).map aD=(v.take k).map aD++[aD x]:=by
    obtain⟨h1,h2⟩:=List.getElem?_eq_some_iff.1 hx
    rw[List.take_succ_eq_append_getElem h1,h2];simp
   repeat' first|simp only[au,ap,zF,am,ae,ab,hat,aD,hlt,hki,d1,d2,hwk,htk,hkl,hta,mw,List.nil_append,List.length_nil,Nat.zero_add,Lm,aj,ai,seval]|exact rfl|refine aa (v:=.any) ?_|((first|apply Ca|apply Cb)<;>intro hb)|refine Ai (by omega) ?_|(apply Ai<;>intro hb)
   all_goals ((refine ND (k+1) [some (b0+320)] ?_ ?_ ?_;(focus (refine⟨?_,?_⟩<;>(try simp only[aE,cL,hwk,hsn,htk,hkl,hta,aD,al,ae,ab,oq,qo _ _ (ae _),lI,tW _ _ (ae _),DI,az,List.length_append,List.length_cons,List.length_nil,Lm,aj,ai,aq,seval])<;>(try omega)))))
   all_goals (first|(show v.length-(k+1)<v.length-k;omega)|exact hlt|skip)
  ·have hkm:k=v.length:=by omega
   subst hkm
   have d1:=nu v.length v.length
   have d2:decide (v.length<v.length)=false:=bi
   ((repeat' first|simp only[au,ap,zF,am,d1,d2,ae,List.take_length,Lm,aj,ai,seval]|exact rfl|refine aa (v:=.any) ?_|((first|apply Ca|apply Cb)<;>intro hb)|refine Ai (by omega) ?_|(apply Ai<;>intro hb));(all_goals (first|(refine Fin.auto (r:=?_) (l:=?_) ?_ ?_ ?_ ?_ ?_ ?_ ?_;rotate_left 1;(simp only[zF,bz,bT,aH,aO,d1,d2,ae,List.take_length,Lm,aj,ai,seval]);(exact rfl);rotate_left 1;(simp only[V.owns,ownsL,List.cons_append,List.nil_append]);(exact rfl);all_goals (try simp only[zF,bz,bT,aH,aO,d1,d2,ae,List.take_length,Lm,qR,aj,ai,seval]);all_goals (try simp only[aq]))|skip)))
def y4 (v:List Nd)(hv:v.length<=1000)(ha:∀ n∈v,n.attrs.length<=1000)(nm:Nat):Ev cx 5 nm [.sl false 6 (v.map aD)] ao.nil (.sl false 6 (v.map aD)) []:=by
 have hpl:=ae v
 have htk:(v.map aD).take v.length=v.map aD:=ba _ _
 refine Ev.freeze (Em v hv ha nm) ?_ ?_
 ·simp only[au,ap,am,hpl,htk,Lm,aj,ai,seval]<;>omega
 ·simp only[au,ap,am,hpl,htk,Lm,aj,ai,seval]
def Gp {n:Nd}{k r:Fo}{d last:Nat}(h:(Fo.cons n k r).good d last=true):(Fo.cons n k .nil).good d 0=true:=by
 obtain⟨h1,h2,h3,h4,h5,h6⟩:=Fo.good_cons.1 h
 exact Fo.good_cons.2 ⟨h1,h2,fun e=>absurd e.1 (by decide),h4,h5,rfl⟩
def Fo.at_place:∀(F:Fo) (d last a i:Nat),F.good d last=true->i<F.size -> ∃ n k d' r s,d'<=d/\(Fo.cons n k .nil).good d' 0=true/\F.flat.drop i=n::(k.flat++r)/\(F.ends a).drop i=(a+i+1+k.size)::(k.ends (a+i+1)++s)
 | .nil,_,_,_,_,_,h=>absurd h (Nat.not_lt_zero _)
 | .cons n k r,d,last,a,0,h,_=>⟨n,k,d,r.flat,r.ends (a+1+k.size),Nat.le_refl _,Gp h,rfl,rfl⟩
 | .cons n k r,d,last,a,i+1,h,hi=>by
  obtain⟨_,_,_,_,h5,h6⟩:=Fo.good_cons.1 h
  simp only[Fo.size]at hi
  simp only[Fo.flat,Fo.ends,List.drop_succ_cons]
  by_cases hk:i<k.size
  ·obtain⟨n',k',d',r',s',g1,g2,g3,g4⟩:=k.at_place (d-1) 1 (a+1) i h5 hk
   refine⟨n',k',d',r'++r.flat,s'++r.ends (a+1+k.size),by omega,g2,?_,?_⟩
   ·rw[List.drop_append_of_le_length (by rw[Fo.flat_length];omega),g3];simp
   ·rw[List.drop_append_of_le_length (by rw[Fo.ends_length];omega),g4,show a+1+i=a+(i+1) by omega];simp
  ·obtain⟨n',k',d',r',s',g1,g2,g3,g4⟩:=r.at_place d n.kind (a+1+k.size) (i-k.size) h6 (by omega)
   refine⟨n',k',d',r',s',g1,g2,?_,?_⟩
   ·rw[List.drop_append,Fo.flat_length,List.drop_eq_nil_of_le (by rw[Fo.flat_length];omega),List.nil_append,g3]
   ·rw[List.drop_append,Fo.ends_length,List.drop_eq_nil_of_le (by rw[Fo.ends_length];omega),List.nil_append,g4,show a+1+k.size+(i-k.size)=a+(i+1) by omega]
def place {v:List Nd}{en:List Nat}(hbo:bm v=some en){p:Nat}(hp:p<v.length):∃ n k d r,d<=12/\(Fo.cons n k .nil).good d 0=true/\v[p]? = some n/\v.drop p=n::(k.flat++r)/\en[p]? = some (p+1+k.size)/\MA en (p+1+k.size) (p+1)=k.tops (p+1)/\(v.drop p).take (p+1+k.size-p)=n::k.flat/\p+1+k.size<=v.length:=by
 obtain⟨n0,k0,h1,h2,h3,h4,h5⟩:=gr.1 hbo
 have he:en=(Fo.cons n0 k0 .nil).ends 0:=by rw[h5];simp[Fo.ends]
 have hv:v=(Fo.cons n0 k0 .nil).flat:=by rw[h2];simp[Fo.flat]
 have hsz:p<(Fo.cons n0 k0 .nil).size:=by rw[<- Fo.flat_length,<- hv];exact hp
 obtain⟨n,k,d,r,s,g1,g2,g3,g4⟩:=Fo.at_place _ 12 0 0 p h3 hsz
 rw[<- hv]at g3
 rw[<- he]at g4
 simp only[Nat.zero_add]at g4
 have hx:v[p]? = some n:=by
  have:(v.drop p)[0]? = some n:=by rw[g3];rfl
  simpa using this
 have hex:en[p]? = some (p+1+k.size):=by
  have:(en.drop p)[0]? = some (p+1+k.size):=by rw[g4];rfl
  simpa using this
 have hd:en.drop (p+1)=k.ends (p+1)++s:=by
  have:(en.drop p).drop 1=k.ends (p+1)++s:=by rw[g4];rfl
  simpa using this
 refine⟨n,k,d,r,g1,g2,hx,g3,hex,DD hd,?_,?_⟩
 ·rw[g3,show p+1+k.size-p=k.size+1 by omega,List.take_succ_cons,List.take_append_of_le_length (by rw[Fo.flat_length];omega),List.take_of_length_le (by rw[Fo.flat_length];omega)]
 ·have:=congrArg List.length g3
  simp only[List.length_drop,List.length_cons,List.length_append,Fo.flat_length]at this
  omega
def FA (v:List Nd):cT v=if cT v=0 then 0 else 8:=by
 unfold cT
 split<;>rfl
def Hf (v:List Nd):eC v=(!gT v && !nA v):=by
 unfold eC nA cT
 cases bm v<;>simp
def KP {v:List Nd}(h:v.length≠1):gT v=false:=by
 match v,h with
 | [],_=>rfl
 | [x],h=>exact absurd rfl h
 | x::y::r,_=>rfl
def ll (l:List (List Nd))(k:Nat):Nat:=1+((l.take k).map List.length).sum
def uw {l:List (List Nd)}{k:Nat}{v:List Nd}(h:l[k]? = some v):ll l (k+1)=ll l k+v.length:=by
 obtain⟨hk,rfl⟩:=List.getElem?_eq_some_iff.1 h
 unfold ll
 rw[List.take_succ_eq_append_getElem hk]
 simp only[List.map_append,Lc,Lo,List.sum_append,List.sum_cons,List.sum_nil]
 omega
def BK {l:List (List Nd)}{B:Nat}(hB:∀ v∈l,v.length<=B):∀ k,ll l k<=1+B*k
 | 0=>by simp[ll]
 | k+1=>by
  have ih:=BK hB k
  cases h:l[k]? with
  | some v =>
   rw[uw h]
   have:=hB v (List.mem_of_getElem? h)
   rw[Nat.mul_succ];omega
  | none =>
   have hk:=List.getElem?_eq_none_iff.1 h
   have:ll l (k+1)=ll l k:=by unfold ll;rw[List.take_of_length_le (by omega),List.take_of_length_le hk]
   rw[this,Nat.mul_succ];omega
def MQ (x:Nd):(List.map aD [x])[0]? = some (aD x):=rfl
set_option maxRecDepth 100000 in
set_option maxHeartbeats 16000000 in
def KD (n:Nd)(l:List (List Nd))(hn:n.okTo 1000000)(ha:n.attrs.length<=1000)(hl:l.length<=16)(hok:∀ v∈l,v.length<=600 /\ ∀ x∈v,x.okTo 1000000)(nm:Nat) :
    Ev cx 16 nm [.agg (aD n),.sl false 1 (l.map aR)] ao.nil (.tup [.sl false 6 ((ef n l).map aD),.int .i64 (ck n l)]) []:=by
  have hnl:n.okTo aT:=cW hn (by decide)
  have hok0:∀ x∈[n.to 0],x.okTo aT:=fun x hx=>by
    simp at hx;subst hx;exact hnl
  have hrow0:([n.to 0].map aD)=[[.int .u8 n.kind,.str n.space,.str n.name,.sl false 3 (n.attrs.map bf),.str n.text,.int .i64 0]]:=rfl
  have hpl0:=ae [n.to 0]
  have h1:=lX [n.to 0] (by simp) hok0
  rw[hrow0]at hpl0 h1
  cases hm0:nA [n.to 0] with
  | false =>
    have hE:ck n l=8:=by
      unfold ck
      rw[if_pos]
      unfold nA cT at hm0
      cases hb:bm [n.to 0] with
      | none=>rfl
      | some en=>rw[hb]at hm0;cases hm0
    have hT:ef n l=[]:=by unfold ef;rw[hE];rfl
    rw[hm0]at h1
    rw[hE,hT]
    refine Ev.res_le (v:=.tup [.nils,.int .i64 8]) ?_ (by simp only[pI,dO,eU,ct,jx,Lo,and_self])
    refine aX call16 func16 ?_;intro b0 hb0
    (repeat' first|simp only[au,ap,results16,ntmps16,am,aD,ab,ad,hpl0,Bf,aj,ai,seval]|exact rfl|refine aa (v:=.any) ?_|((refine bg (xs:=?_) [b0+96] ?_ ?_ ?_ rfl (h1 _) ?_);rotate_left 1)|omega|((first|apply Ca|apply Cb)<;>intro hb)|refine Ai (by omega) ?_|(apply Ai<;>intro hb)|apply Fin.pure|simp only[aq])
  | true =>
    rw[hm0]at h1
    have hE0:ck n l=if l.any eC=true then 8 else if 512<1+(l.map List.length).sum then 4 else if (bm (n.to l.length::l.flatten)).isNone=true then 8 else 0:=by
      unfold ck
      rw[if_neg]
      unfold nA cT at hm0
      cases hb:bm [n.to 0] with
      | none=>rw[hb]at hm0;cases hm0
      | some en=>simp
    refine aX call16 func16 ?_;intro b0 hb0
    repeat' first|simp only[au,ap,results16,ntmps16,am,aD,ab,ad,hpl0,Bt,aj,ai,seval]|exact rfl|refine aa (v:=.any) ?_|((refine bg (xs:=?_) [b0+96] ?_ ?_ ?_ rfl (h1 _) ?_);rotate_left 1)|omega|((first|apply Ca|apply Cb)<;>intro hb)|refine Ai (by omega) ?_|(apply Ai<;>intro hb)
    (refine ew (fun x:Nat=>l.length-x) (fun x=>x<=l.length /\ ∀ v∈l.take x,eC v=false) (b0+16) (fun x=>[(1,.sl false 1 (l.map aR)),(2,.ptr b0 0 0),(6,.int .i64 1),(7,.int .i64 x)]) (fun x=>[(b0,⟨6,[[.int .u8 n.kind,.str n.space,.str n.name,.sl false 3 (n.attrs.map bf),.str n.text,.int .i64 0]]⟩)]) (0) [some b0] ?_ ?_ ?_;(focus (refine⟨?_,?_⟩<;>(try simp only[aE,aD,ab,ad,ae,al,Lm,aj,ai,aq,seval])<;>(try omega))))
    · exact⟨Nat.zero_le _,fun v hv=>by simp at hv⟩
    · rintro k ⟨hk,hbad⟩
      by_cases hlt:k<l.length
      · obtain ⟨v,hv⟩:∃ v,l[k]? = some v:=⟨_,List.getElem?_eq_getElem hlt⟩
        have hvm:=List.mem_of_getElem? hv
        obtain⟨hvl,hvo⟩:=hok v hvm
        have hat:=lW hv
        have d1:=sC k l.length
        have d2:=decide_eq_true hlt
        have hki:=jB k l.length
        have hwk:=eD k
        have hmv:=lX v (by omega) (fun x hx=>cW (hvo x hx) (by decide))
        have hpb:=Hf v
        have hE8:eC v=true->ck n l=8:=fun h=>by
          rw[hE0,if_pos]
          exact List.any_eq_true.2 ⟨v,hvm,h⟩
        have hT8:ck n l=8->ef n l=[]:=fun h=>by unfold ef;rw[h];rfl
        have hnx:eC v=false -> ∀ u∈l.take (k+1),eC u=false:=fun h u hu=>by
          rw[List.take_succ_eq_append_getElem hlt]at hu
          rcases List.mem_append.1 hu with hu|hu
          · exact hbad u hu
          · rw[List.mem_singleton]at hu
            have:l[k]=v:=by rw[List.getElem?_eq_getElem hlt]at hv;exact Option.some.inj hv
            rw[hu,this];exact h
        by_cases h1l:v.length=1
        · obtain⟨x,rfl⟩:∃ x,v=[x]:=by
            match v,h1l with
            | [x],_=>exact⟨x,rfl⟩
          have hx1:=MQ x
          have hmn:=yV x (cW (hvo x (by simp)) (by decide))
          have htx:gT [x]=(decide (x.kind=2)&&gE x):=rfl
          rw[htx]at hpb
          have e1:((([x]:List Nd).length:Int)==1)=true:=rfl
          have hrx:([x].map aD)=[aD x]:=rfl
          have hat2:(l.map aR)[k]? = some [.sl false 6 [aD x]]:=hat
          clear hat
          rw[hrx]at hmv
          generalize nA [x]=mv at hmv hpb
          by_cases hk2:x.kind=2
          · have q2:((x.kind:Int)==2)=true:=by rw[hk2];rfl
            rw[decide_eq_true hk2]at hpb
            generalize gE x=mx at hmn hpb
            unfold aD at hmn hmv
            cases mx with
            | true =>
              refine wR (a7 results16 ntmps16 hat2 hx1 hlt hki (a9 d1 d2 hwk e1 q2 @aD.eq_1 @ae @ad @ab)) (a2 hmn hmv) ?_
              all_goals ((refine de (k+1) [some b0] ?_ ?_ ?_;(focus (refine⟨?_,?_⟩<;>(try simp only[aE,hwk,ab,ad,ae,Lm,aj,ai,aq,seval])<;>(try omega)))))
              all_goals (first|(show l.length-(k+1)<l.length-k;omega)|exact⟨hlt,hnx hpb⟩|skip)
            | false =>
              cases mv with
              | false =>
                have hb:=hE8 hpb
                rw[hb,hT8 hb]
                refine wR (a7 results16 ntmps16 hat2 hx1 hlt hki (a9 d1 d2 hwk e1 q2 @aD.eq_1 @ae @ad @ab)) (a2 hmn hmv) ?_
                all_goals ((apply Fin.pure<;>simp only[am,ae,results16,ntmps16,aj,ai,seval]))
              | true =>
                refine wR (a7 results16 ntmps16 hat2 hx1 hlt hki (a9 d1 d2 hwk e1 q2 @aD.eq_1 @ae @ad @ab)) (a2 hmn hmv) ?_
                all_goals ((refine de (k+1) [some b0] ?_ ?_ ?_;(focus (refine⟨?_,?_⟩<;>(try simp only[aE,hwk,ab,ad,ae,Lm,aj,ai,aq,seval])<;>(try omega)))))
                all_goals (first|(show l.length-(k+1)<l.length-k;omega)|exact⟨hlt,hnx hpb⟩|skip)
          · have q2:((x.kind:Int)==2)=false:=beq_false_of_ne (by omega)
            rw[decide_eq_false hk2]at hpb
            unfold aD at hmv
            cases mv with
            | false =>
              have hb:=hE8 hpb
              rw[hb,hT8 hb]
              refine wR (a7 results16 ntmps16 hat2 hx1 hlt hki (a9 d1 d2 hwk e1 q2 @aD.eq_1 @ae @ad @ab)) hmv ?_
              all_goals ((apply Fin.pure<;>simp only[am,ae,results16,ntmps16,aj,ai,seval]))
            | true =>
              refine wR (a7 results16 ntmps16 hat2 hx1 hlt hki (a9 d1 d2 hwk e1 q2 @aD.eq_1 @ae @ad @ab)) hmv ?_
              all_goals ((refine de (k+1) [some b0] ?_ ?_ ?_;(focus (refine⟨?_,?_⟩<;>(try simp only[aE,hwk,ab,ad,ae,Lm,aj,ai,aq,seval])<;>(try omega)))))
              all_goals (first|(show l.length-(k+1)<l.length-k;omega)|exact⟨hlt,hnx hpb⟩|skip)
        · have e1:((v.length:Int)==1)=false:=beq_false_of_ne (by omega)
          rw[KP h1l]at hpb
          generalize nA v=mv at hmv hpb
          cases mv with
          | false =>
            have hb:=hE8 hpb
            rw[hb,hT8 hb]
            refine ?_
            refine wR (a5 results16 ntmps16 hat @aR.eq_1 (a9 hlt hki d1 d2 hwk e1 @ae @ad @ab)) hmv ?_
            all_goals ((apply Fin.pure<;>simp only[am,ae,results16,ntmps16,aj,ai,seval]))
          | true =>
            refine wR (a5 results16 ntmps16 hat @aR.eq_1 (a9 hlt hki d1 d2 hwk e1 @ae @ad @ab)) hmv ?_
            all_goals ((refine de (k+1) [some b0] ?_ ?_ ?_;(focus (refine⟨?_,?_⟩<;>(try simp only[aE,hwk,ab,ad,ae,Lm,aj,ai,aq,seval])<;>(try omega)))))
            all_goals (first|(show l.length-(k+1)<l.length-k;omega)|exact⟨hlt,hnx hpb⟩|skip)
      · have hkl:k=l.length:=by omega
        subst hkl
        rw[List.take_length]at hbad
        have d1:=nu l.length l.length
        have d2:decide (l.length<l.length)=false:=bi
        have hany:l.any eC=false:=by
          rw[List.any_eq_false]
          intro v hv
          rw[hbad v hv];decide
        rw[hany]at hE0
        simp only[Bool.false_eq_true,if_false]at hE0
        have hal:=BK (B:=600) (fun v hv=>(hok v hv).1)
        have hall:ll l l.length=1+(l.map List.length).sum:=by unfold ll;rw[List.take_length]
        have hz:ll l 0=1:=rfl
        refine wR (a7 results16 ntmps16 d1 d2 @ae @ad @ab) trivial ?_
        (refine ew (fun x:Nat=>l.length-x) (fun x=>x<=l.length) (b0+16) (fun x=>[(1,.sl false 1 (l.map aR)),(2,.ptr b0 0 0),(6,.int .i64 (ll l x)),(9,.int .i64 x)]) (fun x=>[(b0,⟨6,[[.int .u8 n.kind,.str n.space,.str n.name,.sl false 3 (n.attrs.map bf),.str n.text,.int .i64 0]]⟩)]) (0) [some b0] ?_ ?_ ?_;(focus (refine⟨?_,?_⟩<;>(try simp only[aE,hz,aD,ab,ad,ae,al,Lm,aj,ai,aq,seval])<;>(try omega))))
        · exact Nat.zero_le _
        · intro k hk
          by_cases hlt:k<l.length
          · obtain⟨v,hv⟩:=ic hlt
            have hvl:=(hok v (List.mem_of_getElem? hv)).1
            have hat:=lW hv
            have q1:=sC k l.length
            have q2:=decide_eq_true hlt
            have hki:=jB k l.length
            have hwk:=eD k
            have hs:=uw hv
            have hak:=hal k
            have hws:IntKind.i64.wrap ((ll l k:Int)+(v.length:Int))=((ll l (k+1):Nat):Int):=by rw[hs];exact bH
            refine wR (a5 results16 ntmps16 hat @aR.eq_1 (a9 hlt hki q1 q2 hwk hws @ae @ad @ab)) trivial ?_
            all_goals ((refine de (k+1) [some b0] ?_ ?_ ?_;(focus (refine⟨?_,?_⟩<;>(try simp only[aE,hwk,hws,ab,ad,ae,Lm,aj,ai,aq,seval])<;>(try omega)))))
            all_goals (first|(show l.length-(k+1)<l.length-k;omega)|exact hlt|skip)
          · have hkl:k=l.length:=by omega
            subst hkl
            by_cases hbig:512<ll l l.length
            · have hE4:ck n l=4:=by rw[hE0,if_pos (by omega)]
              have hT4:ef n l=[]:=by unfold ef;rw[hE4];rfl
              have q3:decide ((512:Int)<(ll l l.length:Int))=true:=dh
              rw[hE4,hT4]
              refine wR (a8 results16 ntmps16 d1 d2 q3 @ae @ad @ab) trivial ?_
              all_goals ((apply Fin.pure<;>simp only[am,ae,results16,ntmps16,aj,ai,seval]))
            · have q3:decide ((512:Int)<(ll l l.length:Int))=false:=bi
              have hE5:ck n l=cT (b7 n l l.length):=by rw[hE0,if_neg (by omega),jV];rfl
              have hz1:(b7 n l 0).length=1:=rfl
              refine wR (a8 results16 ntmps16 d1 d2 q3 @ae @ad @ab) trivial ?_
              (refine ew (fun x:Nat=>l.length-x) (fun x=>x<=l.length) (b0+16) (fun x=>[(1,.sl false 1 (l.map aR)),(10,.own b0 0 (b7 n l x).length),(11,.int .i64 x)]) (fun x=>[(b0,⟨6,(b7 n l x).map aD⟩)]) (0) [some (b0+192)] ?_ ?_ ?_;(focus (refine⟨?_,?_⟩<;>(try simp only[aE,u7,hz1,aD,Nd.to,ab,ad,ae,al,Lc,Lo,Lm,aj,ai,aq,seval])<;>(try omega))))
              · exact Nat.zero_le _
              · intro k hk
                by_cases hlt:k<l.length
                · obtain⟨v,hv⟩:=ic hlt
                  have hvl:=(hok v (List.mem_of_getElem? hv)).1
                  have hat:=lW hv
                  have q1:=sC k l.length
                  have q2:=decide_eq_true hlt
                  have hki:=jB k l.length
                  have hwk:=eD k
                  have hsc:=u6 (n:=n) hv
                  have hlen:(b7 n l (k+1)).length=(b7 n l k).length+v.length:=by rw[hsc,List.length_append]
                  have hrows:(b7 n l k).map aD++v.map aD=(b7 n l (k+1)).map aD:=by rw[hsc,List.map_append]
                  clear hsc
                  have hlo:(b7 n l k).length<=10000:=by
                    have h1:=oP n l k
                    have h2:((l.take k).flatten).length<=(l.flatten).length:=by
                      have:l.flatten=(l.take k).flatten++(l.drop k).flatten:=by rw[<- List.flatten_append,List.take_append_drop]
                      rw[this,List.length_append];omega
                    rw[List.length_flatten (L:=l)]at h2
                    omega
                  have htk:((b7 n l k).map aD).take (b7 n l k).length=(b7 n l k).map aD:=ba _ _
                  have hon:=rj v
                  have hf1:(b7 n l k).length+v.length<=9223372036854775807:=by omega
                  have hf2:((b7 n l k).length+v.length)*88<=140737488355328:=by omega
                  refine wR (a7 results16 ntmps16 hat @aR.eq_1 hlt hki (a9 q1 q2 htk hon hf1 hf2 hrows hwk @ae)) trivial ?_
                  all_goals ((refine de (k+1) [some (b0+160)] ?_ ?_ ?_;(focus (refine⟨?_,?_⟩<;>(try simp only[aE,hwk,hlen,ab,ad,ae,Lm,aj,ai,aq,seval])<;>(try omega)))))
                  all_goals (first|(show l.length-(k+1)<l.length-k;omega)|exact hlt|skip)
                · have hkl:k=l.length:=by omega
                  subst hkl
                  have hlen1:=oP n l l.length
                  rw[List.take_length,List.length_flatten]at hlen1
                  have hT:ck n l=0->ef n l=b7 n l l.length:=fun h=>by unfold ef;rw[if_pos h,jV]
                  have hoko:∀ x∈b7 n l l.length,x.okTo aT:=fun x hx=>by
                    rw[jV]at hx
                    rcases List.mem_cons.1 hx with rfl|hx
                    · exact hnl
                    · obtain⟨v,hv,hxv⟩:=List.mem_flatten.1 hx
                      exact cW ((hok v hv).2 x hxv) (by decide)
                  have hck:=lX (b7 n l l.length) (by omega) hoko
                  have htw:=fun (h:ck n l=0)=>y4 (b7 n l l.length) (by omega) (fun x hx=>by
                    rw[hE5]at h
                    unfold cT at h
                    cases hbo:bm (b7 n l l.length) with
                    | none=>rw[hbo]at h;cases h
                    | some en=>have:=(fD (xM hbo x hx)).1;omega)
                  have hmt:nA (b7 n l l.length)=decide (ck n l=0):=by rw[hE5];rfl
                  have hE8:ck n l≠0->ck n l=8:=fun h=>by rw[hE5,FA]at h ⊢;split at h<;>first|exact absurd rfl h|(rw[if_neg];assumption)
                  rw[hmt]at hck
                  have hpl1:=ae (b7 n l l.length)
                  have htk:((b7 n l l.length).map aD).take (b7 n l l.length).length=(b7 n l l.length).map aD:=ba _ _
                  generalize hOUT:b7 n l l.length=OUT at hck htw hT hpl1 htk ⊢
                  by_cases hz0:ck n l=0
                  · have htw:=htw hz0
                    rw[decide_eq_true hz0]at hck
                    rw[hz0,hT hz0]
                    repeat' first|simp only[au,ap,results16,ntmps16,am,cA,bO,List.cons_append,List.nil_append,d1,d2,htk,ae,Bt,Lm,aj,ai,seval]|exact rfl|refine aa (v:=.any) ?_|((refine bg (xs:=?_) [b0] ?_ ?_ ?_ rfl (hck _) ?_);rotate_left 1)|((refine dA (xs:=?_) [b0] ?_ ?_ ?_ ?_ (htw _) ?_ ?_);rotate_left 1)|omega|((first|apply Ca|apply Cb)<;>intro hb)|refine Ai (by omega) ?_|(apply Ai<;>intro hb)
                    all_goals ((apply Fin.pure<;>simp only[am,ae,results16,ntmps16,aj,ai,seval]))
                  · rw[decide_eq_false hz0]at hck
                    have hTn:ef n l=[]:=by unfold ef;rw[if_neg hz0]
                    rw[hTn,hE8 hz0]
                    repeat' first|simp only[au,ap,results16,ntmps16,am,d1,d2,htk,ae,Bf,Lm,aj,ai,seval]|exact rfl|refine aa (v:=.any) ?_|((refine bg (xs:=?_) [b0] ?_ ?_ ?_ rfl (hck _) ?_);rotate_left 1)|omega|((first|apply Ca|apply Cb)<;>intro hb)|refine Ai (by omega) ?_|(apply Ai<;>intro hb)
                    all_goals ((apply Fin.pure<;>simp only[am,ae,results16,ntmps16,aj,ai,seval]))
end Go.Proofs.YtjonibipieofcaaGreatDoor
