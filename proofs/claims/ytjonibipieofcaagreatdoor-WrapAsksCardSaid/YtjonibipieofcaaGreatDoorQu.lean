/-
 Texts joined: XSl,XSm,XSn,XSo.
-/
import Derived.Test.YtjonibipieofcaaGreatDoorQt
set_option linter.all false
namespace Go.Proofs.YtjonibipieofcaaGreatDoor
set_option maxRecDepth 100000
set_option maxHeartbeats 32000000
open Go Go.RowKit Vm Go.Lib Tryz
open Vm renaming aI->Ca,aP->Cb
open And renaming intro->Ai
open List renaming length_map->Lm,not_mem_nil->Ln,map_nil->Lo,map_cons->Lc,mem_cons->Lk
open Bool renaming not_false->Bf,not_true->Bt
def Cs (a:At)(nm:Nat):Ev cx 130 nm [.agg (bf a)] ao.nil (.bool (!a.space.isEmpty)) []:=by
 refine aX call130 func130 ?_;intro b0 hb0
 exact wP (a4 results130 ntmps130 @bf.eq_1 @nS) trivial
def vA (P:Nd->Fo->Prop):Fo->Prop
 | .nil=>True
 | .cons n k r=>P n k/\vA P r
def NB (v:List Nd)(en:List Nat)(sp lb pb:Nat):V:=.fn 129 [.rp [.sl false 6 (v.map aD)],.ptr sp 0 0,.ptr lb 0 0,.rp [.sl false 1 (en.map gn)],.ptr pb 0 0]
def uv (v:List Nd)(en:List Nat)(sp lb pb:Nat)(n:Nd)(k:Fo):Prop :=
  ∀(p:Nat) (r:List Nd) (er:List Nat) (L:List Tk) (s:Bool) (lk:Nat) (M:ao) (nm:Nat),v.drop p=n::(k.flat++r)->en.drop p=(p+1+k.size)::(k.ends (p+1)++er)->L.length+(Fo.cons n k .nil).toks.length<=2000 ->
    sp≠lk->lb≠lk->pb≠lk->M sp=some ⟨1,[[.bool s]]⟩->M lb=some ⟨1,[[.own lk 0 L.length]]⟩->M lk=some ⟨4,L.map bQ⟩->M pb=some ⟨1,[[NB v en sp lb pb]]⟩->(∀ z,(M z).isSome=true->z∈[sp,lb,lk,pb])->sp<nm->lb<nm->lk<nm->pb<nm ->
    Ev cx 129 nm [.int .i64 p,.rp [.sl false 6 (v.map aD)],.ptr sp 0 0,.ptr lb 0 0,.rp [.sl false 1 (en.map gn)],.ptr pb 0 0] M (.tup [])
      [(lk,none),(sp,some ⟨1,[[.bool (s||bV (n::k.flat))]]⟩),(lb,some ⟨1,[[.own nm 0 (L++(Fo.cons n k .nil).toks).length]]⟩),(pb,some ⟨1,[[NB v en sp lb pb]]⟩),(nm,some ⟨4,(L++(Fo.cons n k .nil).toks).map bQ⟩)]
structure TkSt where
 R:Fo
 q:Nat
 L:List Tk
 s:Bool
def tn (l:List Tk):(l.map bQ).take l.length=l.map bQ:=ba _ _
def ro (l:List Tk)(t:Tk):l.map bQ++[bQ t]=(l++[t]).map bQ:=by simp
def sQ {l:List At}{k:Nat}{a:At}(h:l[k]? = some a):(aW (l.take k)).map fm++[[.str a.name,.str a.value]]=(aW (l.take (k+1))).map fm:=by
 obtain⟨hk,rfl⟩:=List.getElem?_eq_some_iff.1 h
 unfold aW
 rw[List.take_succ_eq_append_getElem hk,List.map_append,List.map_append];rfl
def sR:aW []=[]:=rfl
def jW (l:List At):(aW l).length=l.length:=by simp[aW]
def BS {en:List Nat}{p e:Nat}{r:List Nat}(h:en.drop p=e::r):(en.map gn)[p]? = some (gn e)/\p<en.length:=by
 have h1:en[p]? = some e:=by have:=congrArg (·[0]?) h;simpa using this
 exact⟨by rw[List.getElem?_map,h1];rfl,(List.getElem?_eq_some_iff.1 h1).1⟩
def Hj (v:List Nd)(hv:v.length<=512)(en:List Nat)(sp lb pb:Nat)(d1:sp≠lb)(d2:sp≠pb)(d3:lb≠pb)(n:Nd)(k:Fo)(hn:n.okTo aT)(hk:n.kind=2)(hk0:k = .nil):uv v en sp lb pb n k:=by
 subst hk0
 intro p r er L s lk M nm hvd hed hL e1 e2 e3 hsp hlb hlk hpb ho l1 l2 l3 l4
 obtain⟨hx,_,hp⟩:=eT hvd
 have hat:=dS hx
 have hpi:=jB p v.length
 have hkb:((n.kind:Int)==2)=true:=by rw[hk];rfl
 have hco:=gL n.attrs 130 [] (fun a=>!a.space.isEmpty) (fun a _ nm=>Cs a nm) hn.1 rfl
 have htk:(Fo.cons n .nil .nil).toks=[⟨4,[],[],n.text⟩]:=by simp[Fo.toks,hk]
 have hss:(s||bV (n::Fo.nil.flat))=((s || !n.space.isEmpty)||n.attrs.any fun a=>!a.space.isEmpty):=by simp[bV,js,Fo.flat,Bool.or_assoc]
 rw[htk]at hL ⊢
 rw[hss]
 have hLn:L.length<=2000:=by simp at hL;omega
 generalize (n.attrs.any fun a=>!a.space.isEmpty)=B at hco ⊢
 have hsn:=ro L ⟨4,[],[],n.text⟩
 have hll:(L++[(⟨4,[],[],n.text⟩:Tk)]).length=L.length+1:=by simp
 rw[<- hsn,hll]
 refine Ev.last_le (eff:=[(lk,none),(sp,_),(lb,_),(pb,_)]) (k:=⟨4,L.map bQ++[[.int .u8 4,.str [],.nils,.str n.text]]⟩) ?_ ⟨rfl,.inl rfl,lP (by rw[show bQ ⟨4,[],[],n.text⟩=[.int .u8 4,.str [],.sl false 2 [],.str n.text] from rfl];simp only[fL,dO,eU,jx,pH,ct,il,and_self])⟩
 have g1:(nm=sp)=False:=eq_false (by omega);have g2:(nm=lb)=False:=eq_false (by omega);have g3:(nm=pb)=False:=eq_false (by omega)
 unfold NB at hpb ⊢
 simp only[List.cons_append,List.nil_append]
 have n1:=eq_false d1;have n2:=eq_false d2;have n3:=eq_false d3;have n4:=eq_false e1;have n5:=eq_false e2;have n6:=eq_false e3
 have n7:=eq_false (Ne.symm d1);have n8:=eq_false (Ne.symm d2);have n9:=eq_false (Ne.symm d3);have o4:=eq_false (Ne.symm e1);have o5:=eq_false (Ne.symm e2);have o6:=eq_false (Ne.symm e3)
 refine aX call129 func129 ?_;intro b0 hb0
 have k1:=bp hb0 hsp
 have k2:=bp hb0 hlb
 have k3:=bp hb0 hlk
 have k4:=bp hb0 hpb
 have z0:=bB k1
 have y0:=bB k2
 have x0:=bB k3
 have w0:=bB k4
 repeat' first|simp only[au,ap,results129,ntmps129,am,hat,aD,bQ,hkb,hp,hpi,nS,hsp,hlb,hlk,hpb,tn,ae,ab,aM,aC,n1,n2,n3,n4,n5,n6,n7,n8,n9,o4,o5,o6,z0,y0,x0,w0,Lo,Bt,Bf,Lm,aj,ai,seval]|exact rfl|refine aa (v:=.any) ?_|(first|(refine ah ?_ (hco _) ?_)|(refine ac ?_ (fun _=>hco _) ?_))|((first|apply Ca|apply Cb)<;>intro hb)|refine Ai (by omega) ?_|(apply Ai<;>intro hb)
 all_goals ((refine Fin.give [(sp,none),(lb,none),(pb,none),(b0+416,some 0)] [lk] ?_ ?_ ?_ ?_ ?_ (bA ho (by simp[bt,tgt]))<;>(try simp only[results129,ntmps129,am,hsp,hlb,hlk,hpb,bQ,g1,g2,g3,ae,aJ,aM,cO,Lo,n1,n2,n3,n4,n5,n6,n7,n8,n9,o4,o5,o6,z0,y0,x0,w0,Bool.and_self,Bool.and_false,Bool.false_and,Lm,jK,aj,ai,seval])<;>(try simp only[aq])<;>(try omega)))
def Hi (v:List Nd)(hv:v.length<=512)(en:List Nat)(hen:en.length=v.length)(sp lb pb:Nat)(d1:sp≠lb)(d2:sp≠pb)(d3:lb≠pb)(n:Nd)(k:Fo)(hn:n.okTo aT)(ha16:n.attrs.length<=16)(hk:n.kind≠2)(hm:n.many=(k.count:Int))(ih:vA (uv v en sp lb pb) k):uv v en sp lb pb n k:=by
 intro p r er L s lk M nm hvd hed hL e1 e2 e3 hsp hlb hlk hpb ho l1 l2 l3 l4
 obtain⟨hx,hvd1,hp⟩:=eT hvd
 have hat:=dS hx
 have hpi:=jB p v.length
 have hkb:((n.kind:Int)==2)=false:=beq_false_of_ne (by omega)
 obtain⟨heat,hpe⟩:=BS hed
 have hco:=gL n.attrs 130 [] (fun a=>!a.space.isEmpty) (fun a _ nm=>Cs a nm) hn.1 rfl
 have hss:(s||bV (n::k.flat))=(((s || !n.space.isEmpty)||n.attrs.any fun a=>!a.space.isEmpty)||bV k.flat):=by simp[bV,js,Bool.or_assoc]
 rw[hss]
 clear hss
 have hLn:L.length<=2000:=by omega
 generalize hs1:(n.attrs.any fun a=>!a.space.isEmpty)=B at hco ⊢
 generalize hs2:((s || !n.space.isEmpty)||B)=S1
 have hw1:=eD p
 have n1:=eq_false d1;have n2:=eq_false d2;have n3:=eq_false d3;have n4:=eq_false e1;have n5:=eq_false e2;have n6:=eq_false e3
 have n7:=eq_false (Ne.symm d1);have n8:=eq_false (Ne.symm d2);have n9:=eq_false (Ne.symm d3);have o4:=eq_false (Ne.symm e1);have o5:=eq_false (Ne.symm e2);have o6:=eq_false (Ne.symm e3)
 obtain⟨RAW,hr0,hr1,hrl⟩:∃ RAW:List (List V),(k.count=0->RAW=(L++(Fo.cons n k .nil).toks).map bQ)/\(k.count≠0->RAW=(L++⟨1,n.name,aW n.attrs,[]⟩::k.toks).map bQ++[[.int .u8 2,.str n.name,.nils,.str []]])/\il RAW ((L++(Fo.cons n k .nil).toks).map bQ):=by
  by_cases hk0:k.count=0
  ·exact⟨_,fun _=>rfl,fun h=>absurd hk0 h,gz _⟩
  ·refine⟨_,fun h=>absurd h hk0,fun _=>rfl,?_⟩
   have hm0:¬ n.many=0:=by rw[hm];simpa using hk0
   have htk:(Fo.cons n k .nil).toks=⟨1,n.name,aW n.attrs,[]⟩::(k.toks++[⟨2,n.name,[],[]⟩]):=by simp[Fo.toks,hk,hm0]
   rw[htk,show L++⟨1,n.name,aW n.attrs,[]⟩::(k.toks++[⟨2,n.name,[],[]⟩])=(L++⟨1,n.name,aW n.attrs,[]⟩::k.toks)++[⟨2,n.name,[],[]⟩] by simp,<- ro]
   refine lP ?_
   rw[show bQ ⟨2,n.name,[],[]⟩=[.int .u8 2,.str n.name,.sl false 2 [],.str []] from rfl]
   simp only[fL,dO,eU,jx,pH,ct,il,and_self]
 refine Ev.last_le (eff:=[(lk,none),(sp,_),(lb,_),(pb,_)]) (k:=⟨4,RAW⟩) ?_ ⟨rfl,.inl rfl,hrl⟩
 clear hrl
 simp only[List.cons_append,List.nil_append]
 unfold NB at hpb ⊢
 refine iP rfl call129 func129 rfl mixed (by kernel_rfl) rfl ?_;intro b0 hb0
 have k1:=bp hb0 hsp
 have k2:=bp hb0 hlb
 have k3:=bp hb0 hlk
 have k4:=bp hb0 hpb
 have z0:=bB k1
 have y0:=bB k2
 have x0:=bB k3
 have w0:=bB k4
 repeat' first|simp only[au,ap,results129,ntmps129,am,hat,aD,hkb,hp,hpi,nS,hs2,hsp,hlb,hlk,hpb,ae,ab,aM,aC,n1,n2,n3,n4,n5,n6,n7,n8,n9,o4,o5,o6,z0,y0,x0,w0,Lo,Bt,Bf,Lm,aj,ai,seval]|exact rfl|refine aa (v:=.any) ?_|(first|(refine ah ?_ (hco _) ?_)|(refine ac ?_ (fun _=>hco _) ?_))|refine bj ?_|((first|apply Ca|apply Cb)<;>intro hb)|refine Ai (by omega) ?_|(apply Ai<;>intro hb)
 (refine ew (fun x:Nat=>n.attrs.length-x) (fun x=>x<=n.attrs.length) (b0+16) (fun x=>[(0,.int .i64 p),(3,.ptr lb 0 0),(4,.rp [.sl false 1 (en.map gn)]),(5,.ptr pb 0 0),(2,.ptr sp 0 0),(7,.ptr b0 0 0),(8,.ptr (b0+1) 0 0),(40,.sl false 3 (n.attrs.map bf)),(41,.int .i64 n.attrs.length),(42,.int .i64 x)]) (fun x=>[(b0,⟨6,[aD n]⟩),(b0+1,⟨4,[[.int .u8 3,.str n.name,.own (b0+2) 0 x,.str []]]⟩),(b0+2,⟨2,(aW (n.attrs.take x)).map fm⟩),(sp,⟨1,[[.bool S1]]⟩),(lb,⟨1,[[.own lk 0 L.length]]⟩),(lk,⟨4,L.map bQ⟩),(pb,⟨1,[[.fn 129 [.rp [.sl false 6 (v.map aD)],.ptr sp 0 0,.ptr lb 0 0,.rp [.sl false 1 (en.map gn)],.ptr pb 0 0]]]⟩)]) (0) [some (b0+64),some (b0+384),none,some sp,some lb,some lk,some pb] ?_ ?_ ?_;(focus (refine⟨?_,?_⟩<;>(try simp only[aE,ae,aJ,aC,ab,aM,sR,List.take_zero,Lo,al,aD,hsp,hlb,hlk,hpb,n1,n2,n3,n4,n5,n6,n7,n8,n9,o4,o5,o6,z0,y0,x0,w0,Bool.and_self,Bool.and_false,Bool.false_and,Lm,aj,ai,aq,seval])<;>(try omega))))
 ·exact Nat.zero_le _
 ·intro i hi
  by_cases hlt:i<n.attrs.length
  ·obtain⟨a,ha⟩:=ic hlt
   have haa:=iu ha
   have q1:=sC i n.attrs.length
   have q2:=decide_eq_true hlt
   have hwk:=eD i
   have hpl:((aW (n.attrs.take i)).map fm).length=i:=by rw[Lm,jW,List.length_take];omega
   have hpl2:(aW (n.attrs.take i)).length=i:=by rw[jW,List.length_take];omega
   have htk:((aW (n.attrs.take i)).map fm).take i=(aW (n.attrs.take i)).map fm:=List.take_of_length_le (by omega)
   have hsn:=sQ ha
   repeat' first|simp only[au,ap,results129,ntmps129,am,haa,bf,hlt,q1,q2,hwk,htk,hsn,hpl,hpl2,aC,n1,n2,n3,n4,n5,n6,n7,n8,n9,o4,o5,o6,z0,y0,x0,w0,Bt,Bf,Lm,aj,ai,seval]|exact rfl|refine aa (v:=.any) ?_|((first|apply Ca|apply Cb)<;>intro hb)|refine Ai (by omega) ?_|(apply Ai<;>intro hb)
   all_goals ((refine de (i+1) [some b0,some (b0+1),some (b0+224),some sp,some lb,some lk,some pb] ?_ ?_ ?_;(focus (refine⟨?_,?_⟩<;>(try simp only[aE,hwk,aD,ae,aJ,aC,ab,aM,al,n1,n2,n3,n4,n5,n6,n7,n8,n9,o4,o5,o6,z0,y0,x0,w0,Bool.and_self,Bool.and_false,Bool.false_and,Lm,aj,ai,aq,seval])<;>(try omega)))))
   all_goals (first|(show n.attrs.length-(i+1)<n.attrs.length-i;omega)|exact hlt|skip)
  ·have hie:i=n.attrs.length:=by omega
   subst hie
   have q1:=nu n.attrs.length n.attrs.length
   have q2:decide (n.attrs.length<n.attrs.length)=false:=bi
   have hpl:(aW n.attrs).length=n.attrs.length:=jW _
   have htk:((aW n.attrs).map fm).take n.attrs.length=(aW n.attrs).map fm:=List.take_of_length_le (by rw[Lm,hpl];omega)
   refine wR (a4 results129 ntmps129 q1 q2) trivial ?_
   (refine GN jI (b0+16) ([(0,.int .i64 p),(3,.ptr lb 0 0),(4,.rp [.sl false 1 (en.map gn)]),(5,.ptr pb 0 0),(7,.ptr b0 0 0),(8,.ptr (b0+1) 0 0)]) ([(b0,⟨6,[aD n]⟩),(b0+1,⟨4,[bQ ⟨3,n.name,aW n.attrs,[]⟩]⟩),(sp,⟨1,[[.bool S1]]⟩),(lb,⟨1,[[.own lk 0 L.length]]⟩),(lk,⟨4,L.map bQ⟩),(pb,⟨1,[[.fn 129 [.rp [.sl false 6 (v.map aD)],.ptr sp 0 0,.ptr lb 0 0,.rp [.sl false 1 (en.map gn)],.ptr pb 0 0]]]⟩)]) [some b0,some (b0+1),some sp,some lb,some lk,some pb] ?_ ?_ ?_;(focus (show b0<=_;omega));(focus (refine⟨?_,?_⟩<;>(try simp only[aE,cL,htk,hpl,bQ,aD,Nat.le_refl,or_true,ae,aJ,aC,ab,aM,al,az,List.take_length,n1,n2,n3,n4,n5,n6,n7,n8,n9,o4,o5,o6,z0,y0,x0,w0,Bool.and_self,Bool.and_false,Bool.false_and,Lm,aj,ai,aq,seval])<;>(try omega))))
   have g1:(nm=sp)=False:=eq_false (by omega);have g2:(nm=lb)=False:=eq_false (by omega);have g3:(nm=pb)=False:=eq_false (by omega)
   have h3b:bQ ⟨3,n.name,aW n.attrs,[]⟩=[.int .u8 3,.str n.name,.sl false 2 ((aW n.attrs).map fm),.str []]:=rfl
   have h1b:bQ ⟨1,n.name,aW n.attrs,[]⟩=[.int .u8 1,.str n.name,.sl false 2 ((aW n.attrs).map fm),.str []]:=rfl
   by_cases hk0:k.count=0
   ·have hkz:(n.many==0)=true:=by rw[hm,hk0];rfl
    have hkn:k = .nil:=by
     cases k with
     | nil=>rfl
     | cons _ _ _=>simp[Fo.count]at hk0
    subst hkn
    have hm0:n.many=0:=by rw[hm,hk0];rfl
    have htk:(Fo.cons n .nil .nil).toks=[⟨3,n.name,aW n.attrs,[]⟩]:=by simp[Fo.toks,hk,hm0]
    rw[hr0 hk0,htk]
    have hsn:=ro L ⟨3,n.name,aW n.attrs,[]⟩
    have hll:(L++[(⟨3,n.name,aW n.attrs,[]⟩:Tk)]).length=L.length+1:=by simp
    have hsz:bV Fo.nil.flat=false:=rfl
    rw[<- hsn,hll,hsz,Bool.or_false,h3b]
    repeat' first|simp only[au,ap,results129,ntmps129,am,hkz,aD,h3b,tn,aM,aC,n1,n2,n3,n4,n5,n6,n7,n8,n9,o4,o5,o6,z0,y0,x0,w0,Bt,Bf,Lm,aj,ai,seval]|exact rfl|refine aa (v:=.any) ?_|((first|apply Ca|apply Cb)<;>intro hb)|refine Ai (by omega) ?_|(apply Ai<;>intro hb)
    all_goals ((refine Fin.give [(sp,none),(lb,none),(pb,none),(b0+112,some 0)] [lk] ?_ ?_ ?_ ?_ ?_ (bA ho (by simp[bt,tgt]))<;>(try simp only[results129,ntmps129,am,hsp,hlb,hlk,hpb,g1,g2,g3,ae,aJ,aM,aC,cO,n1,n2,n3,n4,n5,n6,n7,n8,n9,o4,o5,o6,z0,y0,x0,w0,Bool.and_self,Bool.and_false,Bool.false_and,Lm,jK,aj,ai,seval])<;>(try simp only[aq])<;>(try omega)))
   ·have hkz:(n.many==0)=false:=by rw[hm];simp;exact hk0
    have hm0:¬ n.many=0:=by rw[hm];simpa using hk0
    have htk:(Fo.cons n k .nil).toks=⟨1,n.name,aW n.attrs,[]⟩::(k.toks++[⟨2,n.name,[],[]⟩]):=by simp[Fo.toks,hk,hm0]
    rw[htk]at hL ⊢
    have hL3:L.length+k.toks.length+2<=2000:=by simp at hL;omega
    have hfin:L++⟨1,n.name,aW n.attrs,[]⟩::(k.toks++[⟨2,n.name,[],[]⟩])=(L++⟨1,n.name,aW n.attrs,[]⟩::k.toks)++[⟨2,n.name,[],[]⟩]:=by simp
    rw[hr1 hk0,hfin,List.length_append]
    clear hr0 hr1
    have hsn:=ro L ⟨1,n.name,aW n.attrs,[]⟩
    have hll:(L++[(⟨1,n.name,aW n.attrs,[]⟩:Tk)]).length=L.length+1:=by simp
    rw[h1b]at hsn
    have hstp:∀(P:Prop),P->P:=fun _ h=>h
    obtain⟨hev1,hev2⟩:v.drop (p+1)=k.flat++r/\en.drop (p+1)=k.ends (p+1)++er:=by
     refine⟨hvd1,?_⟩
     have:=congrArg (List.drop 1) hed
     rw[List.drop_drop]at this;simpa using this
    repeat' first|simp only[au,ap,results129,ntmps129,am,hkz,aD,h3b,hsn,hw1,tn,aM,aC,n1,n2,n3,n4,n5,n6,n7,n8,n9,o4,o5,o6,z0,y0,x0,w0,Bt,Bf,Lm,aj,ai,seval]|exact rfl|refine aa (v:=.any) ?_|((first|apply Ca|apply Cb)<;>intro hb)|refine Ai (by omega) ?_|(apply Ai<;>intro hb)
    (refine ew (fun x:TkSt=>x.R.size) (fun x=>vA (uv v en sp lb pb) x.R/\(∃ r',v.drop x.q=x.R.flat++r')/\(∃ er',en.drop x.q=x.R.ends x.q++er')/\x.q+x.R.size=p+1+k.size/\x.L++x.R.toks=L++⟨1,n.name,aW n.attrs,[]⟩::k.toks/\(x.s||bV x.R.flat)=(S1||bV k.flat)) (b0+16) (fun x=>[(0,.int .i64 p),(3,.ptr lb 0 0),(4,.rp [.sl false 1 (en.map gn)]),(5,.ptr pb 0 0),(7,.ptr b0 0 0),(11,.int .i64 x.q)]) (fun x=>[(b0,⟨6,[aD n]⟩),(sp,⟨1,[[.bool x.s]]⟩),(lb,⟨1,[[.own (b0+1) 0 x.L.length]]⟩),(b0+1,⟨4,x.L.map bQ⟩),(pb,⟨1,[[.fn 129 [.rp [.sl false 6 (v.map aD)],.ptr sp 0 0,.ptr lb 0 0,.rp [.sl false 1 (en.map gn)],.ptr pb 0 0]]]⟩)]) (⟨k,p+1,L++[⟨1,n.name,aW n.attrs,[]⟩],S1⟩) [some b0,some sp,some lb,some (b0+144),some pb] ?_ ?_ ?_;(focus (refine⟨?_,?_⟩<;>(try simp only[aE,hll,h3b,aD,ae,aJ,aC,ab,aM,n1,n2,n3,n4,n5,n6,n7,n8,n9,o4,o5,o6,z0,y0,x0,w0,Bool.and_self,Bool.and_false,Bool.false_and,Lm,aj,ai,aq,seval])<;>(try omega))))
    ·exact⟨ih,⟨r,hev1⟩,⟨er,hev2⟩,rfl,by simp,rfl⟩
    ·rintro ⟨R,q,Lx,sx⟩ ⟨g1',⟨r',g2'⟩,⟨er',g3'⟩,g4',g5',g6'⟩
     dsimp only at g1' g2' g3' g4' g5' g6' ⊢
     cases R with
     | nil =>
      simp only[Fo.size,Nat.add_zero]at g4'
      subst g4'
      simp only[Fo.toks,List.append_nil]at g5'
      have hsz:bV Fo.nil.flat=false:=rfl
      rw[hsz,Bool.or_false]at g6'
      rw[<- g5',<- g6']
      have q1:decide (((p+1+k.size:Nat):Int)<((p+1+k.size:Nat):Int))=false:=bi
      have q2:decide (p+(1+k.size)<p+(1+k.size))=false:=bi
      have hLx:Lx.length<=2001:=by rw[g5'];simp;omega
      repeat' first|simp only[au,ap,results129,ntmps129,am,q1,q2,heat,gn,hpe,aD,tn,aM,n1,n2,n3,n4,n5,n6,n7,n8,n9,o4,o5,o6,z0,y0,x0,w0,Bt,Bf,Lm,aj,ai,seval]|exact rfl|refine aa (v:=.any) ?_|((first|apply Ca|apply Cb)<;>intro hb)|refine Ai (by omega) ?_|(apply Ai<;>intro hb)
      all_goals ((refine Fin.give [(sp,none),(lb,none),(pb,none),(b0+192,some 0)] [lk] ?_ ?_ ?_ ?_ ?_ (bA ho (by simp[bt,tgt]))<;>(try simp only[results129,ntmps129,am,hsp,hlb,hlk,hpb,g1,g2,g3,ae,aJ,aM,aC,cO,n1,n2,n3,n4,n5,n6,n7,n8,n9,o4,o5,o6,z0,y0,x0,w0,Bool.and_self,Bool.and_false,Bool.false_and,Lm,jK,aj,ai,seval])<;>(try simp only[aq])<;>(try omega)))
     | cons u2 j2 R2 =>
      obtain⟨hp2,hr2⟩:=g1'
      have hd2:v.drop q=u2::(j2.flat++(R2.flat++r')):=by rw[g2'];simp[Fo.flat]
      have he2:en.drop q=(q+1+j2.size)::(j2.ends (q+1)++(R2.ends (q+1+j2.size)++er')):=by rw[g3'];simp[Fo.ends]
      have htk2:(Fo.cons u2 j2 R2).toks=(Fo.cons u2 j2 .nil).toks++R2.toks:=by simp[Fo.toks]
      have hsp2:bV (Fo.cons u2 j2 R2).flat=(bV (u2::j2.flat)||bV R2.flat):=by simp[bV,Fo.flat,Bool.or_assoc]
      rw[htk2,<- List.append_assoc]at g5'
      rw[hsp2,<- Bool.or_assoc]at g6'
      simp only[Fo.size]at g4'
      have hlen5:=congrArg List.length g5'
      simp only[List.length_append,List.length_cons]at hlen5
      obtain⟨heat2,hqe⟩:=BS he2
      have q1:decide ((q:Int)<((p+1+k.size:Nat):Int))=true:=dh
      have q2:decide (q<p+(1+k.size))=true:=dh
      have hcall:=fun (M':ao) a1 a2 a3 a4 a5 (m:Nat) l1 l2 l3 l4=>hp2 q (R2.flat++r') (R2.ends (q+1+j2.size)++er') Lx sx (b0+1) M' m hd2 he2 (by omega) (by omega) (by omega) (by omega) a1 a2 a3 a4 a5 l1 l2 l3 l4
      unfold NB at hcall
      have hd2':v.drop (q+1+j2.size)=R2.flat++r':=by
       have:=pr (v:=v) (p:=q) (a:=u2::j2.flat) (r:=R2.flat++r') (by rw[hd2];simp)
       rw[List.length_cons,Fo.flat_length]at this
       rw[show q+1+j2.size=q+(j2.size+1) by omega];exact this
      have he2':en.drop (q+1+j2.size)=R2.ends (q+1+j2.size)++er':=by
       have:=congrArg (List.drop (1+j2.size)) he2
       rw[List.drop_drop]at this
       rw[show q+1+j2.size=q+(1+j2.size) by omega,this,show 1+j2.size=(j2.ends (q+1)).length+1 by rw[Fo.ends_length];omega,List.drop_succ_cons,List.drop_left]
       rw[show q+((j2.ends (q+1)).length+1)=q+1+j2.size by rw[Fo.ends_length];omega]
      generalize hT:Lx++(Fo.cons u2 j2 .nil).toks=T at hcall g5'
      generalize hS:(sx||bV (u2::j2.flat))=S2 at hcall g6'
      repeat' first|simp only[au,ap,results129,ntmps129,am,q1,q2,heat,heat2,gn,hpe,hqe,aD,tn,aM,aA,n1,n2,n3,n4,n5,n6,n7,n8,n9,o4,o5,o6,z0,y0,x0,w0,Bt,Bf,Lm,aj,ai,seval]|exact rfl|refine aa (v:=.any) ?_|((refine dv (caps:=?_) ?_ ?_ [sp,lb,b0+1,pb] (hcall _ ?_ ?_ ?_ ?_ aN _ (by omega) (by omega) (by omega) (by omega)) ?_ ?_);rotate_left 1)|((first|apply Ca|apply Cb)<;>intro hb)|refine Ai (by omega) ?_|(apply Ai<;>intro hb)
      all_goals ((refine de (TkSt.mk R2 (q+1+j2.size) T S2) [some b0,some sp,some lb,some (b0+144),some pb] ?_ ?_ ?_;(focus (refine⟨?_,?_⟩<;>(try simp only[aE,aD,ae,aJ,aC,ab,aM,n1,n2,n3,n4,n5,n6,n7,n8,n9,o4,o5,o6,z0,y0,x0,w0,Bool.and_self,Bool.and_false,Bool.false_and,Lm,aj,ai,aq,seval])<;>(try omega)))))
      all_goals (first|(show R2.size<j2.size+R2.size+1;omega)|exact⟨hr2,⟨r',hd2'⟩,⟨er',he2'⟩,by show q+1+j2.size+R2.size=_;omega,g5',g6'⟩|skip)
def wK (v:List Nd)(hv:v.length<=512)(hok:∀ n∈v,n.okTo aT/\n.i64)(en:List Nat)(hen:en.length=v.length)(sp lb pb:Nat)(d1:sp≠lb)(d2:sp≠pb)(d3:lb≠pb):∀(F:Fo) (d last:Nat),F.good d last=true->(∀ n∈F.flat,n∈v)->vA (uv v en sp lb pb) F
 | .nil,_,_,_,_=>trivial
 | .cons n k r,d,last,h,hin=>by
  obtain⟨h1,h2,h3,h4,h5,h6⟩:=Fo.good_cons.1 h
  have hno:=hok n (hin n (by simp[Fo.flat]))
  refine⟨?_,wK v hv hok en hen sp lb pb d1 d2 d3 r d n.kind h6 (fun x hx=>hin x (by simp[Fo.flat,hx]))⟩
  by_cases hk:n.kind=2
  ·exact Hj v hv en sp lb pb d1 d2 d3 n k hno.1 hk (Fo.text_leaf h hk)
  ·exact Hi v hv en hen sp lb pb d1 d2 d3 n k hno.1 (fD h1).1 hk h2 (wK v hv hok en hen sp lb pb d1 d2 d3 k (d-1) 1 h5 (fun x hx=>hin x (by simp[Fo.flat,hx])))
def EV (v:List Nd)(hv:v.length<=aT)(hok:∀ n∈v,n.okTo aT/\n.i64)(h:bm v=none)(nm:Nat):Ev cx 92 nm [.sl false 6 (v.map aD)] ao.nil (.tup [.nils,.int .i64 8]) []:=by
 have hb:=fT v hv hok h
 refine aX call92 func92 ?_;intro b0 hb0
 exact wP (a3 results92 ntmps92 @ae) hb
def m7 (n:Nd)(k:Fo):Int:=if bV (n::k.flat)=true then 8 else if 512<(Fo.cons n k .nil).toks.length then 4 else 0
def tu (n:Nd)(k:Fo)(hk1:n.kind=1)(hg:(Fo.cons n k .nil).good 12 0=true)(hl:k.size+1<=512)(hok:∀ x∈n::k.flat,x.okTo aT/\x.i64)(r:V)(eff:List (Nat×Option Blk))(nm:Nat)
  (hr:(m7 n k≠0/\r = .tup [.nils,.int .i64 (m7 n k)]/\eff=[])\/(m7 n k=0/\r = .tup [.own nm 0 (Fo.cons n k .nil).toks.length,.int .i64 0]/\eff=[(nm,some ⟨4,(Fo.cons n k .nil).toks.map bQ⟩)])) :
  Ev cx 92 nm [.sl false 6 ((n::k.flat).map aD)] ao.nil r eff:=by
 have hb:=fU (n::k.flat) (by simp[Fo.flat_length];unfold aT;omega) hok (uz (Nat.le_refl _) hk1 hg hl)
 have htl:(Fo.cons n k .nil).toks.length<=1100:=by
  rw[Fo.toks_length hg]
  have:=List.length_filter_le (fun n:Nd=>decide (0<n.many)) (Fo.cons n k .nil).flat
  rw[Fo.flat_length]at this
  simp only[Fo.size]at this ⊢
  omega
 have hput:∀(sp lb pb:Nat),sp≠lb->sp≠pb->lb≠pb->uv (n::k.flat) ((1+k.size)::k.ends 1) sp lb pb n k:=fun sp lb pb d1 d2 d3 =>
  (wK (n::k.flat) (by simp[Fo.flat_length];omega) hok ((1+k.size)::k.ends 1) (by simp[Fo.flat_length,Fo.ends_length]) sp lb pb d1 d2 d3 (.cons n k .nil) 12 0 hg (fun x hx=>by simpa [Fo.flat] using hx)).1
 have hcall:=fun (sp lb pb lk:Nat) (d1:sp≠lb) (d2:sp≠pb) (d3:lb≠pb) (M:ao) (m:Nat) e1 e2 e3 a1 a2 a3 a4 a5 l1 l2 l3 l4=>hput sp lb pb d1 d2 d3 0 [] [] [] false lk M m (by simp) (by simp) (by simp;omega) e1 e2 e3 a1 a2 a3 a4 a5 l1 l2 l3 l4
 clear hput
 simp only[List.nil_append,List.length_nil,Lo,Bool.false_or]at hcall
 have hne:(((1+k.size)::k.ends 1).map gn).isEmpty=false:=rfl
 unfold m7 at hr
 have hev:((1+k.size)::k.ends 1).length=(n::k.flat).length:=by simp[Fo.flat_length,Fo.ends_length]
 generalize hV:n::k.flat=v at hb hcall hr hev ⊢
 generalize hEn:(1+k.size)::k.ends 1=en at hb hcall hne hev
 generalize (Fo.cons n k .nil).toks=T at htl hcall hr
 generalize bV v=S at hcall hr
 have hte:(en.map gn).take v.length=en.map gn:=List.take_of_length_le (by rw[Lm,hev];omega)
 have hlv:v.length<=en.length:=by omega
 have htt:(T.map bQ).take T.length=T.map bQ:=ba _ _
 unfold NB at hcall
 clear hok hg
 refine iP rfl call92 func92 rfl mixed (by kernel_rfl) rfl ?_;intro b0 hb0;have zF:=Ai results92 ntmps92
 repeat' first|simp only[au,ap,zF,am,aj,ai,seval]|exact rfl|refine aa (v:=.any) ?_|((first|apply Ca|apply Cb)<;>intro hb)|refine Ai (by omega) ?_|(apply Ai<;>intro hb)
 (refine aY jI (b0+16) ([(1,.rp [.sl false 6 (v.map aD)]),(2,.ptr b0 0 0)]) ([(b0,⟨1,[[.nils]]⟩)]) [some (b0+16)] ?_ ?_ ?_;(focus (show b0<=_;omega));(focus (refine⟨?_,?_⟩<;>(try simp only[aE,cL,ae,al,az,aj,ai,aq,seval])<;>(try omega))))
 repeat' first|simp only[au,ap,zF,am,ae,aj,ai,seval]|exact rfl|refine aa (v:=.any) ?_|(refine ay ?_ (hb _) ?_ ?_)|omega|((first|apply Ca|apply Cb)<;>intro hb)|refine Ai (by omega) ?_|(apply Ai<;>intro hb)
 (refine aY jI (b0+16) ([(1,.rp [.sl false 6 (v.map aD)]),(2,.ptr b0 0 0),(4,.ptr (b0+1) 0 0)]) ([(b0,⟨1,[[.nils]]⟩),(b0+1,⟨1,[[.sl false 1 (en.map gn)]]⟩)]) [some b0,some (b0+48)] ?_ ?_ ?_;(focus (show b0<=_;omega));(focus (refine⟨?_,?_⟩<;>(try simp only[aE,cL,hte,hlv,or_true,ae,aJ,al,az,Lm,aj,ai,aq,seval])<;>(try omega))))
 repeat' first|simp only[au,ap,zF,am,hne,ae,aJ,aj,ai,seval]|exact rfl|refine aa (v:=.any) ?_|((first|apply Ca|apply Cb)<;>intro hb)|refine Ai (by omega) ?_|(apply Ai<;>intro hb)
 ·cases hb
 (refine aY jI (b0+16) ([(1,.rp [.sl false 6 (v.map aD)]),(2,.ptr b0 0 0),(4,.rp [.sl false 1 (en.map gn)])]) ([(b0,⟨1,[[.nils]]⟩)]) [some b0] ?_ ?_ ?_;(focus (show b0<=_;omega));(focus (refine⟨?_,?_⟩<;>(try simp only[aE,cL,ae,aJ,al,az,Lm,aj,ai,aq,seval])<;>(try omega))))
 repeat' first|simp only[au,ap,zF,am,ae,aJ,aj,ai,seval]|exact rfl|refine aa (v:=.any) ?_|((first|apply Ca|apply Cb)<;>intro hb)|refine Ai (by omega) ?_|(apply Ai<;>intro hb)
 refine bj ?_
 repeat' first|simp only[au,ap,zF,am,ae,aJ,aj,ai,seval]|exact rfl|refine aa (v:=.any) ?_|((first|apply Ca|apply Cb)<;>intro hb)|refine Ai (by omega) ?_|(apply Ai<;>intro hb)
 refine bj ?_
 repeat' first|simp only[au,ap,zF,am,ae,aJ,aj,ai,seval]|exact rfl|refine aa (v:=.any) ?_|((first|apply Ca|apply Cb)<;>intro hb)|refine Ai (by omega) ?_|(apply Ai<;>intro hb)
 (refine oG jI (b0+16) ([(2,.ptr b0 0 0),(5,.ptr (b0+1) 0 0),(6,.ptr (b0+2) 0 0)]) ([(b0,⟨1,[[.own (b0+3) 0 0]]⟩),(b0+1,⟨1,[[.bool false]]⟩),(b0+2,⟨1,[[.fn 129 [.rp [.sl false 6 (v.map aD)],.ptr (b0+1) 0 0,.ptr b0 0 0,.rp [.sl false 1 (en.map gn)],.ptr (b0+2) 0 0]]]⟩),(b0+3,⟨4,[]⟩)]) [some b0,some (b0+16),some (b0+48),none] ?_ ?_ ?_;(focus (show b0<=_;omega));(focus (refine⟨?_,?_⟩<;>(try simp only[aE,ae,aJ,al,az,Bool.and_self,Bool.and_false,Bool.false_and,Lm,aj,ai,aq,seval])<;>(try omega))))
 cases S with
 | true =>
  have hre:r = .tup [.nils,.int .i64 8]/\eff=[]:=by
   rcases hr with ⟨_,h⟩|⟨h,_⟩
   ·exact h
   ·simp at h
  obtain⟨rfl,rfl⟩:=hre
  repeat' first|simp only[au,ap,zF,am,ae,aJ,aM,aA,aj,ai,seval]|exact rfl|refine aa (v:=.any) ?_|((refine dv (caps:=?_) ?_ ?_ [b0+1,b0,b0+3,b0+2] (hcall (b0+1) b0 (b0+2) (b0+3) (by omega) (by omega) (by omega) _ _ (by omega) (by omega) (by omega) ?_ ?_ ?_ ?_ aN (by omega) (by omega) (by omega) (by omega)) ?_ ?_);rotate_left 1)|((first|apply Ca|apply Cb)<;>intro hb)|refine Ai (by omega) ?_|(apply Ai<;>intro hb)
  all_goals ((apply Fin.pure<;>simp only[am,ae,zF,aj,ai,seval]))
 | false =>
  by_cases h5:512<T.length
  ·have hre:r = .tup [.nils,.int .i64 4]/\eff=[]:=by
    rcases hr with ⟨_,h⟩|⟨h,_⟩
    ·simpa [h5] using h
    ·simp[h5]at h
   obtain⟨rfl,rfl⟩:=hre
   have q1:decide ((512:Int)<(T.length:Int))=true:=dh
   have q2:decide (512<T.length)=true:=decide_eq_true h5
   repeat' first|simp only[au,ap,zF,am,q1,q2,ae,aJ,aM,aA,aj,ai,seval]|exact rfl|refine aa (v:=.any) ?_|((refine dv (caps:=?_) ?_ ?_ [b0+1,b0,b0+3,b0+2] (hcall (b0+1) b0 (b0+2) (b0+3) (by omega) (by omega) (by omega) _ _ (by omega) (by omega) (by omega) ?_ ?_ ?_ ?_ aN (by omega) (by omega) (by omega) (by omega)) ?_ ?_);rotate_left 1)|((first|apply Ca|apply Cb)<;>intro hb)|refine Ai (by omega) ?_|(apply Ai<;>intro hb)
   all_goals ((apply Fin.pure<;>simp only[am,ae,zF,aj,ai,seval]))
  ·have hre:r = .tup [.own nm 0 T.length,.int .i64 0]/\eff=[(nm,some ⟨4,T.map bQ⟩)]:=by
    rcases hr with ⟨h,_⟩|⟨_,h⟩
    ·simp[h5]at h
    ·exact h
   obtain⟨rfl,rfl⟩:=hre
   have q1:decide ((512:Int)<(T.length:Int))=false:=bi
   have q2:decide (512<T.length)=false:=decide_eq_false h5
   repeat' first|simp only[au,ap,zF,am,q1,q2,ae,aJ,aM,aA,aj,ai,seval]|exact rfl|refine aa (v:=.any) ?_|((refine dv (caps:=?_) ?_ ?_ [b0+1,b0,b0+3,b0+2] (hcall (b0+1) b0 (b0+2) (b0+3) (by omega) (by omega) (by omega) _ _ (by omega) (by omega) (by omega) ?_ ?_ ?_ ?_ aN (by omega) (by omega) (by omega) (by omega)) ?_ ?_);rotate_left 1)|((first|apply Ca|apply Cb)<;>intro hb)|refine Ai (by omega) ?_|(apply Ai<;>intro hb)
   all_goals ((refine Fin.give [(b0+32,some 0)] [] ?_ ?_ ?_ ?_ ?_ (bA iC (by simp[bt,tgt]))<;>(try simp only[zF,am,aM,Lm,jK,aj,ai,seval])<;>(try simp only[aq])<;>(try omega)))
def c8 (v:List Nd):V:=.sl false 6 (v.map aD)
def aR (v:List Nd):List V:=[.sl false 6 (v.map aD)]
def ad (l:List (List Nd)):plainLL (l.map aR)=true:=ce _ (fun v=>by simp[aR,plainL,V.plain,ae]) l
def AA (l:List (List Nd))(f:Nat)(caps:List V)(p:(List Nd)->Bool)(hf:∀ h∈l,∀ nm,Ev cx f nm (c8 h::caps) ao.nil (.bool (p h)) [])(hn:l.length<=aT)(hpl:plainL caps=true)(nm:Nat):Ev cx 71 nm [.sl false 1 (l.map aR),.fn f caps] ao.nil (.int .i64 (yw (l.findIdx? p))) []:=by
 unfold aT at hn
 refine aX call71 func71 ?_;intro b0 hb0;have zF:=Ai results71 ntmps71
 repeat' first|simp only[au,ap,zF,am,aj,ai,seval]|exact rfl|refine aa (v:=.any) ?_|((first|(refine bh (g:=?_) ?_ ?_)|(refine aZ (g:=?_) ?_ ?_));rotate_left 1;(focus (simp only[zF,am,aj,ai,seval]<;>exact rfl)))|((first|apply Ca|apply Cb)<;>intro hb)|refine Ai (by omega) ?_|(apply Ai<;>intro hb)
 (refine ew (fun x:Nat=>l.length-x) (fun x=>x<=l.length/\(l.take x).any p=false) (b0+16) (fun x=>[(0,.sl false 1 (l.map aR)),(1,.fn f caps),(7,.int .i64 l.length),(8,.int .i64 x)]) (fun x=>[]) (0) [] ?_ ?_ ?_;(focus (refine⟨?_,?_⟩<;>(try simp only[aE,Lm,ad,bd hpl,aU hpl,aj,ai,aq,seval])<;>(try omega))))
 ·exact⟨Nat.zero_le _,by simp⟩
 ·rintro k ⟨hk,hno⟩
  by_cases hlt:k<l.length
  ·obtain⟨h,hh⟩:=ic hlt
   have hat:(l.map aR)[k]? = some (aR h):=by rw[List.getElem?_map,hh];rfl
   have hd:=decide_eq_true hlt
   have hwk:=eD k
   have hfh:=hf h (List.mem_of_getElem? hh)
   cases hp:p h with
   | true =>
    have hfd:=iQ hno hh hp
    rw[hp]at hfh
    (repeat' first|simp only[au,ap,zF,am,hat,aR,c8,hlt,hd,hwk,hfd,br,Lm,aj,ai,seval]|exact rfl|refine aa (v:=.any) ?_|refine bw (g:=f) (caps:=caps) (by simp only[zF,am,hat,aR,c8,hlt,hd,hwk,hfd,br,Lm,aj,ai,seval]<;>exact rfl) (by simp only[zF,am,hat,aR,c8,hlt,hd,hwk,hfd,br,Lm,aj,ai,seval]<;>exact rfl) (hfh _) ?_|((first|(refine bh (g:=?_) ?_ ?_)|(refine aZ (g:=?_) ?_ ?_));rotate_left 1;(focus (simp only[zF,am,hat,aR,c8,hlt,hd,hwk,hfd,br,Lm,aj,ai,seval]<;>exact rfl)))|((first|apply Ca|apply Cb)<;>intro hb)|refine Ai (by omega) ?_|(apply Ai<;>intro hb)|apply Fin.pure|simp only[aq])
   | false =>
    have hn':=cB (p:=p) hno hh hp
    rw[hp]at hfh
    repeat' first|simp only[au,ap,zF,am,hat,aR,c8,hlt,hd,hwk,Lm,aj,ai,seval]|exact rfl|refine aa (v:=.any) ?_|refine bw (g:=f) (caps:=caps) (by simp only[zF,am,hat,aR,c8,hlt,hd,hwk,Lm,aj,ai,seval]<;>exact rfl) (by simp only[zF,am,hat,aR,c8,hlt,hd,hwk,Lm,aj,ai,seval]<;>exact rfl) (hfh _) ?_|((first|(refine bh (g:=?_) ?_ ?_)|(refine aZ (g:=?_) ?_ ?_));rotate_left 1;(focus (simp only[zF,am,hat,aR,c8,hlt,hd,hwk,Lm,aj,ai,seval]<;>exact rfl)))|((first|apply Ca|apply Cb)<;>intro hb)|refine Ai (by omega) ?_|(apply Ai<;>intro hb)
    all_goals ((refine de (k+1) [] ?_ ?_ ?_;(focus (refine⟨?_,?_⟩<;>(try simp only[aE,ad,bd hpl,aU hpl,hwk,aj,ai,aq,seval])<;>(try omega)))))
    all_goals (first|(show l.length-(k+1)<l.length-k;omega)|exact⟨hlt,hn'⟩|skip)
  ·have hke:k=l.length:=by omega
   subst hke
   rw[List.take_length]at hno
   have hfd:=fC hno
   have hd:decide (l.length<l.length)=false:=bi
   (repeat' first|simp only[au,ap,zF,am,hd,hfd,cK,Lm,aj,ai,seval]|exact rfl|refine aa (v:=.any) ?_|((first|(refine bh (g:=?_) ?_ ?_)|(refine aZ (g:=?_) ?_ ?_));rotate_left 1;(focus (simp only[zF,am,hd,hfd,cK,Lm,aj,ai,seval]<;>exact rfl)))|((first|apply Ca|apply Cb)<;>intro hb)|refine Ai (by omega) ?_|(apply Ai<;>intro hb)|apply Fin.pure|simp only[aq])
def mQ (l:List (List Nd))(f:Nat)(caps:List V)(p:(List Nd)->Bool)(hf:∀ h∈l,∀ nm,Ev cx f nm (c8 h::caps) ao.nil (.bool (p h)) [])(hn:l.length<=aT)(hpl:plainL caps=true)(nm:Nat):Ev cx 27 nm [.sl false 1 (l.map aR),.fn f caps] ao.nil (.bool (l.any p)) []:=by
 have hi:=AA l f caps p hf hn hpl
 cases h:l.findIdx? p with
 | none =>
  have ha:l.any p=false:=lm h
  rw[h]at hi
  refine aX call27 func27 ?_;intro b0 hb0
  exact wP (a4 (results27) (ntmps27) ha @cK) hi
 | some n =>
  have ha:l.any p=true:=ln h
  rw[h]at hi
  have hz:decide ((0:Int)<=(n:Int))=true:=dh
  refine aX call27 func27 ?_;intro b0 hb0
  exact wP (a5 (results27) (ntmps27) ha @br hz) hi
def KA (v:List Nd)(hv:v.length<=aT)(hok:∀ n∈v,n.okTo aT/\n.i64)(nm:Nat):Ev cx 34 nm [.sl false 6 (v.map aD)] ao.nil (.bool (gT v)) []:=by
 match v,hv,hok with
 | [],_,_ =>
  refine aX call34 func34 ?_;intro b0 hb0
  (repeat' first|simp only[au,ap,results34,ntmps34,am,gT,ae,Lo,List.length_nil,aj,ai,seval]|exact rfl|refine aa (v:=.any) ?_|((first|apply Ca|apply Cb)<;>intro hb)|refine Ai (by omega) ?_|(apply Ai<;>intro hb)|apply Fin.pure|simp only[aq])
 | [x],_,hok =>
  have hm:=GK x (hok x (.head _)).1
  have hk:((x.kind:Int)==2)=decide (x.kind=2):=by rw[Bool.eq_iff_iff];simp;omega
  have hpl:plainL (aD x)=true:=by simp[aD,plainL,V.plain,ab]
  refine aX call34 func34 ?_;intro b0 hb0
  (repeat' first|simp only[au,ap,results34,ntmps34,am,gT,hk,aD,ab,Lc,Lo,List.length_cons,List.length_nil,aj,ai,seval]|exact rfl|refine aa (v:=.any) ?_|(first|(refine ah ?_ (hm _) ?_)|(refine ac ?_ (fun _=>hm _) ?_))|((first|apply Ca|apply Cb)<;>intro hb)|refine Ai (by omega) ?_|(apply Ai<;>intro hb)|apply Fin.pure|simp only[aq])
 | x::y::r,hv,_ =>
  have h1:(((r.length+1+1:Nat):Int)==1)=false:=beq_false_of_ne (by omega)
  have h2:(((r.length:Int)+1+1)==1)=false:=beq_false_of_ne (by omega)
  have ht:gT (x::y::r)=false:=rfl
  rw[ht]
  have hln:((x::y::r).map aD).length=r.length+1+1:=by simp
  have hpl:=ae (x::y::r)
  generalize (x::y::r).map aD=rows at hln hpl ⊢
  refine aX call34 func34 ?_;intro b0 hb0
  (repeat' first|simp only[au,ap,results34,ntmps34,am,h1,h2,hln,hpl,aj,ai,seval]|exact rfl|refine aa (v:=.any) ?_|((first|apply Ca|apply Cb)<;>intro hb)|refine Ai (by omega) ?_|(apply Ai<;>intro hb)|apply Fin.pure|simp only[aq])
def KB (v:List Nd)(hv:v.length<=aT)(hok:∀ n∈v,n.okTo aT/\n.i64)(nm:Nat):Ev cx 36 nm [c8 v,.rp [.fn 34 []]] ao.nil (.bool (eC v)) []:=by
 have h1:=KA v hv hok
 unfold eC c8
 cases ht:gT v with
 | true =>
  rw[ht]at h1
  refine aX call36 func36 ?_;intro b0 hb0;have zF:=Ai results36 ntmps36
  (repeat' first|simp only[au,ap,zF,am,ae,Bt,Bf,Bool.false_and,aj,ai,seval]|exact rfl|refine aa (v:=.any) ?_|(first|(refine ah ?_ (h1 _) ?_)|(refine ac ?_ (fun _=>h1 _) ?_))|((first|(refine bh (g:=?_) ?_ ?_)|(refine aZ (g:=?_) ?_ ?_));rotate_left 1;(focus (simp only[zF,am,ae,Bt,Bf,Bool.false_and,aj,ai,seval]<;>exact rfl)))|((first|apply Ca|apply Cb)<;>intro hb)|refine Ai (by omega) ?_|(apply Ai<;>intro hb)|apply Fin.pure|simp only[aq])
 | false =>
  rw[ht]at h1
  cases hb:bm v with
  | none =>
   have h2:=fT v hv hok hb
   refine aX call36 func36 ?_;intro b0 hb0;have zF:=Ai results36 ntmps36
   (repeat' first|simp only[au,ap,zF,am,ae,Bt,Bf,Bool.true_and,Option.isNone_none,aj,ai,seval]|exact rfl|refine aa (v:=.any) ?_|((first|(refine ah ?_ (h1 _) ?_)|(refine ac ?_ (fun _=>h1 _) ?_));(focus (simp only[zF,am,ae,Bt,Bf,Bool.true_and,Option.isNone_none,aj,ai,seval]<;>exact rfl)))|((first|(refine ah ?_ (h2 _) ?_)|(refine ac ?_ (fun _=>h2 _) ?_));(focus (simp only[zF,am,ae,Bt,Bf,Bool.true_and,Option.isNone_none,aj,ai,seval]<;>exact rfl)))|((first|(refine bh (g:=?_) ?_ ?_)|(refine aZ (g:=?_) ?_ ?_));rotate_left 1;(focus (simp only[zF,am,ae,Bt,Bf,Bool.true_and,Option.isNone_none,aj,ai,seval]<;>exact rfl)))|((first|apply Ca|apply Cb)<;>intro hb)|refine Ai (by omega) ?_|(apply Ai<;>intro hb)|apply Fin.pure|simp only[aq])
  | some en =>
   have h2:=fU v hv hok hb
   have h0:decide (v.length=0)=false:=decide_eq_false (by have:=(vU hb).2.1;omega)
   simp only[Option.isNone_some,Bool.and_false]
   refine Ev.bit_false (b:=true) ?_
   refine aX call36 func36 ?_;intro b0 hb0;have zF:=Ai results36 ntmps36
   repeat' first|simp only[au,ap,zF,am,h0,ae,Bt,Bf,Bool.true_and,Option.isNone_none,aj,ai,seval]|exact rfl|refine aa (v:=.any) ?_|(first|(refine ah ?_ (h1 _) ?_)|(refine ac ?_ (fun _=>h1 _) ?_))|(refine zP ?_ [] (h2 _) ?_ ?_)|((first|(refine bh (g:=?_) ?_ ?_)|(refine aZ (g:=?_) ?_ ?_));rotate_left 1;(focus (simp only[zF,am,h0,ae,Bt,Bf,Bool.true_and,Option.isNone_none,aj,ai,seval]<;>exact rfl)))|((first|apply Ca|apply Cb)<;>intro hb)|refine Ai (by omega) ?_|(apply Ai<;>intro hb)
   all_goals (first|omega|((apply Fin.pure<;>simp only[am,h0,ae,zF,aj,ai,seval])))
def C9 {l:List (List Nd)}{k:Nat}{v:List Nd}(h:l[k]? = some v):(l.take (k+1)).flatten=(l.take k).flatten++v:=by
 obtain⟨hk,rfl⟩:=List.getElem?_eq_some_iff.1 h
 rw[List.take_succ_eq_append_getElem hk,List.flatten_append];simp
def b7 (n:Nd)(l:List (List Nd))(k:Nat):List Nd:=n.to l.length::(l.take k).flatten
def u7 (n:Nd)(l:List (List Nd)):(b7 n l 0).map aD=[[.int .u8 n.kind,.str n.space,.str n.name,.sl false 3 (n.attrs.map bf),.str n.text,.int .i64 l.length]]:=rfl
def oP (n:Nd)(l:List (List Nd))(k:Nat):(b7 n l k).length=1+((l.take k).flatten).length:=by unfold b7;rw[List.length_cons];omega
def u6 {n:Nd}{l:List (List Nd)}{k:Nat}{v:List Nd}(h:l[k]? = some v):b7 n l (k+1)=b7 n l k++v:=by unfold b7;rw[C9 h];rfl
def jV (n:Nd)(l:List (List Nd)):b7 n l l.length=n.to l.length::l.flatten:=by unfold b7;rw[List.take_length]
def lW {l:List (List Nd)}{k:Nat}{a:List Nd}(h:l[k]? = some a):(l.map aR)[k]? = some (aR a):=by rw[List.getElem?_map,h];rfl
def Hk (n:Nd)(l:List (List Nd))(hn:n.okTo aT)(hl:l.length<=aT)(hok:∀ v∈l,v.length<=aT /\ ∀ x∈v,x.okTo aT/\x.i64)(r:V)(eff:List (Nat×Option Blk))(nm:Nat)
  (hr:(ck n l≠0/\r = .tup [.nils,.int .i64 (ck n l)]/\eff=[])\/(ck n l=0/\r = .tup [.own nm 0 (ef n l).length,.int .i64 0]/\eff=[(nm,some ⟨6,(ef n l).map aD⟩)])) :
  Ev cx 13 nm [.agg (aD n),.sl false 1 (l.map aR)] ao.nil r eff:=by
 have hok0:∀ x∈[n.to 0],x.okTo aT/\x.i64:=fun x hx=>by
  simp at hx;subst hx
  exact⟨hn,by simp[Nd.i64,Nd.to]⟩
 have hl':=hl
 unfold aT at hl'
 have hrow0:([n.to 0].map aD)=[[.int .u8 n.kind,.str n.space,.str n.name,.sl false 3 (n.attrs.map bf),.str n.text,.int .i64 0]]:=rfl
 have hpl0:=ae [n.to 0]
 rw[hrow0]at hpl0
 cases hb:bm [n.to 0] with
 | none =>
  have hE:ck n l=8:=by unfold ck;rw[hb];rfl
  have hre:r = .tup [.nils,.int .i64 8]/\eff=[]:=by
   rcases hr with ⟨_,h⟩|⟨h,_⟩
   ·rw[hE]at h;exact h
   ·rw[hE]at h;cases h
  obtain⟨rfl,rfl⟩:=hre
  have h1:=fT [n.to 0] (by simp[aT]) hok0 hb
  rw[hrow0]at h1
  refine aX call13 func13 ?_;intro b0 hb0
  (repeat' first|simp only[au,ap,results13,ntmps13,am,aD,ab,ad,hpl0,aj,ai,seval]|exact rfl|refine aa (v:=.any) ?_|((refine bg (xs:=?_) [b0+96] ?_ ?_ ?_ rfl (h1 _) ?_);rotate_left 1)|omega|((first|apply Ca|apply Cb)<;>intro hb)|refine Ai (by omega) ?_|(apply Ai<;>intro hb)|apply Fin.pure|simp only[aq])
 | some en0 =>
  have h1:=fU [n.to 0] (by simp[aT]) hok0 hb
  rw[hrow0]at h1
  simp only[List.length_cons,List.length_nil]at h1
  have hcon:=mQ l 36 [.rp [.fn 34 []]] eC (fun v hv nm=>KB v (hok v hv).1 (hok v hv).2 nm) hl rfl
  cases ha:l.any eC with
  | true =>
   rw[ha]at hcon
   have hE:ck n l=8:=by unfold ck;rw[hb,ha];rfl
   have hre:r = .tup [.nils,.int .i64 8]/\eff=[]:=by
    rcases hr with ⟨_,h⟩|⟨h,_⟩
    ·rw[hE]at h;exact h
    ·rw[hE]at h;cases h
   obtain⟨rfl,rfl⟩:=hre
   refine aX call13 func13 ?_;intro b0 hb0
   repeat' first|simp only[au,ap,results13,ntmps13,am,cA,bO,List.cons_append,List.nil_append,aD,ab,ad,hpl0,Lm,aj,ai,seval]|exact rfl|refine aa (v:=.any) ?_|((refine dA (xs:=?_) [b0+96] ?_ ?_ ?_ ?_ (h1 _) ?_ ?_);rotate_left 1)|((refine bg (xs:=?_) [b0+144] ?_ ?_ ?_ rfl (hcon _) ?_);rotate_left 1)|omega|((first|apply Ca|apply Cb)<;>intro hb)|refine Ai (by omega) ?_|(apply Ai<;>intro hb)
   all_goals (first|(cases hb;done)|((apply Fin.pure<;>simp only[am,ae,results13,ntmps13,aj,ai,seval])))
  | false =>
   rw[ha]at hcon
   have hp5:∀ v∈l,v.length<=512:=fun v hv=>by
    have h:=List.any_eq_false.1 ha v hv
    simp only[eC,Bool.and_eq_true,Bool.not_eq_true',not_and,Bool.not_eq_true]at h
    cases ht:gT v with
    | true =>
     match v,ht with
     | [x],_=>simp
    | false =>
     have:=h ht
     cases hbv:bm v with
     | none=>rw[hbv]at this;cases this
     | some en=>exact(vU hbv).2.2.1
   have hE:ck n l=if 512<1+(l.map List.length).sum then 4 else if (bm (n.to l.length::l.flatten)).isNone=true then 8 else 0:=by unfold ck;rw[hb,ha];rfl
   have hsum:∀ k,((l.take k).flatten).length<=(l.map List.length).sum:=fun k=>by
    rw[<- List.length_flatten]
    have:l.flatten=(l.take k).flatten++(l.drop k).flatten:=by rw[<- List.flatten_append,List.take_append_drop]
    rw[this,List.length_append];omega
   have hsum2:(l.flatten).length=(l.map List.length).sum:=List.length_flatten
   have hrowl:aD (n.to l.length)=[.int .u8 n.kind,.str n.space,.str n.name,.sl false 3 (n.attrs.map bf),.str n.text,.int .i64 l.length]:=rfl
   refine aX call13 func13 ?_;intro b0 hb0
   repeat' first|simp only[au,ap,results13,ntmps13,am,cA,bO,List.cons_append,List.nil_append,aD,ab,ad,hpl0,Lm,aj,ai,seval]|exact rfl|refine aa (v:=.any) ?_|((refine dA (xs:=?_) [b0+96] ?_ ?_ ?_ ?_ (h1 _) ?_ ?_);rotate_left 1)|((refine bg (xs:=?_) [b0+144] ?_ ?_ ?_ rfl (hcon _) ?_);rotate_left 1)|omega|((first|apply Ca|apply Cb)<;>intro hb)|refine Ai (by omega) ?_|(apply Ai<;>intro hb)
   ·cases hb
   have hz1:(b7 n l 0).length=1:=rfl
   (refine ew (fun x:Nat=>l.length-x) (fun x=>x<=l.length/\(b7 n l x).length<=512) (b0+16) (fun x=>[(7,.own b0 0 (b7 n l x).length),(24,.sl false 1 (l.map aR)),(25,.int .i64 l.length),(26,.int .i64 x)]) (fun x=>[(b0,⟨6,(b7 n l x).map aD⟩)]) (0) [some (b0+304)] ?_ ?_ ?_;(focus (refine⟨?_,?_⟩<;>(try simp only[aE,u7,hz1,aD,Nd.to,ab,ad,ae,al,Lc,Lo,Lm,aj,ai,aq,seval])<;>(try omega))))
   ·exact⟨Nat.zero_le _,by rw[hz1];omega⟩
   ·rintro k ⟨hk,hk5⟩
    by_cases hlt:k<l.length
    ·obtain⟨v,hv⟩:=ic hlt
     have hvl:=hp5 v (List.mem_of_getElem? hv)
     have hat:=lW hv
     have d1:=sC k l.length
     have d2:=decide_eq_true hlt
     have hwk:=eD k
     have hsk:=hsum (k+1)
     have hlen1:=oP n l (k+1)
     have hsc:=u6 (n:=n) hv
     have hlen:(b7 n l (k+1)).length=(b7 n l k).length+v.length:=by rw[hsc,List.length_append]
     have hrows:(b7 n l k).map aD++v.map aD=(b7 n l (k+1)).map aD:=by rw[hsc,List.map_append]
     have hsw:512<(b7 n l (k+1)).length->ck n l=4:=fun h=>by rw[hE,if_pos (by omega)]
     clear hsc
     have htk:((b7 n l k).map aD).take (b7 n l k).length=(b7 n l k).map aD:=ba _ _
     have hon:=rj v
     have hf1:(b7 n l k).length+v.length<=9223372036854775807:=by omega
     have hf2:((b7 n l k).length+v.length)*88<=140737488355328:=by omega
     by_cases h5:512<(b7 n l k).length+v.length
     ·have hre:r = .tup [.nils,.int .i64 4]/\eff=[]:=by
       have hE4:=hsw (by omega)
       rcases hr with ⟨_,h⟩|⟨h,_⟩
       ·rw[hE4]at h;exact h
       ·rw[hE4]at h;cases h
      obtain⟨rfl,rfl⟩:=hre
      have q1:decide ((512:Int)<(((b7 n l k).length+v.length:Nat):Int))=true:=dh
      have q2:decide (512<(b7 n l k).length+v.length)=true:=decide_eq_true h5
      refine wR (a6 results13 ntmps13 hat @aR.eq_1 hlt (a9 d1 d2 htk hon hf1 hf2 q1 q2 @ae)) trivial ?_
      all_goals ((apply Fin.pure<;>simp only[am,ae,results13,ntmps13,aj,ai,seval]))
     ·have q1:decide ((512:Int)<(((b7 n l k).length+v.length:Nat):Int))=false:=bi
      have q2:decide (512<(b7 n l k).length+v.length)=false:=decide_eq_false h5
      refine wR (a8 results13 ntmps13 hat @aR.eq_1 hlt d1 d2 (a9 htk hon hf1 hf2 hrows hwk q1 q2 @ae)) trivial ?_
      all_goals ((refine de (k+1) [some (b0+112)] ?_ ?_ ?_;(focus (refine⟨?_,?_⟩<;>(try simp only[aE,hwk,hlen,ab,ad,ae,Lm,aj,ai,aq,seval])<;>(try omega)))))
      all_goals (first|(show l.length-(k+1)<l.length-k;omega)|exact⟨hlt,by rw[hlen];omega⟩|skip)
    ·have hkl:k=l.length:=by omega
     subst hkl
     have d1:=nu l.length l.length
     have d2:decide (l.length<l.length)=false:=bi
     have hlen1:=oP n l l.length
     rw[List.take_length,hsum2]at hlen1
     have hE2:ck n l=cT (b7 n l l.length):=by rw[hE,if_neg (by omega),jV];rfl
     have hT:ck n l=0->ef n l=b7 n l l.length:=fun h=>by unfold ef;rw[if_pos h,jV]
     have hoko:∀ x∈b7 n l l.length,x.okTo aT/\x.i64:=fun x hx=>by
      rw[jV]at hx
      rcases List.mem_cons.1 hx with rfl|hx
      ·exact⟨hn,by simp only[Nd.i64,Nd.to];omega⟩
      ·obtain⟨v,hv,hxv⟩:=List.mem_flatten.1 hx
       exact(hok v hv).2 x hxv
     have hck:=uB (b7 n l l.length) (by unfold aT;omega) hoko
     rw[<- hE2]at hck
     have htw:=fun (h:ck n l=0)=>KO (b7 n l l.length) (by omega) (fun x hx=>by
      rw[hE2]at h
      unfold cT at h
      cases hbo:bm (b7 n l l.length) with
      | none=>rw[hbo]at h;cases h
      | some en=>have:=(fD (xM hbo x hx)).1;omega)
     have hpl1:=ae (b7 n l l.length)
     have htk:((b7 n l l.length).map aD).take (b7 n l l.length).length=(b7 n l l.length).map aD:=ba _ _
     generalize hOUT:b7 n l l.length=OUT at hk5 hck htw hT hpl1 htk ⊢
     by_cases hz:ck n l=0
     ·have hre:r = .tup [.own nm 0 OUT.length,.int .i64 0]/\eff=[(nm,some ⟨6,OUT.map aD⟩)]:=by
       rcases hr with ⟨h,_⟩|⟨_,h⟩
       ·exact absurd hz h
       ·rw[hT hz]at h;exact h
      obtain⟨rfl,rfl⟩:=hre
      have htw:=htw hz
      rw[hz]at hck
      repeat' first|simp only[au,ap,results13,ntmps13,am,cA,bO,List.cons_append,List.nil_append,d1,d2,htk,ae,Lm,aj,ai,seval]|exact rfl|refine aa (v:=.any) ?_|((refine bg (xs:=?_) [b0] ?_ ?_ ?_ rfl (hck _) ?_);rotate_left 1)|((refine dA (xs:=?_) [b0] ?_ ?_ ?_ ?_ (htw _) ?_ ?_);rotate_left 1)|omega|((first|apply Ca|apply Cb)<;>intro hb)|refine Ai (by omega) ?_|(apply Ai<;>intro hb)
      all_goals ((refine Fin.give [(b0+128,some 0)] [] ?_ ?_ ?_ ?_ ?_ (bA iC (by simp[bt,tgt]))<;>(try simp only[results13,ntmps13,am,ae,Lm,jK,aj,ai,seval])<;>(try simp only[aq])<;>(try omega)))
     ·have hre:r = .tup [.nils,.int .i64 (ck n l)]/\eff=[]:=by
       rcases hr with ⟨_,h⟩|⟨h,_⟩
       ·exact h
       ·exact absurd h hz
      obtain⟨rfl,rfl⟩:=hre
      have q3:(ck n l != 0)=true:=by simpa using hz
      repeat' first|simp only[au,ap,results13,ntmps13,am,d1,d2,htk,q3,ae,Bt,Bf,Lm,aj,ai,seval]|exact rfl|refine aa (v:=.any) ?_|((refine bg (xs:=?_) [b0] ?_ ?_ ?_ rfl (hck _) ?_);rotate_left 1)|omega|((first|apply Ca|apply Cb)<;>intro hb)|refine Ai (by omega) ?_|(apply Ai<;>intro hb)
      all_goals ((apply Fin.pure<;>simp only[am,ae,results13,ntmps13,aj,ai,seval]))
end Go.Proofs.YtjonibipieofcaaGreatDoor
