/-
 Texts joined: XSl,XSm,XSn,XSo.
-/
import Derived.Test.YtlnlopnpcmahgaaGreatDoorQt
set_option linter.all false
namespace Go.Proofs.YtlnlopnpcmahgaaGreatDoor
set_option maxRecDepth 100000
set_option maxHeartbeats 32000000
open Go Go.RowKit Vm Go.Lib Tryz
open Vm renaming aH->Ca,aL->Cb
open And renaming intro->Ai
open List renaming length_map->Lm,not_mem_nil->Ln,map_nil->Lo,map_cons->Lc,mem_cons->Lk
open Bool renaming not_false->Bf,not_true->Bt
def zw (a:At)(nm:Nat):Ev cx 82 nm [.agg (bh a)] am.nil (.bool (!a.space.isEmpty)) []:=by
 refine aV call82 func82 rfl (by kernel_rfl) rfl ?_;intro b0 hb0
 (repeat' first|simp only[aj,ag,results82,ntmps82,ap,bh,lV,ai,seval,ah]|exact rfl|refine aa (v:=.any) ?_|((first|apply Ca|apply Cb)<;>intro hb)|refine Ai (by omega) ?_|(apply Ai<;>intro hb)|refine Fin.pure ?_ ?_ ?_|simp only[al])
def tc (P:Nd->Fo->Prop):Fo->Prop
 | .nil=>True
 | .cons n k r=>P n k/\tc P r
def Jq (v:List Nd)(en:List Nat)(sp lb pb:Nat):V:=.fn 80 [.rp [.sl false 6 (v.map aG)],.ptr sp 0 0,.ptr lb 0 0,.rp [.sl false 1 (en.map ff)],.ptr pb 0 0]
def rZ (v:List Nd)(en:List Nat)(sp lb pb:Nat)(n:Nd)(k:Fo):Prop :=
  ∀(p:Nat) (r:List Nd) (er:List Nat) (L:List Tk) (s:Bool) (lk:Nat) (M:am) (nm:Nat),v.drop p=n::(k.flat++r)->en.drop p=(p+1+k.size)::(k.ends (p+1)++er)->L.length+(Fo.cons n k .nil).toks.length<=2000 ->
    sp≠lk->lb≠lk->pb≠lk->M sp=some ⟨1,[[.bool s]]⟩->M lb=some ⟨1,[[.own lk 0 L.length]]⟩->M lk=some ⟨4,L.map bv⟩->M pb=some ⟨1,[[Jq v en sp lb pb]]⟩->(∀ z,(M z).isSome=true->z∈[sp,lb,lk,pb])->sp<nm->lb<nm->lk<nm->pb<nm ->
    Ev cx 80 nm [.int .i64 p,.rp [.sl false 6 (v.map aG)],.ptr sp 0 0,.ptr lb 0 0,.rp [.sl false 1 (en.map ff)],.ptr pb 0 0] M (.tup [])
      [(lk,none),(sp,some ⟨1,[[.bool (s||bD (n::k.flat))]]⟩),(lb,some ⟨1,[[.own nm 0 (L++(Fo.cons n k .nil).toks).length]]⟩),(pb,some ⟨1,[[Jq v en sp lb pb]]⟩),(nm,some ⟨4,(L++(Fo.cons n k .nil).toks).map bv⟩)]
structure TkSt where
 R:Fo
 q:Nat
 L:List Tk
 s:Bool
def qT (l:List Tk):(l.map bv).take l.length=l.map bv:=bF _ _
def pp (l:List Tk)(t:Tk):l.map bv++[bv t]=(l++[t]).map bv:=by simp
def qB {l:List At}{k:Nat}{a:At}(h:l[k]? = some a):(aO (l.take k)).map eh++[[.str a.name,.str a.value]]=(aO (l.take (k+1))).map eh:=by
 obtain⟨hk,rfl⟩:=List.getElem?_eq_some_iff.1 h
 unfold aO
 rw[List.take_succ_eq_append_getElem hk,List.map_append,List.map_append];rfl
def qC:aO []=[]:=rfl
def iy (l:List At):(aO l).length=l.length:=by simp[aO]
def yU {en:List Nat}{p e:Nat}{r:List Nat}(h:en.drop p=e::r):(en.map ff)[p]? = some (ff e)/\p<en.length:=by
 have h1:en[p]? = some e:=by have:=congrArg (·[0]?) h;simpa using this
 exact⟨by rw[List.getElem?_map,h1];rfl,(List.getElem?_eq_some_iff.1 h1).1⟩
def D4 (v:List Nd)(hv:v.length<=512)(en:List Nat)(sp lb pb:Nat)(d1:sp≠lb)(d2:sp≠pb)(d3:lb≠pb)(n:Nd)(k:Fo)(hn:n.okTo aS)(hk:n.kind=2)(hk0:k = .nil):rZ v en sp lb pb n k:=by
 subst hk0
 intro p r er L s lk M nm hvd hed hL e1 e2 e3 hsp hlb hlk hpb ho l1 l2 l3 l4
 obtain⟨hx,_,hp⟩:=dQ hvd
 have hat:=dG hx
 have hpi:(p:Int)<(v.length:Int):=by omega
 have hkb:((n.kind:Int)==2)=true:=by rw[hk];rfl
 have hco:=fD n.attrs 82 [] (fun a=>!a.space.isEmpty) (fun a _ nm=>zw a nm) hn.1 rfl
 have htk:(Fo.cons n .nil .nil).toks=[⟨4,[],[],n.text⟩]:=by simp[Fo.toks,hk]
 have hss:(s||bD (n::Fo.nil.flat))=((s || !n.space.isEmpty)||n.attrs.any fun a=>!a.space.isEmpty):=by simp[bD,gZ,Fo.flat,Bool.or_assoc]
 rw[htk]at hL ⊢
 rw[hss]
 have hLn:L.length<=2000:=by simp at hL;omega
 generalize (n.attrs.any fun a=>!a.space.isEmpty)=B at hco ⊢
 have hsn:=pp L ⟨4,[],[],n.text⟩
 have hll:(L++[(⟨4,[],[],n.text⟩:Tk)]).length=L.length+1:=by simp
 rw[<- hsn,hll]
 refine Ev.last_le (eff:=[(lk,none),(sp,_),(lb,_),(pb,_)]) (k:=⟨4,L.map bv++[[.int .u8 4,.str [],.nils,.str n.text]]⟩) ?_ ⟨rfl,.inl rfl,j0 (by rw[show bv ⟨4,[],[],n.text⟩=[.int .u8 4,.str [],.sl false 2 [],.str n.text] from rfl];simp only[eK,dj,ej,iS,nD,b8,fX,and_self])⟩
 have g1:(nm=sp)=False:=eq_false (by omega);have g2:(nm=lb)=False:=eq_false (by omega);have g3:(nm=pb)=False:=eq_false (by omega)
 unfold Jq at hpb ⊢
 simp only[List.cons_append,List.nil_append]
 have n1:=eq_false d1;have n2:=eq_false d2;have n3:=eq_false d3;have n4:=eq_false e1;have n5:=eq_false e2;have n6:=eq_false e3
 have n7:=eq_false (Ne.symm d1);have n8:=eq_false (Ne.symm d2);have n9:=eq_false (Ne.symm d3);have o4:=eq_false (Ne.symm e1);have o5:=eq_false (Ne.symm e2);have o6:=eq_false (Ne.symm e3)
 refine aV call80 func80 rfl (by kernel_rfl) rfl ?_;intro b0 hb0
 have k1:=aY hb0 hsp
 have k2:=aY hb0 hlb
 have k3:=aY hb0 hlk
 have k4:=aY hb0 hpb
 have z0:=aZ k1
 have y0:=aZ k2
 have x0:=aZ k3
 have w0:=aZ k4
 repeat' first|simp only[aj,ag,results80,ntmps80,ap,hat,aG,bv,hkb,hp,hpi,lV,hsp,hlb,hlk,hpb,qT,ad,ae,aF,ax,n1,n2,n3,n4,n5,n6,n7,n8,n9,o4,o5,o6,z0,y0,x0,w0,Lo,Bt,Bf,Lm,ai,seval,ah]|exact rfl|refine aa (v:=.any) ?_|(first|(refine ac ?_ (hco _) ?_)|(refine ab ?_ (fun _=>hco _) ?_))|((first|apply Ca|apply Cb)<;>intro hb)|refine Ai (by omega) ?_|(apply Ai<;>intro hb)
 all_goals ((refine Fin.give [(sp,none),(lb,none),(pb,none),(b0+416,some 0)] [lk] ?_ ?_ ?_ ?_ ?_ (bB ho (by simp[bg,tgt]))<;>(try simp only[results80,ntmps80,ap,hsp,hlb,hlk,hpb,bv,g1,g2,g3,ad,aC,aF,cg,Lo,n1,n2,n3,n4,n5,n6,n7,n8,n9,o4,o5,o6,z0,y0,x0,w0,Bool.and_self,Bool.and_false,Bool.false_and,Lm,jU,ai,seval,ah])<;>(try simp only[al])<;>(try omega)))
def D3 (v:List Nd)(hv:v.length<=512)(en:List Nat)(hen:en.length=v.length)(sp lb pb:Nat)(d1:sp≠lb)(d2:sp≠pb)(d3:lb≠pb)(n:Nd)(k:Fo)(hn:n.okTo aS)(ha16:n.attrs.length<=16)(hk:n.kind≠2)(hm:n.many=(k.count:Int))(ih:tc (rZ v en sp lb pb) k):rZ v en sp lb pb n k:=by
 intro p r er L s lk M nm hvd hed hL e1 e2 e3 hsp hlb hlk hpb ho l1 l2 l3 l4
 obtain⟨hx,hvd1,hp⟩:=dQ hvd
 have hat:=dG hx
 have hpi:(p:Int)<(v.length:Int):=by omega
 have hkb:((n.kind:Int)==2)=false:=beq_false_of_ne (by omega)
 obtain⟨heat,hpe⟩:=yU hed
 have hco:=fD n.attrs 82 [] (fun a=>!a.space.isEmpty) (fun a _ nm=>zw a nm) hn.1 rfl
 have hss:(s||bD (n::k.flat))=(((s || !n.space.isEmpty)||n.attrs.any fun a=>!a.space.isEmpty)||bD k.flat):=by simp[bD,gZ,Bool.or_assoc]
 rw[hss]
 clear hss
 have hLn:L.length<=2000:=by omega
 generalize hs1:(n.attrs.any fun a=>!a.space.isEmpty)=B at hco ⊢
 generalize hs2:((s || !n.space.isEmpty)||B)=S1
 have hw1:IntKind.i64.wrap ((p:Int)+1)=((p+1:Nat):Int):=aK
 have n1:=eq_false d1;have n2:=eq_false d2;have n3:=eq_false d3;have n4:=eq_false e1;have n5:=eq_false e2;have n6:=eq_false e3
 have n7:=eq_false (Ne.symm d1);have n8:=eq_false (Ne.symm d2);have n9:=eq_false (Ne.symm d3);have o4:=eq_false (Ne.symm e1);have o5:=eq_false (Ne.symm e2);have o6:=eq_false (Ne.symm e3)
 obtain⟨RAW,hr0,hr1,hrl⟩:∃ RAW:List (List V),(k.count=0->RAW=(L++(Fo.cons n k .nil).toks).map bv)/\(k.count≠0->RAW=(L++⟨1,n.name,aO n.attrs,[]⟩::k.toks).map bv++[[.int .u8 2,.str n.name,.nils,.str []]])/\fX RAW ((L++(Fo.cons n k .nil).toks).map bv):=by
  by_cases hk0:k.count=0
  ·exact⟨_,fun _=>rfl,fun h=>absurd hk0 h,fm _⟩
  ·refine⟨_,fun h=>absurd h hk0,fun _=>rfl,?_⟩
   have hm0:¬ n.many=0:=by rw[hm];simpa using hk0
   have htk:(Fo.cons n k .nil).toks=⟨1,n.name,aO n.attrs,[]⟩::(k.toks++[⟨2,n.name,[],[]⟩]):=by simp[Fo.toks,hk,hm0]
   rw[htk,show L++⟨1,n.name,aO n.attrs,[]⟩::(k.toks++[⟨2,n.name,[],[]⟩])=(L++⟨1,n.name,aO n.attrs,[]⟩::k.toks)++[⟨2,n.name,[],[]⟩] by simp,<- pp]
   refine j0 ?_
   rw[show bv ⟨2,n.name,[],[]⟩=[.int .u8 2,.str n.name,.sl false 2 [],.str []] from rfl]
   simp only[eK,dj,ej,iS,nD,b8,fX,and_self]
 refine Ev.last_le (eff:=[(lk,none),(sp,_),(lb,_),(pb,_)]) (k:=⟨4,RAW⟩) ?_ ⟨rfl,.inl rfl,hrl⟩
 clear hrl
 simp only[List.cons_append,List.nil_append]
 unfold Jq at hpb ⊢
 refine nk rfl call80 func80 rfl mixed (by kernel_rfl) rfl ?_;intro b0 hb0;have zF:=Ai results80 ntmps80
 have k1:=aY hb0 hsp
 have k2:=aY hb0 hlb
 have k3:=aY hb0 hlk
 have k4:=aY hb0 hpb
 have z0:=aZ k1
 have y0:=aZ k2
 have x0:=aZ k3
 have w0:=aZ k4
 repeat' first|simp only[aj,ag,zF,ap,hat,aG,hkb,hp,hpi,lV,hs2,hsp,hlb,hlk,hpb,ad,ae,aF,ax,n1,n2,n3,n4,n5,n6,n7,n8,n9,o4,o5,o6,z0,y0,x0,w0,Lo,Bt,Bf,Lm,ai,seval,ah]|exact rfl|refine aa (v:=.any) ?_|(first|(refine ac ?_ (hco _) ?_)|(refine ab ?_ (fun _=>hco _) ?_))|refine ee ?_|((first|apply Ca|apply Cb)<;>intro hb)|refine Ai (by omega) ?_|(apply Ai<;>intro hb)
 (refine ay bu (fun x:Nat=>n.attrs.length-x) (fun x=>x<=n.attrs.length) (b0+16) (fun x=>[(0,.int .i64 p),(3,.ptr lb 0 0),(4,.rp [.sl false 1 (en.map ff)]),(5,.ptr pb 0 0),(2,.ptr sp 0 0),(7,.ptr b0 0 0),(8,.ptr (b0+1) 0 0),(40,.sl false 3 (n.attrs.map bh)),(41,.int .i64 n.attrs.length),(42,.int .i64 x)]) (fun x=>[(b0,⟨6,[aG n]⟩),(b0+1,⟨4,[[.int .u8 3,.str n.name,.own (b0+2) 0 x,.str []]]⟩),(b0+2,⟨2,(aO (n.attrs.take x)).map eh⟩),(sp,⟨1,[[.bool S1]]⟩),(lb,⟨1,[[.own lk 0 L.length]]⟩),(lk,⟨4,L.map bv⟩),(pb,⟨1,[[.fn 80 [.rp [.sl false 6 (v.map aG)],.ptr sp 0 0,.ptr lb 0 0,.rp [.sl false 1 (en.map ff)],.ptr pb 0 0]]]⟩)]) (0) [some (b0+64),some (b0+384),none,some sp,some lb,some lk,some pb] ?_ ?_ ?_ ?_;rotate_left 1;(focus (show b0<=_;omega));(focus (refine⟨?_,?_⟩<;>(try simp only[aM,ad,aC,ax,ae,aF,qC,List.take_zero,Lo,aB,aG,hsp,hlb,hlk,hpb,n1,n2,n3,n4,n5,n6,n7,n8,n9,o4,o5,o6,z0,y0,x0,w0,Bool.and_self,Bool.and_false,Bool.false_and,Lm,ai,seval,ah,al])<;>(try omega)));rotate_left 1)
 ·exact Nat.zero_le _
 ·intro i hi
  by_cases hlt:i<n.attrs.length
  ·obtain⟨a,ha⟩:∃ a,n.attrs[i]? = some a:=⟨_,List.getElem?_eq_getElem hlt⟩
   have haa:=gN ha
   have q1:decide ((i:Int)<(n.attrs.length:Int))=true:=cn
   have q2:decide (i<n.attrs.length)=true:=decide_eq_true hlt
   have hwk:IntKind.i64.wrap ((i:Int)+1)=((i+1:Nat):Int):=aK
   have hpl:((aO (n.attrs.take i)).map eh).length=i:=by rw[Lm,iy,List.length_take];omega
   have hpl2:(aO (n.attrs.take i)).length=i:=by rw[iy,List.length_take];omega
   have htk:((aO (n.attrs.take i)).map eh).take i=(aO (n.attrs.take i)).map eh:=List.take_of_length_le (by omega)
   have hsn:=qB ha
   repeat' first|simp only[aj,ag,zF,ap,haa,bh,hlt,q1,q2,hwk,htk,hsn,hpl,hpl2,ax,n1,n2,n3,n4,n5,n6,n7,n8,n9,o4,o5,o6,z0,y0,x0,w0,Bt,Bf,Lm,ai,seval,ah]|exact rfl|refine aa (v:=.any) ?_|((first|apply Ca|apply Cb)<;>intro hb)|refine Ai (by omega) ?_|(apply Ai<;>intro hb)
   all_goals ((refine au bu (i+1) [some b0,some (b0+1),some (b0+224),some sp,some lb,some lk,some pb] ?_ ?_ ?_ ?_;rotate_left 2;(focus (show b0<=_;omega));(focus (refine⟨?_,?_⟩<;>(try simp only[aM,hwk,aG,ad,aC,ax,ae,aF,aB,n1,n2,n3,n4,n5,n6,n7,n8,n9,o4,o5,o6,z0,y0,x0,w0,Bool.and_self,Bool.and_false,Bool.false_and,Lm,ai,seval,ah,al])<;>(try omega)))))
   all_goals (first|(show n.attrs.length-(i+1)<n.attrs.length-i;omega)|exact hlt|skip)
  ·have hie:i=n.attrs.length:=by omega
   subst hie
   have q1:decide ((n.attrs.length:Int)<(n.attrs.length:Int))=false:=aR
   have q2:decide (n.attrs.length<n.attrs.length)=false:=aR
   have hpl:(aO n.attrs).length=n.attrs.length:=iy _
   have htk:((aO n.attrs).map eh).take n.attrs.length=(aO n.attrs).map eh:=List.take_of_length_le (by rw[Lm,hpl];omega)
   repeat' first|simp only[aj,ag,zF,ap,q1,q2,List.take_length,Lm,ai,seval,ah]|exact rfl|refine aa (v:=.any) ?_|((first|apply Ca|apply Cb)<;>intro hb)|refine Ai (by omega) ?_|(apply Ai<;>intro hb)
   (refine Dx bu (b0+16) ([(0,.int .i64 p),(3,.ptr lb 0 0),(4,.rp [.sl false 1 (en.map ff)]),(5,.ptr pb 0 0),(7,.ptr b0 0 0),(8,.ptr (b0+1) 0 0)]) ([(b0,⟨6,[aG n]⟩),(b0+1,⟨4,[bv ⟨3,n.name,aO n.attrs,[]⟩]⟩),(sp,⟨1,[[.bool S1]]⟩),(lb,⟨1,[[.own lk 0 L.length]]⟩),(lk,⟨4,L.map bv⟩),(pb,⟨1,[[.fn 80 [.rp [.sl false 6 (v.map aG)],.ptr sp 0 0,.ptr lb 0 0,.rp [.sl false 1 (en.map ff)],.ptr pb 0 0]]]⟩)]) [some b0,some (b0+1),some sp,some lb,some lk,some pb] ?_ ?_ ?_;(focus (show b0<=_;omega));(focus (refine⟨?_,?_⟩<;>(try simp only[aM,pI,htk,hpl,bv,aG,Nat.le_refl,or_true,ad,aC,ax,ae,aF,aB,aQ,List.take_length,n1,n2,n3,n4,n5,n6,n7,n8,n9,o4,o5,o6,z0,y0,x0,w0,Bool.and_self,Bool.and_false,Bool.false_and,Lm,ai,seval,ah,al])<;>(try omega))))
   have g1:(nm=sp)=False:=eq_false (by omega);have g2:(nm=lb)=False:=eq_false (by omega);have g3:(nm=pb)=False:=eq_false (by omega)
   have h3b:bv ⟨3,n.name,aO n.attrs,[]⟩=[.int .u8 3,.str n.name,.sl false 2 ((aO n.attrs).map eh),.str []]:=rfl
   have h1b:bv ⟨1,n.name,aO n.attrs,[]⟩=[.int .u8 1,.str n.name,.sl false 2 ((aO n.attrs).map eh),.str []]:=rfl
   by_cases hk0:k.count=0
   ·have hkz:(n.many==0)=true:=by rw[hm,hk0];rfl
    have hkn:k = .nil:=by
     cases k with
     | nil=>rfl
     | cons _ _ _=>simp[Fo.count]at hk0
    subst hkn
    have hm0:n.many=0:=by rw[hm,hk0];rfl
    have htk:(Fo.cons n .nil .nil).toks=[⟨3,n.name,aO n.attrs,[]⟩]:=by simp[Fo.toks,hk,hm0]
    rw[hr0 hk0,htk]
    have hsn:=pp L ⟨3,n.name,aO n.attrs,[]⟩
    have hll:(L++[(⟨3,n.name,aO n.attrs,[]⟩:Tk)]).length=L.length+1:=by simp
    have hsz:bD Fo.nil.flat=false:=rfl
    rw[<- hsn,hll,hsz,Bool.or_false,h3b]
    repeat' first|simp only[aj,ag,zF,ap,hkz,aG,h3b,qT,aF,ax,n1,n2,n3,n4,n5,n6,n7,n8,n9,o4,o5,o6,z0,y0,x0,w0,Bt,Bf,Lm,ai,seval,ah]|exact rfl|refine aa (v:=.any) ?_|((first|apply Ca|apply Cb)<;>intro hb)|refine Ai (by omega) ?_|(apply Ai<;>intro hb)
    all_goals ((refine Fin.give [(sp,none),(lb,none),(pb,none),(b0+112,some 0)] [lk] ?_ ?_ ?_ ?_ ?_ (bB ho (by simp[bg,tgt]))<;>(try simp only[zF,ap,hsp,hlb,hlk,hpb,g1,g2,g3,ad,aC,aF,ax,cg,n1,n2,n3,n4,n5,n6,n7,n8,n9,o4,o5,o6,z0,y0,x0,w0,Bool.and_self,Bool.and_false,Bool.false_and,Lm,jU,ai,seval,ah])<;>(try simp only[al])<;>(try omega)))
   ·have hkz:(n.many==0)=false:=by rw[hm];simp;exact hk0
    have hm0:¬ n.many=0:=by rw[hm];simpa using hk0
    have htk:(Fo.cons n k .nil).toks=⟨1,n.name,aO n.attrs,[]⟩::(k.toks++[⟨2,n.name,[],[]⟩]):=by simp[Fo.toks,hk,hm0]
    rw[htk]at hL ⊢
    have hL3:L.length+k.toks.length+2<=2000:=by simp at hL;omega
    have hfin:L++⟨1,n.name,aO n.attrs,[]⟩::(k.toks++[⟨2,n.name,[],[]⟩])=(L++⟨1,n.name,aO n.attrs,[]⟩::k.toks)++[⟨2,n.name,[],[]⟩]:=by simp
    rw[hr1 hk0,hfin,List.length_append]
    clear hr0 hr1
    have hsn:=pp L ⟨1,n.name,aO n.attrs,[]⟩
    have hll:(L++[(⟨1,n.name,aO n.attrs,[]⟩:Tk)]).length=L.length+1:=by simp
    rw[h1b]at hsn
    have hstp:∀(P:Prop),P->P:=fun _ h=>h
    obtain⟨hev1,hev2⟩:v.drop (p+1)=k.flat++r/\en.drop (p+1)=k.ends (p+1)++er:=by
     refine⟨hvd1,?_⟩
     have:=congrArg (List.drop 1) hed
     rw[List.drop_drop]at this;simpa using this
    repeat' first|simp only[aj,ag,zF,ap,hkz,aG,h3b,hsn,hw1,qT,aF,ax,n1,n2,n3,n4,n5,n6,n7,n8,n9,o4,o5,o6,z0,y0,x0,w0,Bt,Bf,Lm,ai,seval,ah]|exact rfl|refine aa (v:=.any) ?_|((first|apply Ca|apply Cb)<;>intro hb)|refine Ai (by omega) ?_|(apply Ai<;>intro hb)
    (refine ay bu (fun x:TkSt=>x.R.size) (fun x=>tc (rZ v en sp lb pb) x.R/\(∃ r',v.drop x.q=x.R.flat++r')/\(∃ er',en.drop x.q=x.R.ends x.q++er')/\x.q+x.R.size=p+1+k.size/\x.L++x.R.toks=L++⟨1,n.name,aO n.attrs,[]⟩::k.toks/\(x.s||bD x.R.flat)=(S1||bD k.flat)) (b0+16) (fun x=>[(0,.int .i64 p),(3,.ptr lb 0 0),(4,.rp [.sl false 1 (en.map ff)]),(5,.ptr pb 0 0),(7,.ptr b0 0 0),(11,.int .i64 x.q)]) (fun x=>[(b0,⟨6,[aG n]⟩),(sp,⟨1,[[.bool x.s]]⟩),(lb,⟨1,[[.own (b0+1) 0 x.L.length]]⟩),(b0+1,⟨4,x.L.map bv⟩),(pb,⟨1,[[.fn 80 [.rp [.sl false 6 (v.map aG)],.ptr sp 0 0,.ptr lb 0 0,.rp [.sl false 1 (en.map ff)],.ptr pb 0 0]]]⟩)]) (⟨k,p+1,L++[⟨1,n.name,aO n.attrs,[]⟩],S1⟩) [some b0,some sp,some lb,some (b0+144),some pb] ?_ ?_ ?_ ?_;rotate_left 1;(focus (show b0<=_;omega));(focus (refine⟨?_,?_⟩<;>(try simp only[aM,hll,h3b,aG,ad,aC,ax,ae,aF,n1,n2,n3,n4,n5,n6,n7,n8,n9,o4,o5,o6,z0,y0,x0,w0,Bool.and_self,Bool.and_false,Bool.false_and,Lm,ai,seval,ah,al])<;>(try omega)));rotate_left 1)
    ·exact⟨ih,⟨r,hev1⟩,⟨er,hev2⟩,rfl,by simp,rfl⟩
    ·rintro ⟨R,q,Lx,sx⟩ ⟨g1',⟨r',g2'⟩,⟨er',g3'⟩,g4',g5',g6'⟩
     dsimp only at g1' g2' g3' g4' g5' g6' ⊢
     cases R with
     | nil =>
      simp only[Fo.size,Nat.add_zero]at g4'
      subst g4'
      simp only[Fo.toks,List.append_nil]at g5'
      have hsz:bD Fo.nil.flat=false:=rfl
      rw[hsz,Bool.or_false]at g6'
      rw[<- g5',<- g6']
      have q1:decide (((p+1+k.size:Nat):Int)<((p+1+k.size:Nat):Int))=false:=aR
      have q2:decide (p+(1+k.size)<p+(1+k.size))=false:=aR
      have hLx:Lx.length<=2001:=by rw[g5'];simp;omega
      repeat' first|simp only[aj,ag,zF,ap,q1,q2,heat,ff,hpe,aG,qT,aF,n1,n2,n3,n4,n5,n6,n7,n8,n9,o4,o5,o6,z0,y0,x0,w0,Bt,Bf,Lm,ai,seval,ah]|exact rfl|refine aa (v:=.any) ?_|((first|apply Ca|apply Cb)<;>intro hb)|refine Ai (by omega) ?_|(apply Ai<;>intro hb)
      all_goals ((refine Fin.give [(sp,none),(lb,none),(pb,none),(b0+192,some 0)] [lk] ?_ ?_ ?_ ?_ ?_ (bB ho (by simp[bg,tgt]))<;>(try simp only[zF,ap,hsp,hlb,hlk,hpb,g1,g2,g3,ad,aC,aF,ax,cg,n1,n2,n3,n4,n5,n6,n7,n8,n9,o4,o5,o6,z0,y0,x0,w0,Bool.and_self,Bool.and_false,Bool.false_and,Lm,jU,ai,seval,ah])<;>(try simp only[al])<;>(try omega)))
     | cons u2 j2 R2 =>
      obtain⟨hp2,hr2⟩:=g1'
      have hd2:v.drop q=u2::(j2.flat++(R2.flat++r')):=by rw[g2'];simp[Fo.flat]
      have he2:en.drop q=(q+1+j2.size)::(j2.ends (q+1)++(R2.ends (q+1+j2.size)++er')):=by rw[g3'];simp[Fo.ends]
      have htk2:(Fo.cons u2 j2 R2).toks=(Fo.cons u2 j2 .nil).toks++R2.toks:=by simp[Fo.toks]
      have hsp2:bD (Fo.cons u2 j2 R2).flat=(bD (u2::j2.flat)||bD R2.flat):=by simp[bD,Fo.flat,Bool.or_assoc]
      rw[htk2,<- List.append_assoc]at g5'
      rw[hsp2,<- Bool.or_assoc]at g6'
      simp only[Fo.size]at g4'
      have hlen5:=congrArg List.length g5'
      simp only[List.length_append,List.length_cons]at hlen5
      obtain⟨heat2,hqe⟩:=yU he2
      have q1:decide ((q:Int)<((p+1+k.size:Nat):Int))=true:=cn
      have q2:decide (q<p+(1+k.size))=true:=cn
      have hcall:=fun (M':am) a1 a2 a3 a4 a5 (m:Nat) l1 l2 l3 l4=>hp2 q (R2.flat++r') (R2.ends (q+1+j2.size)++er') Lx sx (b0+1) M' m hd2 he2 (by omega) (by omega) (by omega) (by omega) a1 a2 a3 a4 a5 l1 l2 l3 l4
      unfold Jq at hcall
      have hd2':v.drop (q+1+j2.size)=R2.flat++r':=by
       have:=nh (v:=v) (p:=q) (a:=u2::j2.flat) (r:=R2.flat++r') (by rw[hd2];simp)
       rw[List.length_cons,Fo.flat_length]at this
       rw[show q+1+j2.size=q+(j2.size+1) by omega];exact this
      have he2':en.drop (q+1+j2.size)=R2.ends (q+1+j2.size)++er':=by
       have:=congrArg (List.drop (1+j2.size)) he2
       rw[List.drop_drop]at this
       rw[show q+1+j2.size=q+(1+j2.size) by omega,this,show 1+j2.size=(j2.ends (q+1)).length+1 by rw[Fo.ends_length];omega,List.drop_succ_cons,List.drop_left]
       rw[show q+((j2.ends (q+1)).length+1)=q+1+j2.size by rw[Fo.ends_length];omega]
      generalize hT:Lx++(Fo.cons u2 j2 .nil).toks=T at hcall g5'
      generalize hS:(sx||bD (u2::j2.flat))=S2 at hcall g6'
      repeat' first|simp only[aj,ag,zF,ap,q1,q2,heat,heat2,ff,hpe,hqe,aG,qT,aF,aI,n1,n2,n3,n4,n5,n6,n7,n8,n9,o4,o5,o6,z0,y0,x0,w0,Bt,Bf,Lm,ai,seval,ah]|exact rfl|refine aa (v:=.any) ?_|((refine cN (caps:=?_) ?_ ?_ [sp,lb,b0+1,pb] (hcall _ ?_ ?_ ?_ ?_ aP _ (by omega) (by omega) (by omega) (by omega)) ?_ ?_);rotate_left 1)|((first|apply Ca|apply Cb)<;>intro hb)|refine Ai (by omega) ?_|(apply Ai<;>intro hb)
      all_goals ((refine au bu (TkSt.mk R2 (q+1+j2.size) T S2) [some b0,some sp,some lb,some (b0+144),some pb] ?_ ?_ ?_ ?_;rotate_left 2;(focus (show b0<=_;omega));(focus (refine⟨?_,?_⟩<;>(try simp only[aM,aG,ad,aC,ax,ae,aF,n1,n2,n3,n4,n5,n6,n7,n8,n9,o4,o5,o6,z0,y0,x0,w0,Bool.and_self,Bool.and_false,Bool.false_and,Lm,ai,seval,ah,al])<;>(try omega)))))
      all_goals (first|(show R2.size<j2.size+R2.size+1;omega)|exact⟨hr2,⟨r',hd2'⟩,⟨er',he2'⟩,by show q+1+j2.size+R2.size=_;omega,g5',g6'⟩|skip)
def um (v:List Nd)(hv:v.length<=512)(hok:∀ n∈v,n.okTo aS/\n.i64)(en:List Nat)(hen:en.length=v.length)(sp lb pb:Nat)(d1:sp≠lb)(d2:sp≠pb)(d3:lb≠pb):∀(F:Fo) (d last:Nat),F.good d last=true->(∀ n∈F.flat,n∈v)->tc (rZ v en sp lb pb) F
 | .nil,_,_,_,_=>trivial
 | .cons n k r,d,last,h,hin=>by
  obtain⟨h1,h2,h3,h4,h5,h6⟩:=Fo.good_cons.1 h
  have hno:=hok n (hin n (by simp[Fo.flat]))
  refine⟨?_,um v hv hok en hen sp lb pb d1 d2 d3 r d n.kind h6 (fun x hx=>hin x (by simp[Fo.flat,hx]))⟩
  by_cases hk:n.kind=2
  ·exact D4 v hv en sp lb pb d1 d2 d3 n k hno.1 hk (Fo.text_leaf h hk)
  ·exact D3 v hv en hen sp lb pb d1 d2 d3 n k hno.1 (gD h1).1 hk h2 (um v hv hok en hen sp lb pb d1 d2 d3 k (d-1) 1 h5 (fun x hx=>hin x (by simp[Fo.flat,hx])))
def BW (v:List Nd)(hv:v.length<=aS)(hok:∀ n∈v,n.okTo aS/\n.i64)(h:bJ v=none)(nm:Nat):Ev cx 47 nm [.sl false 6 (v.map aG)] am.nil (.tup [.nils,.int .i64 8]) []:=by
 have hb:=jD v hv hok h
 refine aV call47 func47 rfl (by kernel_rfl) rfl ?_;intro b0 hb0
 (repeat' first|simp only[aj,ag,results47,ntmps47,ap,ad,ai,seval,ah]|exact rfl|refine aa (v:=.any) ?_|(first|(refine ac ?_ (hb _) ?_)|(refine ab ?_ (fun _=>hb _) ?_))|((first|apply Ca|apply Cb)<;>intro hb)|refine Ai (by omega) ?_|(apply Ai<;>intro hb)|refine Fin.pure ?_ ?_ ?_|simp only[al])
def lf (n:Nd)(k:Fo):Int:=if bD (n::k.flat)=true then 8 else if 512<(Fo.cons n k .nil).toks.length then 4 else 0
def qW (n:Nd)(k:Fo)(hk1:n.kind=1)(hg:(Fo.cons n k .nil).good 12 0=true)(hl:k.size+1<=512)(hok:∀ x∈n::k.flat,x.okTo aS/\x.i64)(r:V)(eff:List (Nat×Option Blk))(nm:Nat)
  (hr:(lf n k≠0/\r = .tup [.nils,.int .i64 (lf n k)]/\eff=[])\/(lf n k=0/\r = .tup [.own nm 0 (Fo.cons n k .nil).toks.length,.int .i64 0]/\eff=[(nm,some ⟨4,(Fo.cons n k .nil).toks.map bv⟩)])) :
  Ev cx 47 nm [.sl false 6 ((n::k.flat).map aG)] am.nil r eff:=by
 have hb:=jE (n::k.flat) (by simp[Fo.flat_length];unfold aS;omega) hok (r9 (Nat.le_refl _) hk1 hg hl)
 have htl:(Fo.cons n k .nil).toks.length<=1100:=by
  rw[Fo.toks_length hg]
  have:=List.length_filter_le (fun n:Nd=>decide (0<n.many)) (Fo.cons n k .nil).flat
  rw[Fo.flat_length]at this
  simp only[Fo.size]at this ⊢
  omega
 have hput:∀(sp lb pb:Nat),sp≠lb->sp≠pb->lb≠pb->rZ (n::k.flat) ((1+k.size)::k.ends 1) sp lb pb n k:=fun sp lb pb d1 d2 d3 =>
  (um (n::k.flat) (by simp[Fo.flat_length];omega) hok ((1+k.size)::k.ends 1) (by simp[Fo.flat_length,Fo.ends_length]) sp lb pb d1 d2 d3 (.cons n k .nil) 12 0 hg (fun x hx=>by simpa [Fo.flat] using hx)).1
 have hcall:=fun (sp lb pb lk:Nat) (d1:sp≠lb) (d2:sp≠pb) (d3:lb≠pb) (M:am) (m:Nat) e1 e2 e3 a1 a2 a3 a4 a5 l1 l2 l3 l4=>hput sp lb pb d1 d2 d3 0 [] [] [] false lk M m (by simp) (by simp) (by simp;omega) e1 e2 e3 a1 a2 a3 a4 a5 l1 l2 l3 l4
 clear hput
 simp only[List.nil_append,List.length_nil,Lo,Bool.false_or]at hcall
 have hne:(((1+k.size)::k.ends 1).map ff).isEmpty=false:=rfl
 unfold lf at hr
 have hev:((1+k.size)::k.ends 1).length=(n::k.flat).length:=by simp[Fo.flat_length,Fo.ends_length]
 generalize hV:n::k.flat=v at hb hcall hr hev ⊢
 generalize hEn:(1+k.size)::k.ends 1=en at hb hcall hne hev
 generalize (Fo.cons n k .nil).toks=T at htl hcall hr
 generalize bD v=S at hcall hr
 have hte:(en.map ff).take v.length=en.map ff:=List.take_of_length_le (by rw[Lm,hev];omega)
 have hlv:v.length<=en.length:=by omega
 have htt:(T.map bv).take T.length=T.map bv:=bF _ _
 unfold Jq at hcall
 clear hok hg
 refine nk rfl call47 func47 rfl mixed (by kernel_rfl) rfl ?_;intro b0 hb0;have zF:=Ai results47 ntmps47
 repeat' first|simp only[aj,ag,zF,ap,ai,seval,ah]|exact rfl|refine aa (v:=.any) ?_|((first|apply Ca|apply Cb)<;>intro hb)|refine Ai (by omega) ?_|(apply Ai<;>intro hb)
 (refine iV bu (b0+16) ([(1,.rp [.sl false 6 (v.map aG)]),(2,.ptr b0 0 0)]) ([(b0,⟨1,[[.nils]]⟩)]) [some (b0+16)] ?_ ?_ ?_;(focus (show b0<=_;omega));(focus (refine⟨?_,?_⟩<;>(try simp only[aM,pI,ad,aB,aQ,ai,seval,ah,al])<;>(try omega))))
 repeat' first|simp only[aj,ag,zF,ap,ad,ai,seval,ah]|exact rfl|refine aa (v:=.any) ?_|(refine jG ?_ (hb _) ?_ ?_)|omega|((first|apply Ca|apply Cb)<;>intro hb)|refine Ai (by omega) ?_|(apply Ai<;>intro hb)
 (refine iV bu (b0+16) ([(1,.rp [.sl false 6 (v.map aG)]),(2,.ptr b0 0 0),(4,.ptr (b0+1) 0 0)]) ([(b0,⟨1,[[.nils]]⟩),(b0+1,⟨1,[[.sl false 1 (en.map ff)]]⟩)]) [some b0,some (b0+48)] ?_ ?_ ?_;(focus (show b0<=_;omega));(focus (refine⟨?_,?_⟩<;>(try simp only[aM,pI,hte,hlv,or_true,ad,aC,aB,aQ,Lm,ai,seval,ah,al])<;>(try omega))))
 repeat' first|simp only[aj,ag,zF,ap,hne,ad,aC,ai,seval,ah]|exact rfl|refine aa (v:=.any) ?_|((first|apply Ca|apply Cb)<;>intro hb)|refine Ai (by omega) ?_|(apply Ai<;>intro hb)
 ·cases hb
 (refine iV bu (b0+16) ([(1,.rp [.sl false 6 (v.map aG)]),(2,.ptr b0 0 0),(4,.rp [.sl false 1 (en.map ff)])]) ([(b0,⟨1,[[.nils]]⟩)]) [some b0] ?_ ?_ ?_;(focus (show b0<=_;omega));(focus (refine⟨?_,?_⟩<;>(try simp only[aM,pI,ad,aC,aB,aQ,Lm,ai,seval,ah,al])<;>(try omega))))
 repeat' first|simp only[aj,ag,zF,ap,ad,aC,ai,seval,ah]|exact rfl|refine aa (v:=.any) ?_|((first|apply Ca|apply Cb)<;>intro hb)|refine Ai (by omega) ?_|(apply Ai<;>intro hb)
 refine ee ?_
 repeat' first|simp only[aj,ag,zF,ap,ad,aC,ai,seval,ah]|exact rfl|refine aa (v:=.any) ?_|((first|apply Ca|apply Cb)<;>intro hb)|refine Ai (by omega) ?_|(apply Ai<;>intro hb)
 refine ee ?_
 repeat' first|simp only[aj,ag,zF,ap,ad,aC,ai,seval,ah]|exact rfl|refine aa (v:=.any) ?_|((first|apply Ca|apply Cb)<;>intro hb)|refine Ai (by omega) ?_|(apply Ai<;>intro hb)
 (refine mu bu (b0+16) ([(2,.ptr b0 0 0),(5,.ptr (b0+1) 0 0),(6,.ptr (b0+2) 0 0)]) ([(b0,⟨1,[[.own (b0+3) 0 0]]⟩),(b0+1,⟨1,[[.bool false]]⟩),(b0+2,⟨1,[[.fn 80 [.rp [.sl false 6 (v.map aG)],.ptr (b0+1) 0 0,.ptr b0 0 0,.rp [.sl false 1 (en.map ff)],.ptr (b0+2) 0 0]]]⟩),(b0+3,⟨4,[]⟩)]) [some b0,some (b0+16),some (b0+48),none] ?_ ?_ ?_;(focus (show b0<=_;omega));(focus (refine⟨?_,?_⟩<;>(try simp only[aM,ad,aC,aB,aQ,Bool.and_self,Bool.and_false,Bool.false_and,Lm,ai,seval,ah,al])<;>(try omega))))
 cases S with
 | true =>
  have hre:r = .tup [.nils,.int .i64 8]/\eff=[]:=by
   rcases hr with ⟨_,h⟩|⟨h,_⟩
   ·exact h
   ·simp at h
  obtain⟨rfl,rfl⟩:=hre
  repeat' first|simp only[aj,ag,zF,ap,ad,aC,aF,aI,ai,seval,ah]|exact rfl|refine aa (v:=.any) ?_|((refine cN (caps:=?_) ?_ ?_ [b0+1,b0,b0+3,b0+2] (hcall (b0+1) b0 (b0+2) (b0+3) (by omega) (by omega) (by omega) _ _ (by omega) (by omega) (by omega) ?_ ?_ ?_ ?_ aP (by omega) (by omega) (by omega) (by omega)) ?_ ?_);rotate_left 1)|((first|apply Ca|apply Cb)<;>intro hb)|refine Ai (by omega) ?_|(apply Ai<;>intro hb)
  all_goals ((refine Fin.pure ?_ ?_ ?_<;>simp only[ap,ad,zF,ai,seval,ah]))
 | false =>
  by_cases h5:512<T.length
  ·have hre:r = .tup [.nils,.int .i64 4]/\eff=[]:=by
    rcases hr with ⟨_,h⟩|⟨h,_⟩
    ·simpa [h5] using h
    ·simp[h5]at h
   obtain⟨rfl,rfl⟩:=hre
   have q1:decide ((512:Int)<(T.length:Int))=true:=cn
   have q2:decide (512<T.length)=true:=decide_eq_true h5
   repeat' first|simp only[aj,ag,zF,ap,q1,q2,ad,aC,aF,aI,ai,seval,ah]|exact rfl|refine aa (v:=.any) ?_|((refine cN (caps:=?_) ?_ ?_ [b0+1,b0,b0+3,b0+2] (hcall (b0+1) b0 (b0+2) (b0+3) (by omega) (by omega) (by omega) _ _ (by omega) (by omega) (by omega) ?_ ?_ ?_ ?_ aP (by omega) (by omega) (by omega) (by omega)) ?_ ?_);rotate_left 1)|((first|apply Ca|apply Cb)<;>intro hb)|refine Ai (by omega) ?_|(apply Ai<;>intro hb)
   all_goals ((refine Fin.pure ?_ ?_ ?_<;>simp only[ap,ad,zF,ai,seval,ah]))
  ·have hre:r = .tup [.own nm 0 T.length,.int .i64 0]/\eff=[(nm,some ⟨4,T.map bv⟩)]:=by
    rcases hr with ⟨h,_⟩|⟨_,h⟩
    ·simp[h5]at h
    ·exact h
   obtain⟨rfl,rfl⟩:=hre
   have q1:decide ((512:Int)<(T.length:Int))=false:=aR
   have q2:decide (512<T.length)=false:=decide_eq_false h5
   repeat' first|simp only[aj,ag,zF,ap,q1,q2,ad,aC,aF,aI,ai,seval,ah]|exact rfl|refine aa (v:=.any) ?_|((refine cN (caps:=?_) ?_ ?_ [b0+1,b0,b0+3,b0+2] (hcall (b0+1) b0 (b0+2) (b0+3) (by omega) (by omega) (by omega) _ _ (by omega) (by omega) (by omega) ?_ ?_ ?_ ?_ aP (by omega) (by omega) (by omega) (by omega)) ?_ ?_);rotate_left 1)|((first|apply Ca|apply Cb)<;>intro hb)|refine Ai (by omega) ?_|(apply Ai<;>intro hb)
   all_goals ((refine Fin.give [(b0+32,some 0)] [] ?_ ?_ ?_ ?_ ?_ (bB mF (by simp[bg,tgt]))<;>(try simp only[zF,ap,aF,Lm,jU,ai,seval,ah])<;>(try simp only[al])<;>(try omega)))
def oC (v:List Nd):V:=.sl false 6 (v.map aG)
end Go.Proofs.YtlnlopnpcmahgaaGreatDoor
