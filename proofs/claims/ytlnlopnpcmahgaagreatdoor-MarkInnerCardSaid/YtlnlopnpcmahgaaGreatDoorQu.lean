/-
 Texts joined: XSl,XSm,XSn,XSo.
-/
import Derived.Test.YtlnlopnpcmahgaaGreatDoorQt
set_option linter.all false
namespace Go.Proofs.YtlnlopnpcmahgaaGreatDoor
set_option maxRecDepth 100000
set_option maxHeartbeats 32000000
open Go Go.RowKit Vm Go.Lib Tryz
open Vm renaming aW->Ca,bf->Cb
open And renaming intro->Ai
open List renaming length_map->Lm,not_mem_nil->Ln,map_nil->Lo,map_cons->Lc,mem_cons->Lk
open Bool renaming not_false->Bf,not_true->Bt
def E1 (a:At)(nm:Nat):Ev cx 82 nm [.agg (b9 a)] am.nil (.bool (!a.space.isEmpty)) []:=by
 refine bh call82 func82 rfl (by kernel_rfl) rfl ?_;intro b0 hb0
 (repeat' first|simp only[ak,ag,results82,ntmps82,al,b9,px,ai,seval,ah]|exact rfl|refine aa (v:=.any) ?_|((first|apply Ca|apply Cb)<;>intro hb)|refine Ai (by omega) ?_|(apply Ai<;>intro hb)|refine Fin.pure ?_ ?_ ?_|simp only[ap])
def Md (P:Nd->Fo->Prop):Fo->Prop
 | .nil=>True
 | .cons n k r=>P n k/\Md P r
def Q6 (v:List Nd)(en:List Nat)(sp lb pb:Nat):V:=.fn 80 [.rp [.sl false 6 (v.map aV)],.ptr sp 0 0,.ptr lb 0 0,.rp [.sl false 1 (en.map cQ)],.ptr pb 0 0]
def vP (v:List Nd)(en:List Nat)(sp lb pb:Nat)(n:Nd)(k:Fo):Prop :=
  ∀(p:Nat) (r:List Nd) (er:List Nat) (L:List Tk) (s:Bool) (lk:Nat) (M:am) (nm:Nat),v.drop p=n::(k.flat++r)->en.drop p=(p+1+k.size)::(k.ends (p+1)++er)->L.length+(Fo.cons n k .nil).toks.length<=2000 ->
    sp≠lk->lb≠lk->pb≠lk->M sp=some ⟨1,[[.bool s]]⟩->M lb=some ⟨1,[[.own lk 0 L.length]]⟩->M lk=some ⟨4,L.map bE⟩->M pb=some ⟨1,[[Q6 v en sp lb pb]]⟩->(∀ z,(M z).isSome=true->z∈[sp,lb,lk,pb])->sp<nm->lb<nm->lk<nm->pb<nm ->
    Ev cx 80 nm [.int .i64 p,.rp [.sl false 6 (v.map aV)],.ptr sp 0 0,.ptr lb 0 0,.rp [.sl false 1 (en.map cQ)],.ptr pb 0 0] M (.tup [])
      [(lk,none),(sp,some ⟨1,[[.bool (s||cU (n::k.flat))]]⟩),(lb,some ⟨1,[[.own nm 0 (L++(Fo.cons n k .nil).toks).length]]⟩),(pb,some ⟨1,[[Q6 v en sp lb pb]]⟩),(nm,some ⟨4,(L++(Fo.cons n k .nil).toks).map bE⟩)]
structure TkSt where
 R:Fo
 q:Nat
 L:List Tk
 s:Bool
def uR (l:List Tk):(l.map bE).take l.length=l.map bE:=bz _ _
def sP (l:List Tk)(t:Tk):l.map bE++[bE t]=(l++[t]).map bE:=by simp
def Da {l:List At}{k:Nat}{a:At}(h:l[k]? = some a):(br (l.take k)).map c7++[[.str a.name,.str a.value]]=(br (l.take (k+1))).map c7:=by
 obtain⟨hk,rfl⟩:=List.getElem?_eq_some_iff.1 h
 unfold br
 rw[List.take_succ_eq_append_getElem hk,List.map_append,List.map_append];rfl
def Db:br []=[]:=rfl
def rn (l:List At):(br l).length=l.length:=by simp[br]
def Eb {en:List Nat}{p e:Nat}{r:List Nat}(h:en.drop p=e::r):(en.map cQ)[p]? = some (cQ e)/\p<en.length:=by
 have h1:en[p]? = some e:=by have:=congrArg (·[0]?) h;simpa using this
 exact⟨by rw[List.getElem?_map,h1];rfl,(List.getElem?_eq_some_iff.1 h1).1⟩
def KT (v:List Nd)(hv:v.length<=512)(en:List Nat)(sp lb pb:Nat)(d1:sp≠lb)(d2:sp≠pb)(d3:lb≠pb)(n:Nd)(k:Fo)(hn:n.okTo bc)(hk:n.kind=2)(hk0:k = .nil):vP v en sp lb pb n k:=by
 subst hk0
 intro p r er L s lk M nm hvd hed hL e1 e2 e3 hsp hlb hlk hpb ho l1 l2 l3 l4
 obtain⟨hx,_,hp⟩:=eS hvd
 have hat:=iL hx
 have hpi:(p:Int)<(v.length:Int):=by omega
 have hkb:((n.kind:Int)==2)=true:=by rw[hk];rfl
 have hco:=eg n.attrs 82 [] (fun a=>!a.space.isEmpty) (fun a _ nm=>E1 a nm) hn.1 rfl
 have htk:(Fo.cons n .nil .nil).toks=[⟨4,[],[],n.text⟩]:=by simp[Fo.toks,hk]
 have hss:(s||cU (n::Fo.nil.flat))=((s || !n.space.isEmpty)||n.attrs.any fun a=>!a.space.isEmpty):=by simp[cU,yE,Fo.flat,Bool.or_assoc]
 rw[htk]at hL ⊢
 rw[hss]
 have hLn:L.length<=2000:=by simp at hL;omega
 generalize (n.attrs.any fun a=>!a.space.isEmpty)=B at hco ⊢
 have hsn:=sP L ⟨4,[],[],n.text⟩
 have hll:(L++[(⟨4,[],[],n.text⟩:Tk)]).length=L.length+1:=by simp
 rw[<- hsn,hll]
 refine Ev.last_le (eff:=[(lk,none),(sp,_),(lb,_),(pb,_)]) (k:=⟨4,L.map bE++[[.int .u8 4,.str [],.nils,.str n.text]]⟩) ?_ ⟨rfl,.inl rfl,m8 (by rw[show bE ⟨4,[],[],n.text⟩=[.int .u8 4,.str [],.sl false 2 [],.str n.text] from rfl];simp only[gw,dZ,fj,jG,re,bL,gR,and_self])⟩
 have g1:(nm=sp)=False:=eq_false (by omega);have g2:(nm=lb)=False:=eq_false (by omega);have g3:(nm=pb)=False:=eq_false (by omega)
 unfold Q6 at hpb ⊢
 simp only[List.cons_append,List.nil_append]
 have n1:=eq_false d1;have n2:=eq_false d2;have n3:=eq_false d3;have n4:=eq_false e1;have n5:=eq_false e2;have n6:=eq_false e3
 have n7:=eq_false (Ne.symm d1);have n8:=eq_false (Ne.symm d2);have n9:=eq_false (Ne.symm d3);have o4:=eq_false (Ne.symm e1);have o5:=eq_false (Ne.symm e2);have o6:=eq_false (Ne.symm e3)
 refine bh call80 func80 rfl (by kernel_rfl) rfl ?_;intro b0 hb0
 have k1:=aB hb0 hsp
 have k2:=aB hb0 hlb
 have k3:=aB hb0 hlk
 have k4:=aB hb0 hpb
 have z0:=aD k1
 have y0:=aD k2
 have x0:=aD k3
 have w0:=aD k4
 repeat' first|simp only[ak,ag,results80,ntmps80,al,hat,aV,bE,hkb,hp,hpi,px,hsp,hlb,hlk,hpb,uR,ad,aq,aE,ay,n1,n2,n3,n4,n5,n6,n7,n8,n9,o4,o5,o6,z0,y0,x0,w0,Lo,Bt,Bf,Lm,ai,seval,ah]|exact rfl|refine aa (v:=.any) ?_|(first|(refine ae ?_ (hco _) ?_)|(refine ab ?_ (fun _=>hco _) ?_))|((first|apply Ca|apply Cb)<;>intro hb)|refine Ai (by omega) ?_|(apply Ai<;>intro hb)
 all_goals ((refine Fin.give [(sp,none),(lb,none),(pb,none),(b0+416,some 0)] [lk] ?_ ?_ ?_ ?_ ?_ (aL ho (by simp[aP,tgt]))<;>(try simp only[results80,ntmps80,al,hsp,hlb,hlk,hpb,bE,g1,g2,g3,ad,aH,aE,bD,Lo,n1,n2,n3,n4,n5,n6,n7,n8,n9,o4,o5,o6,z0,y0,x0,w0,Bool.and_self,Bool.and_false,Bool.false_and,Lm,dx,ai,seval,ah])<;>(try simp only[ap])<;>(try omega)))
def KR (v:List Nd)(hv:v.length<=512)(en:List Nat)(hen:en.length=v.length)(sp lb pb:Nat)(d1:sp≠lb)(d2:sp≠pb)(d3:lb≠pb)(n:Nd)(k:Fo)(hn:n.okTo bc)(ha16:n.attrs.length<=16)(hk:n.kind≠2)(hm:n.many=(k.count:Int))(ih:Md (vP v en sp lb pb) k):vP v en sp lb pb n k:=by
 intro p r er L s lk M nm hvd hed hL e1 e2 e3 hsp hlb hlk hpb ho l1 l2 l3 l4
 obtain⟨hx,hvd1,hp⟩:=eS hvd
 have hat:=iL hx
 have hpi:(p:Int)<(v.length:Int):=by omega
 have hkb:((n.kind:Int)==2)=false:=beq_false_of_ne (by omega)
 obtain⟨heat,hpe⟩:=Eb hed
 have hco:=eg n.attrs 82 [] (fun a=>!a.space.isEmpty) (fun a _ nm=>E1 a nm) hn.1 rfl
 have hss:(s||cU (n::k.flat))=(((s || !n.space.isEmpty)||n.attrs.any fun a=>!a.space.isEmpty)||cU k.flat):=by simp[cU,yE,Bool.or_assoc]
 rw[hss]
 clear hss
 have hLn:L.length<=2000:=by omega
 generalize hs1:(n.attrs.any fun a=>!a.space.isEmpty)=B at hco ⊢
 generalize hs2:((s || !n.space.isEmpty)||B)=S1
 have hw1:IntKind.i64.wrap ((p:Int)+1)=((p+1:Nat):Int):=bd
 have n1:=eq_false d1;have n2:=eq_false d2;have n3:=eq_false d3;have n4:=eq_false e1;have n5:=eq_false e2;have n6:=eq_false e3
 have n7:=eq_false (Ne.symm d1);have n8:=eq_false (Ne.symm d2);have n9:=eq_false (Ne.symm d3);have o4:=eq_false (Ne.symm e1);have o5:=eq_false (Ne.symm e2);have o6:=eq_false (Ne.symm e3)
 obtain⟨RAW,hr0,hr1,hrl⟩:∃ RAW:List (List V),(k.count=0->RAW=(L++(Fo.cons n k .nil).toks).map bE)/\(k.count≠0->RAW=(L++⟨1,n.name,br n.attrs,[]⟩::k.toks).map bE++[[.int .u8 2,.str n.name,.nils,.str []]])/\gR RAW ((L++(Fo.cons n k .nil).toks).map bE):=by
  by_cases hk0:k.count=0
  ·exact⟨_,fun _=>rfl,fun h=>absurd hk0 h,nQ _⟩
  ·refine⟨_,fun h=>absurd h hk0,fun _=>rfl,?_⟩
   have hm0:¬ n.many=0:=by rw[hm];simpa using hk0
   have htk:(Fo.cons n k .nil).toks=⟨1,n.name,br n.attrs,[]⟩::(k.toks++[⟨2,n.name,[],[]⟩]):=by simp[Fo.toks,hk,hm0]
   rw[htk,show L++⟨1,n.name,br n.attrs,[]⟩::(k.toks++[⟨2,n.name,[],[]⟩])=(L++⟨1,n.name,br n.attrs,[]⟩::k.toks)++[⟨2,n.name,[],[]⟩] by simp,<- sP]
   refine m8 ?_
   rw[show bE ⟨2,n.name,[],[]⟩=[.int .u8 2,.str n.name,.sl false 2 [],.str []] from rfl]
   simp only[gw,dZ,fj,jG,re,bL,gR,and_self]
 refine Ev.last_le (eff:=[(lk,none),(sp,_),(lb,_),(pb,_)]) (k:=⟨4,RAW⟩) ?_ ⟨rfl,.inl rfl,hrl⟩
 clear hrl
 simp only[List.cons_append,List.nil_append]
 unfold Q6 at hpb ⊢
 refine lC rfl call80 func80 rfl mixed (by kernel_rfl) rfl ?_;intro b0 hb0;have zF:=Ai results80 ntmps80
 have k1:=aB hb0 hsp
 have k2:=aB hb0 hlb
 have k3:=aB hb0 hlk
 have k4:=aB hb0 hpb
 have z0:=aD k1
 have y0:=aD k2
 have x0:=aD k3
 have w0:=aD k4
 repeat' first|simp only[ak,ag,zF,al,hat,aV,hkb,hp,hpi,px,hs2,hsp,hlb,hlk,hpb,ad,aq,aE,ay,n1,n2,n3,n4,n5,n6,n7,n8,n9,o4,o5,o6,z0,y0,x0,w0,Lo,Bt,Bf,Lm,ai,seval,ah]|exact rfl|refine aa (v:=.any) ?_|(first|(refine ae ?_ (hco _) ?_)|(refine ab ?_ (fun _=>hco _) ?_))|refine ct ?_|((first|apply Ca|apply Cb)<;>intro hb)|refine Ai (by omega) ?_|(apply Ai<;>intro hb)
 (refine aQ bM (fun x:Nat=>n.attrs.length-x) (fun x=>x<=n.attrs.length) (b0+16) (fun x=>[(0,.int .i64 p),(3,.ptr lb 0 0),(4,.rp [.sl false 1 (en.map cQ)]),(5,.ptr pb 0 0),(2,.ptr sp 0 0),(7,.ptr b0 0 0),(8,.ptr (b0+1) 0 0),(40,.sl false 3 (n.attrs.map b9)),(41,.int .i64 n.attrs.length),(42,.int .i64 x)]) (fun x=>[(b0,⟨6,[aV n]⟩),(b0+1,⟨4,[[.int .u8 3,.str n.name,.own (b0+2) 0 x,.str []]]⟩),(b0+2,⟨2,(br (n.attrs.take x)).map c7⟩),(sp,⟨1,[[.bool S1]]⟩),(lb,⟨1,[[.own lk 0 L.length]]⟩),(lk,⟨4,L.map bE⟩),(pb,⟨1,[[.fn 80 [.rp [.sl false 6 (v.map aV)],.ptr sp 0 0,.ptr lb 0 0,.rp [.sl false 1 (en.map cQ)],.ptr pb 0 0]]]⟩)]) (0) [some (b0+64),some (b0+384),none,some sp,some lb,some lk,some pb] ?_ ?_ ?_ ?_;rotate_left 1;(focus (show b0<=_;omega));(focus (refine⟨?_,?_⟩<;>(try simp only[aX,ad,aH,ay,aq,aE,Db,List.take_zero,Lo,aJ,aV,hsp,hlb,hlk,hpb,n1,n2,n3,n4,n5,n6,n7,n8,n9,o4,o5,o6,z0,y0,x0,w0,Bool.and_self,Bool.and_false,Bool.false_and,Lm,ai,seval,ah,ap])<;>(try omega)));rotate_left 1)
 ·exact Nat.zero_le _
 ·intro i hi
  by_cases hlt:i<n.attrs.length
  ·obtain⟨a,ha⟩:∃ a,n.attrs[i]? = some a:=⟨_,List.getElem?_eq_getElem hlt⟩
   have haa:=vS ha
   have q1:decide ((i:Int)<(n.attrs.length:Int))=true:=bR
   have q2:decide (i<n.attrs.length)=true:=decide_eq_true hlt
   have hwk:IntKind.i64.wrap ((i:Int)+1)=((i+1:Nat):Int):=bd
   have hpl:((br (n.attrs.take i)).map c7).length=i:=by rw[Lm,rn,List.length_take];omega
   have hpl2:(br (n.attrs.take i)).length=i:=by rw[rn,List.length_take];omega
   have htk:((br (n.attrs.take i)).map c7).take i=(br (n.attrs.take i)).map c7:=List.take_of_length_le (by omega)
   have hsn:=Da ha
   repeat' first|simp only[ak,ag,zF,al,haa,b9,hlt,q1,q2,hwk,htk,hsn,hpl,hpl2,ay,n1,n2,n3,n4,n5,n6,n7,n8,n9,o4,o5,o6,z0,y0,x0,w0,Bt,Bf,Lm,ai,seval,ah]|exact rfl|refine aa (v:=.any) ?_|((first|apply Ca|apply Cb)<;>intro hb)|refine Ai (by omega) ?_|(apply Ai<;>intro hb)
   all_goals ((refine aC bM (i+1) [some b0,some (b0+1),some (b0+224),some sp,some lb,some lk,some pb] ?_ ?_ ?_ ?_;rotate_left 2;(focus (show b0<=_;omega));(focus (refine⟨?_,?_⟩<;>(try simp only[aX,hwk,aV,ad,aH,ay,aq,aE,aJ,n1,n2,n3,n4,n5,n6,n7,n8,n9,o4,o5,o6,z0,y0,x0,w0,Bool.and_self,Bool.and_false,Bool.false_and,Lm,ai,seval,ah,ap])<;>(try omega)))))
   all_goals (first|(show n.attrs.length-(i+1)<n.attrs.length-i;omega)|exact hlt|skip)
  ·have hie:i=n.attrs.length:=by omega
   subst hie
   have q1:decide ((n.attrs.length:Int)<(n.attrs.length:Int))=false:=bm
   have q2:decide (n.attrs.length<n.attrs.length)=false:=bm
   have hpl:(br n.attrs).length=n.attrs.length:=rn _
   have htk:((br n.attrs).map c7).take n.attrs.length=(br n.attrs).map c7:=List.take_of_length_le (by rw[Lm,hpl];omega)
   repeat' first|simp only[ak,ag,zF,al,q1,q2,List.take_length,Lm,ai,seval,ah]|exact rfl|refine aa (v:=.any) ?_|((first|apply Ca|apply Cb)<;>intro hb)|refine Ai (by omega) ?_|(apply Ai<;>intro hb)
   (refine JU bM (b0+16) ([(0,.int .i64 p),(3,.ptr lb 0 0),(4,.rp [.sl false 1 (en.map cQ)]),(5,.ptr pb 0 0),(7,.ptr b0 0 0),(8,.ptr (b0+1) 0 0)]) ([(b0,⟨6,[aV n]⟩),(b0+1,⟨4,[bE ⟨3,n.name,br n.attrs,[]⟩]⟩),(sp,⟨1,[[.bool S1]]⟩),(lb,⟨1,[[.own lk 0 L.length]]⟩),(lk,⟨4,L.map bE⟩),(pb,⟨1,[[.fn 80 [.rp [.sl false 6 (v.map aV)],.ptr sp 0 0,.ptr lb 0 0,.rp [.sl false 1 (en.map cQ)],.ptr pb 0 0]]]⟩)]) [some b0,some (b0+1),some sp,some lb,some lk,some pb] ?_ ?_ ?_;(focus (show b0<=_;omega));(focus (refine⟨?_,?_⟩<;>(try simp only[aX,iW,htk,hpl,bE,aV,Nat.le_refl,or_true,ad,aH,ay,aq,aE,aJ,cM,List.take_length,n1,n2,n3,n4,n5,n6,n7,n8,n9,o4,o5,o6,z0,y0,x0,w0,Bool.and_self,Bool.and_false,Bool.false_and,Lm,ai,seval,ah,ap])<;>(try omega))))
   have g1:(nm=sp)=False:=eq_false (by omega);have g2:(nm=lb)=False:=eq_false (by omega);have g3:(nm=pb)=False:=eq_false (by omega)
   have h3b:bE ⟨3,n.name,br n.attrs,[]⟩=[.int .u8 3,.str n.name,.sl false 2 ((br n.attrs).map c7),.str []]:=rfl
   have h1b:bE ⟨1,n.name,br n.attrs,[]⟩=[.int .u8 1,.str n.name,.sl false 2 ((br n.attrs).map c7),.str []]:=rfl
   by_cases hk0:k.count=0
   ·have hkz:(n.many==0)=true:=by rw[hm,hk0];rfl
    have hkn:k = .nil:=by
     cases k with
     | nil=>rfl
     | cons _ _ _=>simp[Fo.count]at hk0
    subst hkn
    have hm0:n.many=0:=by rw[hm,hk0];rfl
    have htk:(Fo.cons n .nil .nil).toks=[⟨3,n.name,br n.attrs,[]⟩]:=by simp[Fo.toks,hk,hm0]
    rw[hr0 hk0,htk]
    have hsn:=sP L ⟨3,n.name,br n.attrs,[]⟩
    have hll:(L++[(⟨3,n.name,br n.attrs,[]⟩:Tk)]).length=L.length+1:=by simp
    have hsz:cU Fo.nil.flat=false:=rfl
    rw[<- hsn,hll,hsz,Bool.or_false,h3b]
    repeat' first|simp only[ak,ag,zF,al,hkz,aV,h3b,uR,aE,ay,n1,n2,n3,n4,n5,n6,n7,n8,n9,o4,o5,o6,z0,y0,x0,w0,Bt,Bf,Lm,ai,seval,ah]|exact rfl|refine aa (v:=.any) ?_|((first|apply Ca|apply Cb)<;>intro hb)|refine Ai (by omega) ?_|(apply Ai<;>intro hb)
    all_goals ((refine Fin.give [(sp,none),(lb,none),(pb,none),(b0+112,some 0)] [lk] ?_ ?_ ?_ ?_ ?_ (aL ho (by simp[aP,tgt]))<;>(try simp only[zF,al,hsp,hlb,hlk,hpb,g1,g2,g3,ad,aH,aE,ay,bD,n1,n2,n3,n4,n5,n6,n7,n8,n9,o4,o5,o6,z0,y0,x0,w0,Bool.and_self,Bool.and_false,Bool.false_and,Lm,dx,ai,seval,ah])<;>(try simp only[ap])<;>(try omega)))
   ·have hkz:(n.many==0)=false:=by rw[hm];simp;exact hk0
    have hm0:¬ n.many=0:=by rw[hm];simpa using hk0
    have htk:(Fo.cons n k .nil).toks=⟨1,n.name,br n.attrs,[]⟩::(k.toks++[⟨2,n.name,[],[]⟩]):=by simp[Fo.toks,hk,hm0]
    rw[htk]at hL ⊢
    have hL3:L.length+k.toks.length+2<=2000:=by simp at hL;omega
    have hfin:L++⟨1,n.name,br n.attrs,[]⟩::(k.toks++[⟨2,n.name,[],[]⟩])=(L++⟨1,n.name,br n.attrs,[]⟩::k.toks)++[⟨2,n.name,[],[]⟩]:=by simp
    rw[hr1 hk0,hfin,List.length_append]
    clear hr0 hr1
    have hsn:=sP L ⟨1,n.name,br n.attrs,[]⟩
    have hll:(L++[(⟨1,n.name,br n.attrs,[]⟩:Tk)]).length=L.length+1:=by simp
    rw[h1b]at hsn
    have hstp:∀(P:Prop),P->P:=fun _ h=>h
    obtain⟨hev1,hev2⟩:v.drop (p+1)=k.flat++r/\en.drop (p+1)=k.ends (p+1)++er:=by
     refine⟨hvd1,?_⟩
     have:=congrArg (List.drop 1) hed
     rw[List.drop_drop]at this;simpa using this
    repeat' first|simp only[ak,ag,zF,al,hkz,aV,h3b,hsn,hw1,uR,aE,ay,n1,n2,n3,n4,n5,n6,n7,n8,n9,o4,o5,o6,z0,y0,x0,w0,Bt,Bf,Lm,ai,seval,ah]|exact rfl|refine aa (v:=.any) ?_|((first|apply Ca|apply Cb)<;>intro hb)|refine Ai (by omega) ?_|(apply Ai<;>intro hb)
    (refine aQ bM (fun x:TkSt=>x.R.size) (fun x=>Md (vP v en sp lb pb) x.R/\(∃ r',v.drop x.q=x.R.flat++r')/\(∃ er',en.drop x.q=x.R.ends x.q++er')/\x.q+x.R.size=p+1+k.size/\x.L++x.R.toks=L++⟨1,n.name,br n.attrs,[]⟩::k.toks/\(x.s||cU x.R.flat)=(S1||cU k.flat)) (b0+16) (fun x=>[(0,.int .i64 p),(3,.ptr lb 0 0),(4,.rp [.sl false 1 (en.map cQ)]),(5,.ptr pb 0 0),(7,.ptr b0 0 0),(11,.int .i64 x.q)]) (fun x=>[(b0,⟨6,[aV n]⟩),(sp,⟨1,[[.bool x.s]]⟩),(lb,⟨1,[[.own (b0+1) 0 x.L.length]]⟩),(b0+1,⟨4,x.L.map bE⟩),(pb,⟨1,[[.fn 80 [.rp [.sl false 6 (v.map aV)],.ptr sp 0 0,.ptr lb 0 0,.rp [.sl false 1 (en.map cQ)],.ptr pb 0 0]]]⟩)]) (⟨k,p+1,L++[⟨1,n.name,br n.attrs,[]⟩],S1⟩) [some b0,some sp,some lb,some (b0+144),some pb] ?_ ?_ ?_ ?_;rotate_left 1;(focus (show b0<=_;omega));(focus (refine⟨?_,?_⟩<;>(try simp only[aX,hll,h3b,aV,ad,aH,ay,aq,aE,n1,n2,n3,n4,n5,n6,n7,n8,n9,o4,o5,o6,z0,y0,x0,w0,Bool.and_self,Bool.and_false,Bool.false_and,Lm,ai,seval,ah,ap])<;>(try omega)));rotate_left 1)
    ·exact⟨ih,⟨r,hev1⟩,⟨er,hev2⟩,rfl,by simp,rfl⟩
    ·rintro ⟨R,q,Lx,sx⟩ ⟨g1',⟨r',g2'⟩,⟨er',g3'⟩,g4',g5',g6'⟩
     dsimp only at g1' g2' g3' g4' g5' g6' ⊢
     cases R with
     | nil =>
      simp only[Fo.size,Nat.add_zero]at g4'
      subst g4'
      simp only[Fo.toks,List.append_nil]at g5'
      have hsz:cU Fo.nil.flat=false:=rfl
      rw[hsz,Bool.or_false]at g6'
      rw[<- g5',<- g6']
      have q1:decide (((p+1+k.size:Nat):Int)<((p+1+k.size:Nat):Int))=false:=bm
      have q2:decide (p+(1+k.size)<p+(1+k.size))=false:=bm
      have hLx:Lx.length<=2001:=by rw[g5'];simp;omega
      repeat' first|simp only[ak,ag,zF,al,q1,q2,heat,cQ,hpe,aV,uR,aE,n1,n2,n3,n4,n5,n6,n7,n8,n9,o4,o5,o6,z0,y0,x0,w0,Bt,Bf,Lm,ai,seval,ah]|exact rfl|refine aa (v:=.any) ?_|((first|apply Ca|apply Cb)<;>intro hb)|refine Ai (by omega) ?_|(apply Ai<;>intro hb)
      all_goals ((refine Fin.give [(sp,none),(lb,none),(pb,none),(b0+192,some 0)] [lk] ?_ ?_ ?_ ?_ ?_ (aL ho (by simp[aP,tgt]))<;>(try simp only[zF,al,hsp,hlb,hlk,hpb,g1,g2,g3,ad,aH,aE,ay,bD,n1,n2,n3,n4,n5,n6,n7,n8,n9,o4,o5,o6,z0,y0,x0,w0,Bool.and_self,Bool.and_false,Bool.false_and,Lm,dx,ai,seval,ah])<;>(try simp only[ap])<;>(try omega)))
     | cons u2 j2 R2 =>
      obtain⟨hp2,hr2⟩:=g1'
      have hd2:v.drop q=u2::(j2.flat++(R2.flat++r')):=by rw[g2'];simp[Fo.flat]
      have he2:en.drop q=(q+1+j2.size)::(j2.ends (q+1)++(R2.ends (q+1+j2.size)++er')):=by rw[g3'];simp[Fo.ends]
      have htk2:(Fo.cons u2 j2 R2).toks=(Fo.cons u2 j2 .nil).toks++R2.toks:=by simp[Fo.toks]
      have hsp2:cU (Fo.cons u2 j2 R2).flat=(cU (u2::j2.flat)||cU R2.flat):=by simp[cU,Fo.flat,Bool.or_assoc]
      rw[htk2,<- List.append_assoc]at g5'
      rw[hsp2,<- Bool.or_assoc]at g6'
      simp only[Fo.size]at g4'
      have hlen5:=congrArg List.length g5'
      simp only[List.length_append,List.length_cons]at hlen5
      obtain⟨heat2,hqe⟩:=Eb he2
      have q1:decide ((q:Int)<((p+1+k.size:Nat):Int))=true:=bR
      have q2:decide (q<p+(1+k.size))=true:=bR
      have hcall:=fun (M':am) a1 a2 a3 a4 a5 (m:Nat) l1 l2 l3 l4=>hp2 q (R2.flat++r') (R2.ends (q+1+j2.size)++er') Lx sx (b0+1) M' m hd2 he2 (by omega) (by omega) (by omega) (by omega) a1 a2 a3 a4 a5 l1 l2 l3 l4
      unfold Q6 at hcall
      have hd2':v.drop (q+1+j2.size)=R2.flat++r':=by
       have:=nF (v:=v) (p:=q) (a:=u2::j2.flat) (r:=R2.flat++r') (by rw[hd2];simp)
       rw[List.length_cons,Fo.flat_length]at this
       rw[show q+1+j2.size=q+(j2.size+1) by omega];exact this
      have he2':en.drop (q+1+j2.size)=R2.ends (q+1+j2.size)++er':=by
       have:=congrArg (List.drop (1+j2.size)) he2
       rw[List.drop_drop]at this
       rw[show q+1+j2.size=q+(1+j2.size) by omega,this,show 1+j2.size=(j2.ends (q+1)).length+1 by rw[Fo.ends_length];omega,List.drop_succ_cons,List.drop_left]
       rw[show q+((j2.ends (q+1)).length+1)=q+1+j2.size by rw[Fo.ends_length];omega]
      generalize hT:Lx++(Fo.cons u2 j2 .nil).toks=T at hcall g5'
      generalize hS:(sx||cU (u2::j2.flat))=S2 at hcall g6'
      repeat' first|simp only[ak,ag,zF,al,q1,q2,heat,heat2,cQ,hpe,hqe,aV,uR,aE,au,n1,n2,n3,n4,n5,n6,n7,n8,n9,o4,o5,o6,z0,y0,x0,w0,Bt,Bf,Lm,ai,seval,ah]|exact rfl|refine aa (v:=.any) ?_|((refine cn (caps:=?_) ?_ ?_ [sp,lb,b0+1,pb] (hcall _ ?_ ?_ ?_ ?_ aj _ (by omega) (by omega) (by omega) (by omega)) ?_ ?_);rotate_left 1)|((first|apply Ca|apply Cb)<;>intro hb)|refine Ai (by omega) ?_|(apply Ai<;>intro hb)
      all_goals ((refine aC bM (TkSt.mk R2 (q+1+j2.size) T S2) [some b0,some sp,some lb,some (b0+144),some pb] ?_ ?_ ?_ ?_;rotate_left 2;(focus (show b0<=_;omega));(focus (refine⟨?_,?_⟩<;>(try simp only[aX,aV,ad,aH,ay,aq,aE,n1,n2,n3,n4,n5,n6,n7,n8,n9,o4,o5,o6,z0,y0,x0,w0,Bool.and_self,Bool.and_false,Bool.false_and,Lm,ai,seval,ah,ap])<;>(try omega)))))
      all_goals (first|(show R2.size<j2.size+R2.size+1;omega)|exact⟨hr2,⟨r',hd2'⟩,⟨er',he2'⟩,by show q+1+j2.size+R2.size=_;omega,g5',g6'⟩|skip)
def yw (v:List Nd)(hv:v.length<=512)(hok:∀ n∈v,n.okTo bc/\n.i64)(en:List Nat)(hen:en.length=v.length)(sp lb pb:Nat)(d1:sp≠lb)(d2:sp≠pb)(d3:lb≠pb):∀(F:Fo) (d last:Nat),F.good d last=true->(∀ n∈F.flat,n∈v)->Md (vP v en sp lb pb) F
 | .nil,_,_,_,_=>trivial
 | .cons n k r,d,last,h,hin=>by
  obtain⟨h1,h2,h3,h4,h5,h6⟩:=Fo.good_cons.1 h
  have hno:=hok n (hin n (by simp[Fo.flat]))
  refine⟨?_,yw v hv hok en hen sp lb pb d1 d2 d3 r d n.kind h6 (fun x hx=>hin x (by simp[Fo.flat,hx]))⟩
  by_cases hk:n.kind=2
  ·exact KT v hv en sp lb pb d1 d2 d3 n k hno.1 hk (Fo.text_leaf h hk)
  ·exact KR v hv en hen sp lb pb d1 d2 d3 n k hno.1 (jK h1).1 hk h2 (yw v hv hok en hen sp lb pb d1 d2 d3 k (d-1) 1 h5 (fun x hx=>hin x (by simp[Fo.flat,hx])))
def HJ (v:List Nd)(hv:v.length<=bc)(hok:∀ n∈v,n.okTo bc/\n.i64)(h:bu v=none)(nm:Nat):Ev cx 47 nm [.sl false 6 (v.map aV)] am.nil (.tup [.nils,.int .i64 8]) []:=by
 have hb:=jx v hv hok h
 refine bh call47 func47 rfl (by kernel_rfl) rfl ?_;intro b0 hb0
 (repeat' first|simp only[ak,ag,results47,ntmps47,al,ad,ai,seval,ah]|exact rfl|refine aa (v:=.any) ?_|(first|(refine ae ?_ (hb _) ?_)|(refine ab ?_ (fun _=>hb _) ?_))|((first|apply Ca|apply Cb)<;>intro hb)|refine Ai (by omega) ?_|(apply Ai<;>intro hb)|refine Fin.pure ?_ ?_ ?_|simp only[ap])
def lg (n:Nd)(k:Fo):Int:=if cU (n::k.flat)=true then 8 else if 512<(Fo.cons n k .nil).toks.length then 4 else 0
def uU (n:Nd)(k:Fo)(hk1:n.kind=1)(hg:(Fo.cons n k .nil).good 12 0=true)(hl:k.size+1<=512)(hok:∀ x∈n::k.flat,x.okTo bc/\x.i64)(r:V)(eff:List (Nat×Option Blk))(nm:Nat)
  (hr:(lg n k≠0/\r = .tup [.nils,.int .i64 (lg n k)]/\eff=[])\/(lg n k=0/\r = .tup [.own nm 0 (Fo.cons n k .nil).toks.length,.int .i64 0]/\eff=[(nm,some ⟨4,(Fo.cons n k .nil).toks.map bE⟩)])) :
  Ev cx 47 nm [.sl false 6 ((n::k.flat).map aV)] am.nil r eff:=by
 have hb:=gD (n::k.flat) (by simp[Fo.flat_length];unfold bc;omega) hok (qx (Nat.le_refl _) hk1 hg hl)
 have htl:(Fo.cons n k .nil).toks.length<=1100:=by
  rw[Fo.toks_length hg]
  have:=List.length_filter_le (fun n:Nd=>decide (0<n.many)) (Fo.cons n k .nil).flat
  rw[Fo.flat_length]at this
  simp only[Fo.size]at this ⊢
  omega
 have hput:∀(sp lb pb:Nat),sp≠lb->sp≠pb->lb≠pb->vP (n::k.flat) ((1+k.size)::k.ends 1) sp lb pb n k:=fun sp lb pb d1 d2 d3 =>
  (yw (n::k.flat) (by simp[Fo.flat_length];omega) hok ((1+k.size)::k.ends 1) (by simp[Fo.flat_length,Fo.ends_length]) sp lb pb d1 d2 d3 (.cons n k .nil) 12 0 hg (fun x hx=>by simpa [Fo.flat] using hx)).1
 have hcall:=fun (sp lb pb lk:Nat) (d1:sp≠lb) (d2:sp≠pb) (d3:lb≠pb) (M:am) (m:Nat) e1 e2 e3 a1 a2 a3 a4 a5 l1 l2 l3 l4=>hput sp lb pb d1 d2 d3 0 [] [] [] false lk M m (by simp) (by simp) (by simp;omega) e1 e2 e3 a1 a2 a3 a4 a5 l1 l2 l3 l4
 clear hput
 simp only[List.nil_append,List.length_nil,Lo,Bool.false_or]at hcall
 have hne:(((1+k.size)::k.ends 1).map cQ).isEmpty=false:=rfl
 unfold lg at hr
 have hev:((1+k.size)::k.ends 1).length=(n::k.flat).length:=by simp[Fo.flat_length,Fo.ends_length]
 generalize hV:n::k.flat=v at hb hcall hr hev ⊢
 generalize hEn:(1+k.size)::k.ends 1=en at hb hcall hne hev
 generalize (Fo.cons n k .nil).toks=T at htl hcall hr
 generalize cU v=S at hcall hr
 have hte:(en.map cQ).take v.length=en.map cQ:=List.take_of_length_le (by rw[Lm,hev];omega)
 have hlv:v.length<=en.length:=by omega
 have htt:(T.map bE).take T.length=T.map bE:=bz _ _
 unfold Q6 at hcall
 clear hok hg
 refine lC rfl call47 func47 rfl mixed (by kernel_rfl) rfl ?_;intro b0 hb0;have zF:=Ai results47 ntmps47
 repeat' first|simp only[ak,ag,zF,al,ai,seval,ah]|exact rfl|refine aa (v:=.any) ?_|((first|apply Ca|apply Cb)<;>intro hb)|refine Ai (by omega) ?_|(apply Ai<;>intro hb)
 (refine jM bM (b0+16) ([(1,.rp [.sl false 6 (v.map aV)]),(2,.ptr b0 0 0)]) ([(b0,⟨1,[[.nils]]⟩)]) [some (b0+16)] ?_ ?_ ?_;(focus (show b0<=_;omega));(focus (refine⟨?_,?_⟩<;>(try simp only[aX,iW,ad,aJ,cM,ai,seval,ah,ap])<;>(try omega))))
 repeat' first|simp only[ak,ag,zF,al,ad,ai,seval,ah]|exact rfl|refine aa (v:=.any) ?_|(refine b8 ?_ (hb _) ?_ ?_)|omega|((first|apply Ca|apply Cb)<;>intro hb)|refine Ai (by omega) ?_|(apply Ai<;>intro hb)
 (refine jM bM (b0+16) ([(1,.rp [.sl false 6 (v.map aV)]),(2,.ptr b0 0 0),(4,.ptr (b0+1) 0 0)]) ([(b0,⟨1,[[.nils]]⟩),(b0+1,⟨1,[[.sl false 1 (en.map cQ)]]⟩)]) [some b0,some (b0+48)] ?_ ?_ ?_;(focus (show b0<=_;omega));(focus (refine⟨?_,?_⟩<;>(try simp only[aX,iW,hte,hlv,or_true,ad,aH,aJ,cM,Lm,ai,seval,ah,ap])<;>(try omega))))
 repeat' first|simp only[ak,ag,zF,al,hne,ad,aH,ai,seval,ah]|exact rfl|refine aa (v:=.any) ?_|((first|apply Ca|apply Cb)<;>intro hb)|refine Ai (by omega) ?_|(apply Ai<;>intro hb)
 ·cases hb
 (refine jM bM (b0+16) ([(1,.rp [.sl false 6 (v.map aV)]),(2,.ptr b0 0 0),(4,.rp [.sl false 1 (en.map cQ)])]) ([(b0,⟨1,[[.nils]]⟩)]) [some b0] ?_ ?_ ?_;(focus (show b0<=_;omega));(focus (refine⟨?_,?_⟩<;>(try simp only[aX,iW,ad,aH,aJ,cM,Lm,ai,seval,ah,ap])<;>(try omega))))
 repeat' first|simp only[ak,ag,zF,al,ad,aH,ai,seval,ah]|exact rfl|refine aa (v:=.any) ?_|((first|apply Ca|apply Cb)<;>intro hb)|refine Ai (by omega) ?_|(apply Ai<;>intro hb)
 refine ct ?_
 repeat' first|simp only[ak,ag,zF,al,ad,aH,ai,seval,ah]|exact rfl|refine aa (v:=.any) ?_|((first|apply Ca|apply Cb)<;>intro hb)|refine Ai (by omega) ?_|(apply Ai<;>intro hb)
 refine ct ?_
 repeat' first|simp only[ak,ag,zF,al,ad,aH,ai,seval,ah]|exact rfl|refine aa (v:=.any) ?_|((first|apply Ca|apply Cb)<;>intro hb)|refine Ai (by omega) ?_|(apply Ai<;>intro hb)
 (refine ki bM (b0+16) ([(2,.ptr b0 0 0),(5,.ptr (b0+1) 0 0),(6,.ptr (b0+2) 0 0)]) ([(b0,⟨1,[[.own (b0+3) 0 0]]⟩),(b0+1,⟨1,[[.bool false]]⟩),(b0+2,⟨1,[[.fn 80 [.rp [.sl false 6 (v.map aV)],.ptr (b0+1) 0 0,.ptr b0 0 0,.rp [.sl false 1 (en.map cQ)],.ptr (b0+2) 0 0]]]⟩),(b0+3,⟨4,[]⟩)]) [some b0,some (b0+16),some (b0+48),none] ?_ ?_ ?_;(focus (show b0<=_;omega));(focus (refine⟨?_,?_⟩<;>(try simp only[aX,ad,aH,aJ,cM,Bool.and_self,Bool.and_false,Bool.false_and,Lm,ai,seval,ah,ap])<;>(try omega))))
 cases S with
 | true =>
  have hre:r = .tup [.nils,.int .i64 8]/\eff=[]:=by
   rcases hr with ⟨_,h⟩|⟨h,_⟩
   ·exact h
   ·simp at h
  obtain⟨rfl,rfl⟩:=hre
  repeat' first|simp only[ak,ag,zF,al,ad,aH,aE,au,ai,seval,ah]|exact rfl|refine aa (v:=.any) ?_|((refine cn (caps:=?_) ?_ ?_ [b0+1,b0,b0+3,b0+2] (hcall (b0+1) b0 (b0+2) (b0+3) (by omega) (by omega) (by omega) _ _ (by omega) (by omega) (by omega) ?_ ?_ ?_ ?_ aj (by omega) (by omega) (by omega) (by omega)) ?_ ?_);rotate_left 1)|((first|apply Ca|apply Cb)<;>intro hb)|refine Ai (by omega) ?_|(apply Ai<;>intro hb)
  all_goals ((refine Fin.pure ?_ ?_ ?_<;>simp only[al,ad,zF,ai,seval,ah]))
 | false =>
  by_cases h5:512<T.length
  ·have hre:r = .tup [.nils,.int .i64 4]/\eff=[]:=by
    rcases hr with ⟨_,h⟩|⟨h,_⟩
    ·simpa [h5] using h
    ·simp[h5]at h
   obtain⟨rfl,rfl⟩:=hre
   have q1:decide ((512:Int)<(T.length:Int))=true:=bR
   have q2:decide (512<T.length)=true:=decide_eq_true h5
   repeat' first|simp only[ak,ag,zF,al,q1,q2,ad,aH,aE,au,ai,seval,ah]|exact rfl|refine aa (v:=.any) ?_|((refine cn (caps:=?_) ?_ ?_ [b0+1,b0,b0+3,b0+2] (hcall (b0+1) b0 (b0+2) (b0+3) (by omega) (by omega) (by omega) _ _ (by omega) (by omega) (by omega) ?_ ?_ ?_ ?_ aj (by omega) (by omega) (by omega) (by omega)) ?_ ?_);rotate_left 1)|((first|apply Ca|apply Cb)<;>intro hb)|refine Ai (by omega) ?_|(apply Ai<;>intro hb)
   all_goals ((refine Fin.pure ?_ ?_ ?_<;>simp only[al,ad,zF,ai,seval,ah]))
  ·have hre:r = .tup [.own nm 0 T.length,.int .i64 0]/\eff=[(nm,some ⟨4,T.map bE⟩)]:=by
    rcases hr with ⟨h,_⟩|⟨_,h⟩
    ·simp[h5]at h
    ·exact h
   obtain⟨rfl,rfl⟩:=hre
   have q1:decide ((512:Int)<(T.length:Int))=false:=bm
   have q2:decide (512<T.length)=false:=decide_eq_false h5
   repeat' first|simp only[ak,ag,zF,al,q1,q2,ad,aH,aE,au,ai,seval,ah]|exact rfl|refine aa (v:=.any) ?_|((refine cn (caps:=?_) ?_ ?_ [b0+1,b0,b0+3,b0+2] (hcall (b0+1) b0 (b0+2) (b0+3) (by omega) (by omega) (by omega) _ _ (by omega) (by omega) (by omega) ?_ ?_ ?_ ?_ aj (by omega) (by omega) (by omega) (by omega)) ?_ ?_);rotate_left 1)|((first|apply Ca|apply Cb)<;>intro hb)|refine Ai (by omega) ?_|(apply Ai<;>intro hb)
   all_goals ((refine Fin.give [(b0+32,some 0)] [] ?_ ?_ ?_ ?_ ?_ (aL gM (by simp[aP,tgt]))<;>(try simp only[zF,al,aE,Lm,dx,ai,seval,ah])<;>(try simp only[ap])<;>(try omega)))
def rX (v:List Nd):V:=.sl false 6 (v.map aV)
end Go.Proofs.YtlnlopnpcmahgaaGreatDoor
