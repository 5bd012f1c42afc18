/-
 Texts joined: XSl,XSm,XSn,XSo.
-/
import Derived.Test.YtjdjclecdfhciaaGreatDoorQt
namespace Go.Proofs.YtjdjclecdfhciaaGreatDoor
set_option maxRecDepth 100000
set_option maxHeartbeats 32000000
set_option linter.unusedSimpArgs false
set_option linter.unusedVariables false
open Go Go.RowKit Vm Go.Lib Tryz
open Vm renaming cond_bool→Ca,cond_bit→Cb
open And renaming intro→Ai
open List renaming length_map→Lm,not_mem_nil→Ln,map_nil→Lo,map_cons→Lc,mem_cons→Lk
open Bool renaming not_false→Bf,not_true→Bt
theorem tok1_ev (a:At)(nm:Nat):Ev cx 64 nm [.agg (atC a)] Mem.nil (.bool (!a.space.isEmpty)) []:=by
 refine ev_go rfl (fun cargs w=>call64 cargs w) func64 rfl mixed (by kernel_rfl) rfl ?_;intro b0 hb0
 (repeat' first|simp only[fins,mems,results64,ntmps64,wks,atC,beq_nil,vcs,seval,tys]|exact rfl|refine call_off (v:=.any) ?_|((first|apply Ca|apply Cb)<;>intro hb)|refine Ai (by omega) ?_|(apply Ai<;>intro hb)|refine Fin.pure ?_ ?_ ?_|simp only[injs])
def AllF (P:Nd→Fo→Prop):Fo→Prop
 | .nil=>True
 | .cons n k r=>P n k∧AllF P r
def pkC (v:List Nd)(en:List Nat)(sp lb pb:Nat):V:=.fn 63 [.rp [.sl false 6 (v.map ndC)],.ptr sp 0 0,.ptr lb 0 0,.rp [.sl false 1 (en.map noC)],.ptr pb 0 0]
def PutOk (v:List Nd)(en:List Nat)(sp lb pb:Nat)(n:Nd)(k:Fo):Prop :=
  ∀(p:Nat) (r:List Nd) (er:List Nat) (L:List Tk) (s:Bool) (lk:Nat) (M:Mem) (nm:Nat),v.drop p=n::(k.flat++r)→en.drop p=(p+1+k.size)::(k.ends (p+1)++er)→L.length+(Fo.cons n k .nil).toks.length≤2000 →
    sp≠lk→lb≠lk→pb≠lk→M sp=some ⟨1,[[.bool s]]⟩→M lb=some ⟨1,[[.own lk 0 L.length]]⟩→M lk=some ⟨4,L.map tkC⟩→M pb=some ⟨1,[[pkC v en sp lb pb]]⟩→(∀ z,(M z).isSome=true→z∈[sp,lb,lk,pb])→sp<nm→lb<nm→lk<nm→pb<nm →
    Ev cx 63 nm [.int .i64 p,.rp [.sl false 6 (v.map ndC)],.ptr sp 0 0,.ptr lb 0 0,.rp [.sl false 1 (en.map noC)],.ptr pb 0 0] M (.tup [])
      [(lk,none),(sp,some ⟨1,[[.bool (s||spacedL (n::k.flat))]]⟩),(lb,some ⟨1,[[.own nm 0 (L++(Fo.cons n k .nil).toks).length]]⟩),(pb,some ⟨1,[[pkC v en sp lb pb]]⟩),(nm,some ⟨4,(L++(Fo.cons n k .nil).toks).map tkC⟩)]
structure TkSt where
 R:Fo
 q:Nat
 L:List Tk
 s:Bool
theorem tak_tk (l:List Tk):(l.map tkC).take l.length=l.map tkC:=take_map_len _ _
theorem tk_snoc (l:List Tk)(t:Tk):l.map tkC++[tkC t]=(l++[t]).map tkC:=by simp
theorem pairs_take {l:List At}{k:Nat}{a:At}(h:l[k]? = some a):(pairsL (l.take k)).map prC++[[.str a.name,.str a.value]]=(pairsL (l.take (k+1))).map prC:=by
 obtain⟨hk,rfl⟩:=List.getElem?_eq_some_iff.1 h
 unfold pairsL
 rw[List.take_succ_eq_append_getElem hk,List.map_append,List.map_append];rfl
theorem pairs_zero:pairsL []=[]:=rfl
theorem pairs_len (l:List At):(pairsL l).length=l.length:=by simp[pairsL]
theorem drop_no {en:List Nat}{p e:Nat}{r:List Nat}(h:en.drop p=e::r):(en.map noC)[p]? = some (noC e)∧p<en.length:=by
 have h1:en[p]? = some e:=by have:=congrArg (·[0]?) h;simpa using this
 exact⟨by rw[List.getElem?_map,h1];rfl,(List.getElem?_eq_some_iff.1 h1).1⟩
theorem put_text (v:List Nd)(hv:v.length≤512)(en:List Nat)(sp lb pb:Nat)(d1:sp≠lb)(d2:sp≠pb)(d3:lb≠pb)(n:Nd)(k:Fo)(hn:n.okTo lim)(hk:n.kind=2)(hk0:k = .nil):PutOk v en sp lb pb n k:=by
 subst hk0
 intro p r er L s lk M nm hvd hed hL e1 e2 e3 hsp hlb hlk hpb ho l1 l2 l3 l4
 obtain⟨hx,_,hp⟩:=drop_at hvd
 have hat:=nd_at hx
 have hpi:(p:Int)<(v.length:Int):=by omega
 have hkb:((n.kind:Int)==2)=true:=by rw[hk];rfl
 have hco:=containsat_ev n.attrs 64 [] (fun a=>!a.space.isEmpty) (fun a _ nm=>tok1_ev a nm) hn.1 rfl
 have htk:(Fo.cons n .nil .nil).toks=[⟨4,[],[],n.text⟩]:=by simp[Fo.toks,hk]
 have hss:(s||spacedL (n::Fo.nil.flat))=((s || !n.space.isEmpty)||n.attrs.any fun a=>!a.space.isEmpty):=by simp[spacedL,spacedN,Fo.flat,Bool.or_assoc]
 rw[htk]at hL ⊢
 rw[hss]
 have hLn:L.length≤2000:=by simp at hL;omega
 generalize (n.attrs.any fun a=>!a.space.isEmpty)=B at hco ⊢
 have hsn:=tk_snoc L ⟨4,[],[],n.text⟩
 have hll:(L++[(⟨4,[],[],n.text⟩:Tk)]).length=L.length+1:=by simp
 rw[← hsn,hll]
 refine Ev.last_le (eff:=[(lk,none),(sp,_),(lb,_),(pb,_)]) (k:=⟨4,L.map tkC++[[.int .u8 4,.str [],.nils,.str n.text]]⟩) ?_ ⟨rfl,.inl rfl,leLL_append (by rw[show tkC ⟨4,[],[],n.text⟩=[.int .u8 4,.str [],.sl false 2 [],.str n.text] from rfl];simp only[leLL_cons,leL_cons,leL_nil,le_int,le_str,le_nils_sl,leLL,and_self])⟩
 have g1:(nm=sp)=False:=eq_false (by omega);have g2:(nm=lb)=False:=eq_false (by omega);have g3:(nm=pb)=False:=eq_false (by omega)
 unfold pkC at hpb ⊢
 simp only[List.cons_append,List.nil_append]
 have n1:=eq_false d1;have n2:=eq_false d2;have n3:=eq_false d3;have n4:=eq_false e1;have n5:=eq_false e2;have n6:=eq_false e3
 have n7:=eq_false (Ne.symm d1);have n8:=eq_false (Ne.symm d2);have n9:=eq_false (Ne.symm d3);have o4:=eq_false (Ne.symm e1);have o5:=eq_false (Ne.symm e2);have o6:=eq_false (Ne.symm e3)
 refine ev_go rfl (fun cargs w=>call63 cargs w) func63 rfl mixed (by kernel_rfl) rfl ?_;intro b0 hb0
 have k1:sp<b0:=below_of hb0 (by rw[hsp];rfl)
 have k2:lb<b0:=below_of hb0 (by rw[hlb];rfl)
 have k3:lk<b0:=below_of hb0 (by rw[hlk];rfl)
 have k4:pb<b0:=below_of hb0 (by rw[hpb];rfl)
 have z0:=lt_ne k1;have z1:=lt_ne_add k1;have z2:=lt_ne' k1;have z3:=lt_ne_add' k1
 have y0:=lt_ne k2;have y1:=lt_ne_add k2;have y2:=lt_ne' k2;have y3:=lt_ne_add' k2
 have x0:=lt_ne k3;have x1:=lt_ne_add k3;have x2:=lt_ne' k3;have x3:=lt_ne_add' k3
 have w0:=lt_ne k4;have w1:=lt_ne_add k4;have w2:=lt_ne' k4;have w3:=lt_ne_add' k4
 repeat' first|simp only[fins,mems,results63,ntmps63,wks,hat,ndC,tkC,hkb,hp,hpi,beq_nil,hsp,hlb,hlk,hpb,tak_tk,plain_nd,plain_at,plain_tk,plain_pr,n1,n2,n3,n4,n5,n6,n7,n8,n9,o4,o5,o6,z0,z1,z2,z3,y0,y1,y2,y3,x0,x1,x2,x3,w0,w1,w2,w3,Lo,Bt,Bf,Lm,vcs,seval,tys]|exact rfl|refine call_off (v:=.any) ?_|(first|(refine call_fn ?_ (hco _) ?_)|(refine call_fn_g ?_ (fun _=>hco _) ?_))|((first|apply Ca|apply Cb)<;>intro hb)|refine Ai (by omega) ?_|(apply Ai<;>intro hb)
 all_goals ((refine Fin.give [(sp,none),(lb,none),(pb,none),(b0+416,some 0)] [lk] ?_ ?_ ?_ ?_ ?_ (fun q hq=>by have hqq:=ho q hq;first|(simp only[gives,tgt,Lc,Lo,Lk,Ln,or_false]at hqq ⊢;omega)|(simp only[gives,tgt,Lc,Lo,Lk,Ln,or_false]at hqq))<;>(try simp only[results63,ntmps63,wks,hsp,hlb,hlk,hpb,tkC,g1,g2,g3,plain_nd,plain_no,plain_tk,plainLL_append,Lo,n1,n2,n3,n4,n5,n6,n7,n8,n9,o4,o5,o6,z0,z1,z2,z3,y0,y1,y2,y3,x0,x1,x2,x3,w0,w1,w2,w3,Bool.and_self,Bool.and_false,Bool.false_and,Lm,giv,vcs,seval,tys])<;>(try simp only[injs])<;>(try omega)))
theorem put_elem (v:List Nd)(hv:v.length≤512)(en:List Nat)(hen:en.length=v.length)(sp lb pb:Nat)(d1:sp≠lb)(d2:sp≠pb)(d3:lb≠pb)(n:Nd)(k:Fo)(hn:n.okTo lim)(ha16:n.attrs.length≤16)(hk:n.kind≠2)(hm:n.many=(k.count:Int))(ih:AllF (PutOk v en sp lb pb) k):PutOk v en sp lb pb n k:=by
 intro p r er L s lk M nm hvd hed hL e1 e2 e3 hsp hlb hlk hpb ho l1 l2 l3 l4
 obtain⟨hx,hvd1,hp⟩:=drop_at hvd
 have hat:=nd_at hx
 have hpi:(p:Int)<(v.length:Int):=by omega
 have hkb:((n.kind:Int)==2)=false:=beq_false_of_ne (by omega)
 obtain⟨heat,hpe⟩:=drop_no hed
 have hco:=containsat_ev n.attrs 64 [] (fun a=>!a.space.isEmpty) (fun a _ nm=>tok1_ev a nm) hn.1 rfl
 have hss:(s||spacedL (n::k.flat))=(((s || !n.space.isEmpty)||n.attrs.any fun a=>!a.space.isEmpty)||spacedL k.flat):=by simp[spacedL,spacedN,Bool.or_assoc]
 rw[hss]
 clear hss
 have hLn:L.length≤2000:=by omega
 generalize hs1:(n.attrs.any fun a=>!a.space.isEmpty)=B at hco ⊢
 generalize hs2:((s || !n.space.isEmpty)||B)=S1
 have hw1:IntKind.i64.wrap ((p:Int)+1)=((p+1:Nat):Int):=wrap_in (by omega) (by omega)
 have n1:=eq_false d1;have n2:=eq_false d2;have n3:=eq_false d3;have n4:=eq_false e1;have n5:=eq_false e2;have n6:=eq_false e3
 have n7:=eq_false (Ne.symm d1);have n8:=eq_false (Ne.symm d2);have n9:=eq_false (Ne.symm d3);have o4:=eq_false (Ne.symm e1);have o5:=eq_false (Ne.symm e2);have o6:=eq_false (Ne.symm e3)
 obtain⟨RAW,hr0,hr1,hrl⟩:∃ RAW:List (List V),(k.count=0→RAW=(L++(Fo.cons n k .nil).toks).map tkC)∧(k.count≠0→RAW=(L++⟨1,n.name,pairsL n.attrs,[]⟩::k.toks).map tkC++[[.int .u8 2,.str n.name,.nils,.str []]])∧leLL RAW ((L++(Fo.cons n k .nil).toks).map tkC):=by
  by_cases hk0:k.count=0
  ·exact⟨_,fun _=>rfl,fun h=>absurd hk0 h,leLL_refl _⟩
  ·refine⟨_,fun h=>absurd h hk0,fun _=>rfl,?_⟩
   have hm0:¬ n.many=0:=by rw[hm];simpa using hk0
   have htk:(Fo.cons n k .nil).toks=⟨1,n.name,pairsL n.attrs,[]⟩::(k.toks++[⟨2,n.name,[],[]⟩]):=by simp[Fo.toks,hk,hm0]
   rw[htk,show L++⟨1,n.name,pairsL n.attrs,[]⟩::(k.toks++[⟨2,n.name,[],[]⟩])=(L++⟨1,n.name,pairsL n.attrs,[]⟩::k.toks)++[⟨2,n.name,[],[]⟩] by simp,← tk_snoc]
   refine leLL_append ?_
   rw[show tkC ⟨2,n.name,[],[]⟩=[.int .u8 2,.str n.name,.sl false 2 [],.str []] from rfl]
   simp only[leLL_cons,leL_cons,leL_nil,le_int,le_str,le_nils_sl,leLL,and_self]
 refine Ev.last_le (eff:=[(lk,none),(sp,_),(lb,_),(pb,_)]) (k:=⟨4,RAW⟩) ?_ ⟨rfl,.inl rfl,hrl⟩
 clear hrl
 simp only[List.cons_append,List.nil_append]
 unfold pkC at hpb ⊢
 refine ev_goW rfl (fun cargs w=>call63 cargs w) func63 rfl mixed (by kernel_rfl) rfl ?_;intro b0 hb0
 have k1:sp<b0:=below_of hb0 (by rw[hsp];rfl)
 have k2:lb<b0:=below_of hb0 (by rw[hlb];rfl)
 have k3:lk<b0:=below_of hb0 (by rw[hlk];rfl)
 have k4:pb<b0:=below_of hb0 (by rw[hpb];rfl)
 have z0:=lt_ne k1;have z1:=lt_ne_add k1;have z2:=lt_ne' k1;have z3:=lt_ne_add' k1
 have y0:=lt_ne k2;have y1:=lt_ne_add k2;have y2:=lt_ne' k2;have y3:=lt_ne_add' k2
 have x0:=lt_ne k3;have x1:=lt_ne_add k3;have x2:=lt_ne' k3;have x3:=lt_ne_add' k3
 have w0:=lt_ne k4;have w1:=lt_ne_add k4;have w2:=lt_ne' k4;have w3:=lt_ne_add' k4
 repeat' first|simp only[fins,mems,results63,ntmps63,wks,hat,ndC,hkb,hp,hpi,beq_nil,hs2,hsp,hlb,hlk,hpb,plain_nd,plain_at,plain_tk,plain_pr,n1,n2,n3,n4,n5,n6,n7,n8,n9,o4,o5,o6,z0,z1,z2,z3,y0,y1,y2,y3,x0,x1,x2,x3,w0,w1,w2,w3,Lo,Bt,Bf,Lm,vcs,seval,tys]|exact rfl|refine call_off (v:=.any) ?_|(first|(refine call_fn ?_ (hco _) ?_)|(refine call_fn_g ?_ (fun _=>hco _) ?_))|refine mid_skip ?_|((first|apply Ca|apply Cb)<;>intro hb)|refine Ai (by omega) ?_|(apply Ai<;>intro hb)
 (refine loop_can2 cxG (fun x:Nat=>n.attrs.length-x) (fun x=>x≤n.attrs.length) (b0+16) (fun x=>[(0,.int .i64 p),(3,.ptr lb 0 0),(4,.rp [.sl false 1 (en.map noC)]),(5,.ptr pb 0 0),(2,.ptr sp 0 0),(7,.ptr b0 0 0),(8,.ptr (b0+1) 0 0),(40,.sl false 3 (n.attrs.map atC)),(41,.int .i64 n.attrs.length),(42,.int .i64 x)]) (fun x=>[(b0,⟨6,[ndC n]⟩),(b0+1,⟨4,[[.int .u8 3,.str n.name,.own (b0+2) 0 x,.str []]]⟩),(b0+2,⟨2,(pairsL (n.attrs.take x)).map prC⟩),(sp,⟨1,[[.bool S1]]⟩),(lb,⟨1,[[.own lk 0 L.length]]⟩),(lk,⟨4,L.map tkC⟩),(pb,⟨1,[[.fn 63 [.rp [.sl false 6 (v.map ndC)],.ptr sp 0 0,.ptr lb 0 0,.rp [.sl false 1 (en.map noC)],.ptr pb 0 0]]]⟩)]) (0) [some (b0+64),some (b0+384),none,some sp,some lb,some lk,some pb] ?_ ?_ ?_ ?_;rotate_left 1;(focus (show b0≤_;omega));(focus (refine⟨?_,?_⟩<;>(try simp only[cans,plain_nd,plain_no,plain_pr,plain_at,plain_tk,pairs_zero,List.take_zero,Lo,isRow_inst,ndC,hsp,hlb,hlk,hpb,n1,n2,n3,n4,n5,n6,n7,n8,n9,o4,o5,o6,z0,z1,z2,z3,y0,y1,y2,y3,x0,x1,x2,x3,w0,w1,w2,w3,Bool.and_self,Bool.and_false,Bool.false_and,Lm,vcs,seval,tys,injs])<;>(try omega)));rotate_left 1)
 ·exact Nat.zero_le _
 ·intro i hi
  by_cases hlt:i<n.attrs.length
  ·obtain⟨a,ha⟩:∃ a,n.attrs[i]? = some a:=⟨_,List.getElem?_eq_getElem hlt⟩
   have haa:=at_at ha
   have q1:decide ((i:Int)<(n.attrs.length:Int))=true:=decide_eq_true (by omega)
   have q2:decide (i<n.attrs.length)=true:=decide_eq_true hlt
   have hwk:IntKind.i64.wrap ((i:Int)+1)=((i+1:Nat):Int):=wrap_in (by omega) (by omega)
   have hpl:((pairsL (n.attrs.take i)).map prC).length=i:=by rw[Lm,pairs_len,List.length_take];omega
   have hpl2:(pairsL (n.attrs.take i)).length=i:=by rw[pairs_len,List.length_take];omega
   have htk:((pairsL (n.attrs.take i)).map prC).take i=(pairsL (n.attrs.take i)).map prC:=List.take_of_length_le (by omega)
   have hsn:=pairs_take ha
   repeat' first|simp only[fins,mems,results63,ntmps63,wks,haa,atC,hlt,q1,q2,hwk,htk,hsn,hpl,hpl2,plain_pr,n1,n2,n3,n4,n5,n6,n7,n8,n9,o4,o5,o6,z0,z1,z2,z3,y0,y1,y2,y3,x0,x1,x2,x3,w0,w1,w2,w3,Bt,Bf,Lm,vcs,seval,tys]|exact rfl|refine call_off (v:=.any) ?_|((first|apply Ca|apply Cb)<;>intro hb)|refine Ai (by omega) ?_|(apply Ai<;>intro hb)
   all_goals ((refine again_can2 cxG (i+1) [some b0,some (b0+1),some (b0+224),some sp,some lb,some lk,some pb] ?_ ?_ ?_ ?_;rotate_left 2;(focus (show b0≤_;omega));(focus (refine⟨?_,?_⟩<;>(try simp only[cans,hwk,ndC,plain_nd,plain_no,plain_pr,plain_at,plain_tk,isRow_inst,n1,n2,n3,n4,n5,n6,n7,n8,n9,o4,o5,o6,z0,z1,z2,z3,y0,y1,y2,y3,x0,x1,x2,x3,w0,w1,w2,w3,Bool.and_self,Bool.and_false,Bool.false_and,Lm,vcs,seval,tys,injs])<;>(try omega)))))
   all_goals (first|(show n.attrs.length-(i+1)<n.attrs.length-i;omega)|exact hlt|skip)
  ·have hie:i=n.attrs.length:=by omega
   subst hie
   have q1:decide ((n.attrs.length:Int)<(n.attrs.length:Int))=false:=decide_eq_false (by omega)
   have q2:decide (n.attrs.length<n.attrs.length)=false:=decide_eq_false (by omega)
   have hpl:(pairsL n.attrs).length=n.attrs.length:=pairs_len _
   have htk:((pairsL n.attrs).map prC).take n.attrs.length=(pairsL n.attrs).map prC:=List.take_of_length_le (by rw[Lm,hpl];omega)
   repeat' first|simp only[fins,mems,results63,ntmps63,wks,q1,q2,List.take_length,Lm,vcs,seval,tys]|exact rfl|refine call_off (v:=.any) ?_|((first|apply Ca|apply Cb)<;>intro hb)|refine Ai (by omega) ?_|(apply Ai<;>intro hb)
   (refine mid_canF cxG (b0+16) ([(0,.int .i64 p),(3,.ptr lb 0 0),(4,.rp [.sl false 1 (en.map noC)]),(5,.ptr pb 0 0),(7,.ptr b0 0 0),(8,.ptr (b0+1) 0 0)]) ([(b0,⟨6,[ndC n]⟩),(b0+1,⟨4,[tkC ⟨3,n.name,pairsL n.attrs,[]⟩]⟩),(sp,⟨1,[[.bool S1]]⟩),(lb,⟨1,[[.own lk 0 L.length]]⟩),(lk,⟨4,L.map tkC⟩),(pb,⟨1,[[.fn 63 [.rp [.sl false 6 (v.map ndC)],.ptr sp 0 0,.ptr lb 0 0,.rp [.sl false 1 (en.map noC)],.ptr pb 0 0]]]⟩)]) [some b0,some (b0+1),some sp,some lb,some lk,some pb] ?_ ?_ ?_;(focus (show b0≤_;omega));(focus (refine⟨?_,?_⟩<;>(try simp only[cans,canfs,htk,hpl,tkC,ndC,Nat.le_refl,or_true,plain_nd,plain_no,plain_pr,plain_at,plain_tk,isRow_inst,leLL_same,List.take_length,n1,n2,n3,n4,n5,n6,n7,n8,n9,o4,o5,o6,z0,z1,z2,z3,y0,y1,y2,y3,x0,x1,x2,x3,w0,w1,w2,w3,Bool.and_self,Bool.and_false,Bool.false_and,Lm,vcs,seval,tys,injs])<;>(try omega))))
   have g1:(nm=sp)=False:=eq_false (by omega);have g2:(nm=lb)=False:=eq_false (by omega);have g3:(nm=pb)=False:=eq_false (by omega)
   have h3b:tkC ⟨3,n.name,pairsL n.attrs,[]⟩=[.int .u8 3,.str n.name,.sl false 2 ((pairsL n.attrs).map prC),.str []]:=rfl
   have h1b:tkC ⟨1,n.name,pairsL n.attrs,[]⟩=[.int .u8 1,.str n.name,.sl false 2 ((pairsL n.attrs).map prC),.str []]:=rfl
   by_cases hk0:k.count=0
   ·have hkz:(n.many==0)=true:=by rw[hm,hk0];rfl
    have hkn:k = .nil:=by
     cases k with
     | nil=>rfl
     | cons _ _ _=>simp[Fo.count]at hk0
    subst hkn
    have hm0:n.many=0:=by rw[hm,hk0];rfl
    have htk:(Fo.cons n .nil .nil).toks=[⟨3,n.name,pairsL n.attrs,[]⟩]:=by simp[Fo.toks,hk,hm0]
    rw[hr0 hk0,htk]
    have hsn:=tk_snoc L ⟨3,n.name,pairsL n.attrs,[]⟩
    have hll:(L++[(⟨3,n.name,pairsL n.attrs,[]⟩:Tk)]).length=L.length+1:=by simp
    have hsz:spacedL Fo.nil.flat=false:=rfl
    rw[← hsn,hll,hsz,Bool.or_false,h3b]
    repeat' first|simp only[fins,mems,results63,ntmps63,wks,hkz,ndC,h3b,tak_tk,plain_tk,plain_pr,n1,n2,n3,n4,n5,n6,n7,n8,n9,o4,o5,o6,z0,z1,z2,z3,y0,y1,y2,y3,x0,x1,x2,x3,w0,w1,w2,w3,Bt,Bf,Lm,vcs,seval,tys]|exact rfl|refine call_off (v:=.any) ?_|((first|apply Ca|apply Cb)<;>intro hb)|refine Ai (by omega) ?_|(apply Ai<;>intro hb)
    all_goals ((refine Fin.give [(sp,none),(lb,none),(pb,none),(b0+112,some 0)] [lk] ?_ ?_ ?_ ?_ ?_ (fun q hq=>by have hqq:=ho q hq;first|(simp only[gives,tgt,Lc,Lo,Lk,Ln,or_false]at hqq ⊢;omega)|(simp only[gives,tgt,Lc,Lo,Lk,Ln,or_false]at hqq))<;>(try simp only[results63,ntmps63,wks,hsp,hlb,hlk,hpb,g1,g2,g3,plain_nd,plain_no,plain_tk,plain_pr,plainLL_append,n1,n2,n3,n4,n5,n6,n7,n8,n9,o4,o5,o6,z0,z1,z2,z3,y0,y1,y2,y3,x0,x1,x2,x3,w0,w1,w2,w3,Bool.and_self,Bool.and_false,Bool.false_and,Lm,giv,vcs,seval,tys])<;>(try simp only[injs])<;>(try omega)))
   ·have hkz:(n.many==0)=false:=by rw[hm];simp;exact hk0
    have hm0:¬ n.many=0:=by rw[hm];simpa using hk0
    have htk:(Fo.cons n k .nil).toks=⟨1,n.name,pairsL n.attrs,[]⟩::(k.toks++[⟨2,n.name,[],[]⟩]):=by simp[Fo.toks,hk,hm0]
    rw[htk]at hL ⊢
    have hL3:L.length+k.toks.length+2≤2000:=by simp at hL;omega
    have hfin:L++⟨1,n.name,pairsL n.attrs,[]⟩::(k.toks++[⟨2,n.name,[],[]⟩])=(L++⟨1,n.name,pairsL n.attrs,[]⟩::k.toks)++[⟨2,n.name,[],[]⟩]:=by simp
    rw[hr1 hk0,hfin,List.length_append]
    clear hr0 hr1
    have hsn:=tk_snoc L ⟨1,n.name,pairsL n.attrs,[]⟩
    have hll:(L++[(⟨1,n.name,pairsL n.attrs,[]⟩:Tk)]).length=L.length+1:=by simp
    rw[h1b]at hsn
    have hstp:∀(P:Prop),P→P:=fun _ h=>h
    obtain⟨hev1,hev2⟩:v.drop (p+1)=k.flat++r∧en.drop (p+1)=k.ends (p+1)++er:=by
     refine⟨hvd1,?_⟩
     have:=congrArg (List.drop 1) hed
     rw[List.drop_drop]at this;simpa using this
    repeat' first|simp only[fins,mems,results63,ntmps63,wks,hkz,ndC,h3b,hsn,hw1,tak_tk,plain_tk,plain_pr,n1,n2,n3,n4,n5,n6,n7,n8,n9,o4,o5,o6,z0,z1,z2,z3,y0,y1,y2,y3,x0,x1,x2,x3,w0,w1,w2,w3,Bt,Bf,Lm,vcs,seval,tys]|exact rfl|refine call_off (v:=.any) ?_|((first|apply Ca|apply Cb)<;>intro hb)|refine Ai (by omega) ?_|(apply Ai<;>intro hb)
    (refine loop_can2 cxG (fun x:TkSt=>x.R.size) (fun x=>AllF (PutOk v en sp lb pb) x.R∧(∃ r',v.drop x.q=x.R.flat++r')∧(∃ er',en.drop x.q=x.R.ends x.q++er')∧x.q+x.R.size=p+1+k.size∧x.L++x.R.toks=L++⟨1,n.name,pairsL n.attrs,[]⟩::k.toks∧(x.s||spacedL x.R.flat)=(S1||spacedL k.flat)) (b0+16) (fun x=>[(0,.int .i64 p),(3,.ptr lb 0 0),(4,.rp [.sl false 1 (en.map noC)]),(5,.ptr pb 0 0),(7,.ptr b0 0 0),(11,.int .i64 x.q)]) (fun x=>[(b0,⟨6,[ndC n]⟩),(sp,⟨1,[[.bool x.s]]⟩),(lb,⟨1,[[.own (b0+1) 0 x.L.length]]⟩),(b0+1,⟨4,x.L.map tkC⟩),(pb,⟨1,[[.fn 63 [.rp [.sl false 6 (v.map ndC)],.ptr sp 0 0,.ptr lb 0 0,.rp [.sl false 1 (en.map noC)],.ptr pb 0 0]]]⟩)]) (⟨k,p+1,L++[⟨1,n.name,pairsL n.attrs,[]⟩],S1⟩) [some b0,some sp,some lb,some (b0+144),some pb] ?_ ?_ ?_ ?_;rotate_left 1;(focus (show b0≤_;omega));(focus (refine⟨?_,?_⟩<;>(try simp only[cans,hll,h3b,ndC,plain_nd,plain_no,plain_pr,plain_at,plain_tk,n1,n2,n3,n4,n5,n6,n7,n8,n9,o4,o5,o6,z0,z1,z2,z3,y0,y1,y2,y3,x0,x1,x2,x3,w0,w1,w2,w3,Bool.and_self,Bool.and_false,Bool.false_and,Lm,vcs,seval,tys,injs])<;>(try omega)));rotate_left 1)
    ·exact⟨ih,⟨r,hev1⟩,⟨er,hev2⟩,rfl,by simp,rfl⟩
    ·rintro ⟨R,q,Lx,sx⟩ ⟨g1',⟨r',g2'⟩,⟨er',g3'⟩,g4',g5',g6'⟩
     dsimp only at g1' g2' g3' g4' g5' g6' ⊢
     cases R with
     | nil =>
      simp only[Fo.size,Nat.add_zero]at g4'
      subst g4'
      simp only[Fo.toks,List.append_nil]at g5'
      have hsz:spacedL Fo.nil.flat=false:=rfl
      rw[hsz,Bool.or_false]at g6'
      rw[← g5',← g6']
      have q1:decide (((p+1+k.size:Nat):Int)<((p+1+k.size:Nat):Int))=false:=decide_eq_false (by omega)
      have q2:decide (p+(1+k.size)<p+(1+k.size))=false:=decide_eq_false (by omega)
      have hLx:Lx.length≤2001:=by rw[g5'];simp;omega
      repeat' first|simp only[fins,mems,results63,ntmps63,wks,q1,q2,heat,noC,hpe,ndC,tak_tk,plain_tk,n1,n2,n3,n4,n5,n6,n7,n8,n9,o4,o5,o6,z0,z1,z2,z3,y0,y1,y2,y3,x0,x1,x2,x3,w0,w1,w2,w3,Bt,Bf,Lm,vcs,seval,tys]|exact rfl|refine call_off (v:=.any) ?_|((first|apply Ca|apply Cb)<;>intro hb)|refine Ai (by omega) ?_|(apply Ai<;>intro hb)
      all_goals ((refine Fin.give [(sp,none),(lb,none),(pb,none),(b0+192,some 0)] [lk] ?_ ?_ ?_ ?_ ?_ (fun q hq=>by have hqq:=ho q hq;first|(simp only[gives,tgt,Lc,Lo,Lk,Ln,or_false]at hqq ⊢;omega)|(simp only[gives,tgt,Lc,Lo,Lk,Ln,or_false]at hqq))<;>(try simp only[results63,ntmps63,wks,hsp,hlb,hlk,hpb,g1,g2,g3,plain_nd,plain_no,plain_tk,plain_pr,plainLL_append,n1,n2,n3,n4,n5,n6,n7,n8,n9,o4,o5,o6,z0,z1,z2,z3,y0,y1,y2,y3,x0,x1,x2,x3,w0,w1,w2,w3,Bool.and_self,Bool.and_false,Bool.false_and,Lm,giv,vcs,seval,tys])<;>(try simp only[injs])<;>(try omega)))
     | cons u2 j2 R2 =>
      obtain⟨hp2,hr2⟩:=g1'
      have hd2:v.drop q=u2::(j2.flat++(R2.flat++r')):=by rw[g2'];simp[Fo.flat]
      have he2:en.drop q=(q+1+j2.size)::(j2.ends (q+1)++(R2.ends (q+1+j2.size)++er')):=by rw[g3'];simp[Fo.ends]
      have htk2:(Fo.cons u2 j2 R2).toks=(Fo.cons u2 j2 .nil).toks++R2.toks:=by simp[Fo.toks]
      have hsp2:spacedL (Fo.cons u2 j2 R2).flat=(spacedL (u2::j2.flat)||spacedL R2.flat):=by simp[spacedL,Fo.flat,Bool.or_assoc]
      rw[htk2,← List.append_assoc]at g5'
      rw[hsp2,← Bool.or_assoc]at g6'
      simp only[Fo.size]at g4'
      have hlen5:=congrArg List.length g5'
      simp only[List.length_append,List.length_cons]at hlen5
      obtain⟨heat2,hqe⟩:=drop_no he2
      have q1:decide ((q:Int)<((p+1+k.size:Nat):Int))=true:=decide_eq_true (by omega)
      have q2:decide (q<p+(1+k.size))=true:=decide_eq_true (by omega)
      have hcall:=fun (M':Mem) a1 a2 a3 a4 a5 (m:Nat) l1 l2 l3 l4=>hp2 q (R2.flat++r') (R2.ends (q+1+j2.size)++er') Lx sx (b0+1) M' m hd2 he2 (by omega) (by omega) (by omega) (by omega) a1 a2 a3 a4 a5 l1 l2 l3 l4
      unfold pkC at hcall
      have hd2':v.drop (q+1+j2.size)=R2.flat++r':=by
       have:=drop_more (v:=v) (p:=q) (a:=u2::j2.flat) (r:=R2.flat++r') (by rw[hd2];simp)
       rw[List.length_cons,Fo.flat_length]at this
       rw[show q+1+j2.size=q+(j2.size+1) by omega];exact this
      have he2':en.drop (q+1+j2.size)=R2.ends (q+1+j2.size)++er':=by
       have:=congrArg (List.drop (1+j2.size)) he2
       rw[List.drop_drop]at this
       rw[show q+1+j2.size=q+(1+j2.size) by omega,this,show 1+j2.size=(j2.ends (q+1)).length+1 by rw[Fo.ends_length];omega,List.drop_succ_cons,List.drop_left]
       rw[show q+((j2.ends (q+1)).length+1)=q+1+j2.size by rw[Fo.ends_length];omega]
      generalize hT:Lx++(Fo.cons u2 j2 .nil).toks=T at hcall g5'
      generalize hS:(sx||spacedL (u2::j2.flat))=S2 at hcall g6'
      repeat' first|simp only[fins,mems,results63,ntmps63,wks,q1,q2,heat,heat2,noC,hpe,hqe,ndC,tak_tk,plain_tk,fresh_self,n1,n2,n3,n4,n5,n6,n7,n8,n9,o4,o5,o6,z0,z1,z2,z3,y0,y1,y2,y3,x0,x1,x2,x3,w0,w1,w2,w3,Bt,Bf,Lm,vcs,seval,tys]|exact rfl|refine call_off (v:=.any) ?_|((refine call_full (caps:=?_) ?_ ?_ [sp,lb,b0+1,pb] (hcall _ ?_ ?_ ?_ ?_ only_mem _ (by omega) (by omega) (by omega) (by omega)) ?_ ?_);rotate_left 1)|((first|apply Ca|apply Cb)<;>intro hb)|refine Ai (by omega) ?_|(apply Ai<;>intro hb)
      all_goals ((refine again_can2 cxG (TkSt.mk R2 (q+1+j2.size) T S2) [some b0,some sp,some lb,some (b0+144),some pb] ?_ ?_ ?_ ?_;rotate_left 2;(focus (show b0≤_;omega));(focus (refine⟨?_,?_⟩<;>(try simp only[cans,ndC,plain_nd,plain_no,plain_pr,plain_at,plain_tk,n1,n2,n3,n4,n5,n6,n7,n8,n9,o4,o5,o6,z0,z1,z2,z3,y0,y1,y2,y3,x0,x1,x2,x3,w0,w1,w2,w3,Bool.and_self,Bool.and_false,Bool.false_and,Lm,vcs,seval,tys,injs])<;>(try omega)))))
      all_goals (first|(show R2.size<j2.size+R2.size+1;omega)|exact⟨hr2,⟨r',hd2'⟩,⟨er',he2'⟩,by show q+1+j2.size+R2.size=_;omega,g5',g6'⟩|skip)
theorem put_all (v:List Nd)(hv:v.length≤512)(hok:∀ n∈v,n.okTo lim∧n.i64)(en:List Nat)(hen:en.length=v.length)(sp lb pb:Nat)(d1:sp≠lb)(d2:sp≠pb)(d3:lb≠pb):∀(F:Fo) (d last:Nat),F.good d last=true→(∀ n∈F.flat,n∈v)→AllF (PutOk v en sp lb pb) F
 | .nil,_,_,_,_=>trivial
 | .cons n k r,d,last,h,hin=>by
  obtain⟨h1,h2,h3,h4,h5,h6⟩:=Fo.good_cons.1 h
  have hno:=hok n (hin n (by simp[Fo.flat]))
  refine⟨?_,put_all v hv hok en hen sp lb pb d1 d2 d3 r d n.kind h6 (fun x hx=>hin x (by simp[Fo.flat,hx]))⟩
  by_cases hk:n.kind=2
  ·exact put_text v hv en sp lb pb d1 d2 d3 n k hno.1 hk (Fo.text_leaf h hk)
  ·exact put_elem v hv en hen sp lb pb d1 d2 d3 n k hno.1 (mayN_attrs h1).1 hk h2 (put_all v hv hok en hen sp lb pb d1 d2 d3 k (d-1) 1 h5 (fun x hx=>hin x (by simp[Fo.flat,hx])))
theorem tokens_no (v:List Nd)(hv:v.length≤lim)(hok:∀ n∈v,n.okTo lim∧n.i64)(h:behindO v=none)(nm:Nat):Ev cx 23 nm [.sl false 6 (v.map ndC)] Mem.nil (.tup [.nils,.int .i64 8]) []:=by
 have hb:=behind_none_ev v hv hok h
 refine ev_go rfl (fun cargs w=>call23 cargs w) func23 rfl mixed (by kernel_rfl) rfl ?_;intro b0 hb0
 (repeat' first|simp only[fins,mems,results23,ntmps23,wks,plain_nd,vcs,seval,tys]|exact rfl|refine call_off (v:=.any) ?_|(first|(refine call_fn ?_ (hb _) ?_)|(refine call_fn_g ?_ (fun _=>hb _) ?_))|((first|apply Ca|apply Cb)<;>intro hb)|refine Ai (by omega) ?_|(apply Ai<;>intro hb)|refine Fin.pure ?_ ?_ ?_|simp only[injs])
def toksE (n:Nd)(k:Fo):Int:=if spacedL (n::k.flat)=true then 8 else if 512<(Fo.cons n k .nil).toks.length then 4 else 0
theorem tokens_all (n:Nd)(k:Fo)(hk1:n.kind=1)(hg:(Fo.cons n k .nil).good 12 0=true)(hl:k.size+1≤512)(hok:∀ x∈n::k.flat,x.okTo lim∧x.i64)(r:V)(eff:List (Nat×Option Blk))(nm:Nat)
  (hr:(toksE n k≠0∧r = .tup [.nils,.int .i64 (toksE n k)]∧eff=[])∨(toksE n k=0∧r = .tup [.own nm 0 (Fo.cons n k .nil).toks.length,.int .i64 0]∧eff=[(nm,some ⟨4,(Fo.cons n k .nil).toks.map tkC⟩)])) :
  Ev cx 23 nm [.sl false 6 ((n::k.flat).map ndC)] Mem.nil r eff:=by
 have hb:=behind_some_ev (n::k.flat) (by simp[Fo.flat_length];unfold lim;omega) hok (behind_of (Nat.le_refl _) hk1 hg hl)
 have htl:(Fo.cons n k .nil).toks.length≤1100:=by
  rw[Fo.toks_length hg]
  have:=List.length_filter_le (fun n:Nd=>decide (0<n.many)) (Fo.cons n k .nil).flat
  rw[Fo.flat_length]at this
  simp only[Fo.size]at this ⊢
  omega
 have hput:∀(sp lb pb:Nat),sp≠lb→sp≠pb→lb≠pb→PutOk (n::k.flat) ((1+k.size)::k.ends 1) sp lb pb n k:=fun sp lb pb d1 d2 d3 =>
  (put_all (n::k.flat) (by simp[Fo.flat_length];omega) hok ((1+k.size)::k.ends 1) (by simp[Fo.flat_length,Fo.ends_length]) sp lb pb d1 d2 d3 (.cons n k .nil) 12 0 hg (fun x hx=>by simpa [Fo.flat] using hx)).1
 have hcall:=fun (sp lb pb lk:Nat) (d1:sp≠lb) (d2:sp≠pb) (d3:lb≠pb) (M:Mem) (m:Nat) e1 e2 e3 a1 a2 a3 a4 a5 l1 l2 l3 l4=>hput sp lb pb d1 d2 d3 0 [] [] [] false lk M m (by simp) (by simp) (by simp;omega) e1 e2 e3 a1 a2 a3 a4 a5 l1 l2 l3 l4
 clear hput
 simp only[List.nil_append,List.length_nil,Lo,Bool.false_or]at hcall
 have hne:(((1+k.size)::k.ends 1).map noC).isEmpty=false:=rfl
 unfold toksE at hr
 have hev:((1+k.size)::k.ends 1).length=(n::k.flat).length:=by simp[Fo.flat_length,Fo.ends_length]
 generalize hV:n::k.flat=v at hb hcall hr hev ⊢
 generalize hEn:(1+k.size)::k.ends 1=en at hb hcall hne hev
 generalize (Fo.cons n k .nil).toks=T at htl hcall hr
 generalize spacedL v=S at hcall hr
 have hte:(en.map noC).take v.length=en.map noC:=List.take_of_length_le (by rw[Lm,hev];omega)
 have hlv:v.length≤en.length:=by omega
 have htt:(T.map tkC).take T.length=T.map tkC:=take_map_len _ _
 unfold pkC at hcall
 clear hok hg
 refine ev_goW rfl (fun cargs w=>call23 cargs w) func23 rfl mixed (by kernel_rfl) rfl ?_;intro b0 hb0
 repeat' first|simp only[fins,mems,results23,ntmps23,wks,vcs,seval,tys]|exact rfl|refine call_off (v:=.any) ?_|((first|apply Ca|apply Cb)<;>intro hb)|refine Ai (by omega) ?_|(apply Ai<;>intro hb)
 (refine mid_can_on cxG (b0+16) ([(1,.rp [.sl false 6 (v.map ndC)]),(2,.ptr b0 0 0)]) ([(b0,⟨1,[[.nils]]⟩)]) [some (b0+16)] ?_ ?_ ?_;(focus (show b0≤_;omega));(focus (refine⟨?_,?_⟩<;>(try simp only[cans,canfs,plain_nd,isRow_inst,leLL_same,vcs,seval,tys,injs])<;>(try omega))))
 repeat' first|simp only[fins,mems,results23,ntmps23,wks,plain_nd,vcs,seval,tys]|exact rfl|refine call_off (v:=.any) ?_|(refine call_fn_new ?_ (hb _) ?_ ?_)|omega|((first|apply Ca|apply Cb)<;>intro hb)|refine Ai (by omega) ?_|(apply Ai<;>intro hb)
 (refine mid_can_on cxG (b0+16) ([(1,.rp [.sl false 6 (v.map ndC)]),(2,.ptr b0 0 0),(4,.ptr (b0+1) 0 0)]) ([(b0,⟨1,[[.nils]]⟩),(b0+1,⟨1,[[.sl false 1 (en.map noC)]]⟩)]) [some b0,some (b0+48)] ?_ ?_ ?_;(focus (show b0≤_;omega));(focus (refine⟨?_,?_⟩<;>(try simp only[cans,canfs,hte,hlv,or_true,plain_nd,plain_no,isRow_inst,leLL_same,Lm,vcs,seval,tys,injs])<;>(try omega))))
 repeat' first|simp only[fins,mems,results23,ntmps23,wks,hne,plain_nd,plain_no,vcs,seval,tys]|exact rfl|refine call_off (v:=.any) ?_|((first|apply Ca|apply Cb)<;>intro hb)|refine Ai (by omega) ?_|(apply Ai<;>intro hb)
 ·cases hb
 (refine mid_can_on cxG (b0+16) ([(1,.rp [.sl false 6 (v.map ndC)]),(2,.ptr b0 0 0),(4,.rp [.sl false 1 (en.map noC)])]) ([(b0,⟨1,[[.nils]]⟩)]) [some b0] ?_ ?_ ?_;(focus (show b0≤_;omega));(focus (refine⟨?_,?_⟩<;>(try simp only[cans,canfs,plain_nd,plain_no,isRow_inst,leLL_same,Lm,vcs,seval,tys,injs])<;>(try omega))))
 repeat' first|simp only[fins,mems,results23,ntmps23,wks,plain_nd,plain_no,vcs,seval,tys]|exact rfl|refine call_off (v:=.any) ?_|((first|apply Ca|apply Cb)<;>intro hb)|refine Ai (by omega) ?_|(apply Ai<;>intro hb)
 refine mid_skip ?_
 repeat' first|simp only[fins,mems,results23,ntmps23,wks,plain_nd,plain_no,vcs,seval,tys]|exact rfl|refine call_off (v:=.any) ?_|((first|apply Ca|apply Cb)<;>intro hb)|refine Ai (by omega) ?_|(apply Ai<;>intro hb)
 refine mid_skip ?_
 repeat' first|simp only[fins,mems,results23,ntmps23,wks,plain_nd,plain_no,vcs,seval,tys]|exact rfl|refine call_off (v:=.any) ?_|((first|apply Ca|apply Cb)<;>intro hb)|refine Ai (by omega) ?_|(apply Ai<;>intro hb)
 (refine mid_can cxG (b0+16) ([(2,.ptr b0 0 0),(5,.ptr (b0+1) 0 0),(6,.ptr (b0+2) 0 0)]) ([(b0,⟨1,[[.own (b0+3) 0 0]]⟩),(b0+1,⟨1,[[.bool false]]⟩),(b0+2,⟨1,[[.fn 63 [.rp [.sl false 6 (v.map ndC)],.ptr (b0+1) 0 0,.ptr b0 0 0,.rp [.sl false 1 (en.map noC)],.ptr (b0+2) 0 0]]]⟩),(b0+3,⟨4,[]⟩)]) [some b0,some (b0+16),some (b0+48),none] ?_ ?_ ?_;(focus (show b0≤_;omega));(focus (refine⟨?_,?_⟩<;>(try simp only[cans,plain_nd,plain_no,isRow_inst,leLL_same,Bool.and_self,Bool.and_false,Bool.false_and,Lm,vcs,seval,tys,injs])<;>(try omega))))
 cases S with
 | true =>
  have hre:r = .tup [.nils,.int .i64 8]∧eff=[]:=by
   rcases hr with ⟨_,h⟩|⟨h,_⟩
   ·exact h
   ·simp at h
  obtain⟨rfl,rfl⟩:=hre
  repeat' first|simp only[fins,mems,results23,ntmps23,wks,plain_nd,plain_no,plain_tk,fresh_self,vcs,seval,tys]|exact rfl|refine call_off (v:=.any) ?_|((refine call_full (caps:=?_) ?_ ?_ [b0+1,b0,b0+3,b0+2] (hcall (b0+1) b0 (b0+2) (b0+3) (by omega) (by omega) (by omega) _ _ (by omega) (by omega) (by omega) ?_ ?_ ?_ ?_ only_mem (by omega) (by omega) (by omega) (by omega)) ?_ ?_);rotate_left 1)|((first|apply Ca|apply Cb)<;>intro hb)|refine Ai (by omega) ?_|(apply Ai<;>intro hb)
  all_goals ((refine Fin.pure ?_ ?_ ?_<;>simp only[wks,plain_nd,results23,ntmps23,vcs,seval,tys]))
 | false =>
  by_cases h5:512<T.length
  ·have hre:r = .tup [.nils,.int .i64 4]∧eff=[]:=by
    rcases hr with ⟨_,h⟩|⟨h,_⟩
    ·simpa [h5] using h
    ·simp[h5]at h
   obtain⟨rfl,rfl⟩:=hre
   have q1:decide ((512:Int)<(T.length:Int))=true:=decide_eq_true (by omega)
   have q2:decide (512<T.length)=true:=decide_eq_true h5
   repeat' first|simp only[fins,mems,results23,ntmps23,wks,q1,q2,plain_nd,plain_no,plain_tk,fresh_self,vcs,seval,tys]|exact rfl|refine call_off (v:=.any) ?_|((refine call_full (caps:=?_) ?_ ?_ [b0+1,b0,b0+3,b0+2] (hcall (b0+1) b0 (b0+2) (b0+3) (by omega) (by omega) (by omega) _ _ (by omega) (by omega) (by omega) ?_ ?_ ?_ ?_ only_mem (by omega) (by omega) (by omega) (by omega)) ?_ ?_);rotate_left 1)|((first|apply Ca|apply Cb)<;>intro hb)|refine Ai (by omega) ?_|(apply Ai<;>intro hb)
   all_goals ((refine Fin.pure ?_ ?_ ?_<;>simp only[wks,plain_nd,results23,ntmps23,vcs,seval,tys]))
  ·have hre:r = .tup [.own nm 0 T.length,.int .i64 0]∧eff=[(nm,some ⟨4,T.map tkC⟩)]:=by
    rcases hr with ⟨h,_⟩|⟨_,h⟩
    ·simp[h5]at h
    ·exact h
   obtain⟨rfl,rfl⟩:=hre
   have q1:decide ((512:Int)<(T.length:Int))=false:=decide_eq_false (by omega)
   have q2:decide (512<T.length)=false:=decide_eq_false h5
   repeat' first|simp only[fins,mems,results23,ntmps23,wks,q1,q2,plain_nd,plain_no,plain_tk,fresh_self,vcs,seval,tys]|exact rfl|refine call_off (v:=.any) ?_|((refine call_full (caps:=?_) ?_ ?_ [b0+1,b0,b0+3,b0+2] (hcall (b0+1) b0 (b0+2) (b0+3) (by omega) (by omega) (by omega) _ _ (by omega) (by omega) (by omega) ?_ ?_ ?_ ?_ only_mem (by omega) (by omega) (by omega) (by omega)) ?_ ?_);rotate_left 1)|((first|apply Ca|apply Cb)<;>intro hb)|refine Ai (by omega) ?_|(apply Ai<;>intro hb)
   all_goals ((refine Fin.give [(b0+32,some 0)] [] ?_ ?_ ?_ ?_ ?_ (fun q hq=>by have hqq:=nil_mem q hq;first|(simp only[gives,tgt,Lc,Lo,Lk,Ln,or_false]at hqq ⊢;omega)|(simp only[gives,tgt,Lc,Lo,Lk,Ln,or_false]at hqq))<;>(try simp only[results23,ntmps23,wks,plain_tk,Lm,giv,vcs,seval,tys])<;>(try simp only[injs])<;>(try omega)))
def partV (v:List Nd):V:=.sl false 6 (v.map ndC)
def partC (v:List Nd):List V:=[.sl false 6 (v.map ndC)]
theorem plain_pt (l:List (List Nd)):plainLL (l.map partC)=true:=plainLL_map _ (fun v=>by simp[partC,plainL,V.plain,plain_nd]) l
theorem indexpt_ev (l:List (List Nd))(f:Nat)(caps:List V)(p:(List Nd)→Bool)(hf:∀ h∈l,∀ nm,Ev cx f nm (partV h::caps) Mem.nil (.bool (p h)) [])(hn:l.length≤lim)(hpl:plainL caps=true)(nm:Nat):Ev cx 117 nm [.sl false 1 (l.map partC),.fn f caps] Mem.nil (.int .i64 (idxI (l.findIdx? p))) []:=by
 unfold lim at hn
 refine ev_go rfl (fun cargs w=>call117 cargs w) func117 rfl mixed (by kernel_rfl) rfl ?_;intro b0 hb0
 repeat' first|simp only[fins,mems,results117,ntmps117,wks,vcs,seval,tys]|exact rfl|refine call_off (v:=.any) ?_|((first|(refine call_val (g:=?_) ?_ ?_)|(refine call_valg (g:=?_) ?_ ?_));rotate_left 1;(focus (simp only[results117,ntmps117,wks,vcs,seval,tys]<;>exact rfl)))|((first|apply Ca|apply Cb)<;>intro hb)|refine Ai (by omega) ?_|(apply Ai<;>intro hb)
 (refine loop_can2 cxG (fun x:Nat=>l.length-x) (fun x=>x≤l.length∧(l.take x).any p=false) (b0+16) (fun x=>[(0,.sl false 1 (l.map partC)),(1,.fn f caps),(7,.int .i64 l.length),(8,.int .i64 x)]) (fun x=>[]) (0) [] ?_ ?_ ?_ ?_;rotate_left 1;(focus (show b0≤_;omega));(focus (refine⟨?_,?_⟩<;>(try simp only[cans,Lm,plain_pt,finL_caps hpl,finLOk_caps hpl,vcs,seval,tys,injs])<;>(try omega)));rotate_left 1)
 ·exact⟨Nat.zero_le _,by simp⟩
 ·rintro k ⟨hk,hno⟩
  by_cases hlt:k<l.length
  ·obtain⟨h,hh⟩:∃ h,l[k]? = some h:=⟨_,List.getElem?_eq_getElem hlt⟩
   have hat:(l.map partC)[k]? = some (partC h):=by rw[List.getElem?_map,hh];rfl
   have hd:decide (k<l.length)=true:=decide_eq_true hlt
   have hwk:IntKind.i64.wrap ((k:Int)+1)=((k+1:Nat):Int):=wrap_in (by omega) (by omega)
   have hfh:=hf h (List.mem_of_getElem? hh)
   cases hp:p h with
   | true =>
    have hfd:=find_at2 hno hh hp
    rw[hp]at hfh
    (repeat' first|simp only[fins,mems,results117,ntmps117,wks,hat,partC,partV,hlt,hd,hwk,hfd,idxI_some,Lm,vcs,seval,tys]|exact rfl|refine call_off (v:=.any) ?_|refine call_pure (g:=f) (caps:=caps) (by simp only[results117,ntmps117,wks,hat,partC,partV,hlt,hd,hwk,hfd,idxI_some,Lm,vcs,seval,tys]<;>exact rfl) (by simp only[results117,ntmps117,wks,hat,partC,partV,hlt,hd,hwk,hfd,idxI_some,Lm,vcs,seval,tys]<;>exact rfl) (hfh _) ?_|((first|(refine call_val (g:=?_) ?_ ?_)|(refine call_valg (g:=?_) ?_ ?_));rotate_left 1;(focus (simp only[results117,ntmps117,wks,hat,partC,partV,hlt,hd,hwk,hfd,idxI_some,Lm,vcs,seval,tys]<;>exact rfl)))|((first|apply Ca|apply Cb)<;>intro hb)|refine Ai (by omega) ?_|(apply Ai<;>intro hb)|refine Fin.pure ?_ ?_ ?_|simp only[injs])
   | false =>
    have hn':=notany_succ (p:=p) hno hh hp
    rw[hp]at hfh
    repeat' first|simp only[fins,mems,results117,ntmps117,wks,hat,partC,partV,hlt,hd,hwk,Lm,vcs,seval,tys]|exact rfl|refine call_off (v:=.any) ?_|refine call_pure (g:=f) (caps:=caps) (by simp only[results117,ntmps117,wks,hat,partC,partV,hlt,hd,hwk,Lm,vcs,seval,tys]<;>exact rfl) (by simp only[results117,ntmps117,wks,hat,partC,partV,hlt,hd,hwk,Lm,vcs,seval,tys]<;>exact rfl) (hfh _) ?_|((first|(refine call_val (g:=?_) ?_ ?_)|(refine call_valg (g:=?_) ?_ ?_));rotate_left 1;(focus (simp only[results117,ntmps117,wks,hat,partC,partV,hlt,hd,hwk,Lm,vcs,seval,tys]<;>exact rfl)))|((first|apply Ca|apply Cb)<;>intro hb)|refine Ai (by omega) ?_|(apply Ai<;>intro hb)
    all_goals ((refine again_can2 cxG (k+1) [] ?_ ?_ ?_ ?_;rotate_left 2;(focus (show b0≤_;omega));(focus (refine⟨?_,?_⟩<;>(try simp only[cans,plain_pt,finL_caps hpl,finLOk_caps hpl,hwk,vcs,seval,tys,injs])<;>(try omega)))))
    all_goals (first|(show l.length-(k+1)<l.length-k;omega)|exact⟨hlt,hn'⟩|skip)
  ·have hke:k=l.length:=by omega
   subst hke
   rw[List.take_length]at hno
   have hfd:=find_none2 hno
   have hd:decide (l.length<l.length)=false:=decide_eq_false (by omega)
   (repeat' first|simp only[fins,mems,results117,ntmps117,wks,hd,hfd,idxI_none,Lm,vcs,seval,tys]|exact rfl|refine call_off (v:=.any) ?_|((first|(refine call_val (g:=?_) ?_ ?_)|(refine call_valg (g:=?_) ?_ ?_));rotate_left 1;(focus (simp only[results117,ntmps117,wks,hd,hfd,idxI_none,Lm,vcs,seval,tys]<;>exact rfl)))|((first|apply Ca|apply Cb)<;>intro hb)|refine Ai (by omega) ?_|(apply Ai<;>intro hb)|refine Fin.pure ?_ ?_ ?_|simp only[injs])
theorem containspt_ev (l:List (List Nd))(f:Nat)(caps:List V)(p:(List Nd)→Bool)(hf:∀ h∈l,∀ nm,Ev cx f nm (partV h::caps) Mem.nil (.bool (p h)) [])(hn:l.length≤lim)(hpl:plainL caps=true)(nm:Nat):Ev cx 82 nm [.sl false 1 (l.map partC),.fn f caps] Mem.nil (.bool (l.any p)) []:=by
 have hi:=indexpt_ev l f caps p hf hn hpl
 cases h:l.findIdx? p with
 | none =>
  have ha:l.any p=false:=any_none h
  rw[h]at hi
  refine ev_go rfl (fun cargs w=>call82 cargs w) func82 rfl mixed (by kernel_rfl) rfl ?_;intro b0 hb0
  (repeat' first|simp only[fins,mems,results82,ntmps82,wks,ha,idxI_none,vcs,seval,tys]|exact rfl|refine call_off (v:=.any) ?_|(first|(refine call_fn ?_ (hi _) ?_)|(refine call_fn_g ?_ (fun _=>hi _) ?_))|((first|apply Ca|apply Cb)<;>intro hb)|refine Ai (by omega) ?_|(apply Ai<;>intro hb)|refine Fin.pure ?_ ?_ ?_|simp only[injs])
 | some n =>
  have ha:l.any p=true:=any_some h
  rw[h]at hi
  have hz:decide ((0:Int)≤(n:Int))=true:=decide_eq_true (by omega)
  refine ev_go rfl (fun cargs w=>call82 cargs w) func82 rfl mixed (by kernel_rfl) rfl ?_;intro b0 hb0
  (repeat' first|simp only[fins,mems,results82,ntmps82,wks,ha,idxI_some,hz,vcs,seval,tys]|exact rfl|refine call_off (v:=.any) ?_|(first|(refine call_fn ?_ (hi _) ?_)|(refine call_fn_g ?_ (fun _=>hi _) ?_))|((first|apply Ca|apply Cb)<;>intro hb)|refine Ai (by omega) ?_|(apply Ai<;>intro hb)|refine Fin.pure ?_ ?_ ?_|simp only[injs])
theorem put1_ev (v:List Nd)(hv:v.length≤lim)(hok:∀ n∈v,n.okTo lim∧n.i64)(nm:Nat):Ev cx 80 nm [.sl false 6 (v.map ndC)] Mem.nil (.bool (txtPart v)) []:=by
 match v,hv,hok with
 | [],_,_ =>
  refine ev_go rfl (fun cargs w=>call80 cargs w) func80 rfl mixed (by kernel_rfl) rfl ?_;intro b0 hb0
  (repeat' first|simp only[fins,mems,results80,ntmps80,wks,txtPart,plain_nd,Lo,List.length_nil,vcs,seval,tys]|exact rfl|refine call_off (v:=.any) ?_|((first|apply Ca|apply Cb)<;>intro hb)|refine Ai (by omega) ?_|(apply Ai<;>intro hb)|refine Fin.pure ?_ ?_ ?_|simp only[injs])
 | [x],_,hok =>
  have hm:=may_ev x (hok x (.head _)).1
  have hk:((x.kind:Int)==2)=decide (x.kind=2):=by rw[Bool.eq_iff_iff];simp;omega
  have hpl:plainL (ndC x)=true:=by simp[ndC,plainL,V.plain,plain_at]
  refine ev_go rfl (fun cargs w=>call80 cargs w) func80 rfl mixed (by kernel_rfl) rfl ?_;intro b0 hb0
  (repeat' first|simp only[fins,mems,results80,ntmps80,wks,txtPart,hk,ndC,plain_at,Lc,Lo,List.length_cons,List.length_nil,vcs,seval,tys]|exact rfl|refine call_off (v:=.any) ?_|(first|(refine call_fn ?_ (hm _) ?_)|(refine call_fn_g ?_ (fun _=>hm _) ?_))|((first|apply Ca|apply Cb)<;>intro hb)|refine Ai (by omega) ?_|(apply Ai<;>intro hb)|refine Fin.pure ?_ ?_ ?_|simp only[injs])
 | x::y::r,hv,_ =>
  have h1:(((r.length+1+1:Nat):Int)==1)=false:=beq_false_of_ne (by omega)
  have h2:(((r.length:Int)+1+1)==1)=false:=beq_false_of_ne (by omega)
  have ht:txtPart (x::y::r)=false:=rfl
  rw[ht]
  have hln:((x::y::r).map ndC).length=r.length+1+1:=by simp
  have hpl:=plain_nd (x::y::r)
  generalize (x::y::r).map ndC=rows at hln hpl ⊢
  refine ev_go rfl (fun cargs w=>call80 cargs w) func80 rfl mixed (by kernel_rfl) rfl ?_;intro b0 hb0
  (repeat' first|simp only[fins,mems,results80,ntmps80,wks,h1,h2,hln,hpl,vcs,seval,tys]|exact rfl|refine call_off (v:=.any) ?_|((first|apply Ca|apply Cb)<;>intro hb)|refine Ai (by omega) ?_|(apply Ai<;>intro hb)|refine Fin.pure ?_ ?_ ?_|simp only[injs])
theorem put2_ev (v:List Nd)(hv:v.length≤lim)(hok:∀ n∈v,n.okTo lim∧n.i64)(nm:Nat):Ev cx 83 nm [partV v,.rp [.fn 80 []]] Mem.nil (.bool (partBad v)) []:=by
 have h1:=put1_ev v hv hok
 unfold partBad partV
 cases ht:txtPart v with
 | true =>
  rw[ht]at h1
  refine ev_go rfl (fun cargs w=>call83 cargs w) func83 rfl mixed (by kernel_rfl) rfl ?_;intro b0 hb0
  (repeat' first|simp only[fins,mems,results83,ntmps83,wks,plain_nd,Bt,Bf,Bool.false_and,vcs,seval,tys]|exact rfl|refine call_off (v:=.any) ?_|(first|(refine call_fn ?_ (h1 _) ?_)|(refine call_fn_g ?_ (fun _=>h1 _) ?_))|((first|(refine call_val (g:=?_) ?_ ?_)|(refine call_valg (g:=?_) ?_ ?_));rotate_left 1;(focus (simp only[results83,ntmps83,wks,plain_nd,Bt,Bf,Bool.false_and,vcs,seval,tys]<;>exact rfl)))|((first|apply Ca|apply Cb)<;>intro hb)|refine Ai (by omega) ?_|(apply Ai<;>intro hb)|refine Fin.pure ?_ ?_ ?_|simp only[injs])
 | false =>
  rw[ht]at h1
  cases hb:behindO v with
  | none =>
   have h2:=behind_none_ev v hv hok hb
   refine ev_go rfl (fun cargs w=>call83 cargs w) func83 rfl mixed (by kernel_rfl) rfl ?_;intro b0 hb0
   (repeat' first|simp only[fins,mems,results83,ntmps83,wks,plain_nd,Bt,Bf,Bool.true_and,Option.isNone_none,vcs,seval,tys]|exact rfl|refine call_off (v:=.any) ?_|((first|(refine call_fn ?_ (h1 _) ?_)|(refine call_fn_g ?_ (fun _=>h1 _) ?_));(focus (simp only[results83,ntmps83,wks,plain_nd,Bt,Bf,Bool.true_and,Option.isNone_none,vcs,seval,tys]<;>exact rfl)))|((first|(refine call_fn ?_ (h2 _) ?_)|(refine call_fn_g ?_ (fun _=>h2 _) ?_));(focus (simp only[results83,ntmps83,wks,plain_nd,Bt,Bf,Bool.true_and,Option.isNone_none,vcs,seval,tys]<;>exact rfl)))|((first|(refine call_val (g:=?_) ?_ ?_)|(refine call_valg (g:=?_) ?_ ?_));rotate_left 1;(focus (simp only[results83,ntmps83,wks,plain_nd,Bt,Bf,Bool.true_and,Option.isNone_none,vcs,seval,tys]<;>exact rfl)))|((first|apply Ca|apply Cb)<;>intro hb)|refine Ai (by omega) ?_|(apply Ai<;>intro hb)|refine Fin.pure ?_ ?_ ?_|simp only[injs])
  | some en =>
   have h2:=behind_some_ev v hv hok hb
   have h0:decide (v.length=0)=false:=decide_eq_false (by have:=(ends_ok hb).2.1;omega)
   simp only[Option.isNone_some,Bool.and_false]
   refine Ev.bit_false (b:=true) ?_
   refine ev_go rfl (fun cargs w=>call83 cargs w) func83 rfl mixed (by kernel_rfl) rfl ?_;intro b0 hb0
   repeat' first|simp only[fins,mems,results83,ntmps83,wks,h0,plain_nd,Bt,Bf,Bool.true_and,Option.isNone_none,vcs,seval,tys]|exact rfl|refine call_off (v:=.any) ?_|(first|(refine call_fn ?_ (h1 _) ?_)|(refine call_fn_g ?_ (fun _=>h1 _) ?_))|(refine call_on_fn ?_ [] (h2 _) ?_ ?_)|((first|(refine call_val (g:=?_) ?_ ?_)|(refine call_valg (g:=?_) ?_ ?_));rotate_left 1;(focus (simp only[results83,ntmps83,wks,h0,plain_nd,Bt,Bf,Bool.true_and,Option.isNone_none,vcs,seval,tys]<;>exact rfl)))|((first|apply Ca|apply Cb)<;>intro hb)|refine Ai (by omega) ?_|(apply Ai<;>intro hb)
   all_goals (first|omega|((refine Fin.pure ?_ ?_ ?_<;>simp only[wks,h0,plain_nd,results83,ntmps83,vcs,seval,tys])))
theorem flat_take {l:List (List Nd)}{k:Nat}{v:List Nd}(h:l[k]? = some v):(l.take (k+1)).flatten=(l.take k).flatten++v:=by
 obtain⟨hk,rfl⟩:=List.getElem?_eq_some_iff.1 h
 rw[List.take_succ_eq_append_getElem hk,List.flatten_append];simp
def outL (n:Nd)(l:List (List Nd))(k:Nat):List Nd:=n.to l.length::(l.take k).flatten
theorem outL_zero (n:Nd)(l:List (List Nd)):(outL n l 0).map ndC=[[.int .u8 n.kind,.str n.space,.str n.name,.sl false 3 (n.attrs.map atC),.str n.text,.int .i64 l.length]]:=rfl
theorem outL_len (n:Nd)(l:List (List Nd))(k:Nat):(outL n l k).length=1+((l.take k).flatten).length:=by unfold outL;rw[List.length_cons];omega
theorem outL_succ {n:Nd}{l:List (List Nd)}{k:Nat}{v:List Nd}(h:l[k]? = some v):outL n l (k+1)=outL n l k++v:=by unfold outL;rw[flat_take h];rfl
theorem outL_all (n:Nd)(l:List (List Nd)):outL n l l.length=n.to l.length::l.flatten:=by unfold outL;rw[List.take_length]
theorem pt_at {l:List (List Nd)}{k:Nat}{a:List Nd}(h:l[k]? = some a):(l.map partC)[k]? = some (partC a):=by rw[List.getElem?_map,h];rfl
theorem putr_all (n:Nd)(l:List (List Nd))(hn:n.okTo lim)(hl:l.length≤lim)(hok:∀ v∈l,v.length≤lim ∧ ∀ x∈v,x.okTo lim∧x.i64)(r:V)(eff:List (Nat×Option Blk))(nm:Nat)
  (hr:(putEr n l≠0∧r = .tup [.nils,.int .i64 (putEr n l)]∧eff=[])∨(putEr n l=0∧r = .tup [.own nm 0 (putTr n l).length,.int .i64 0]∧eff=[(nm,some ⟨6,(putTr n l).map ndC⟩)])) :
  Ev cx 33 nm [.agg (ndC n),.sl false 1 (l.map partC)] Mem.nil r eff:=by
 have hok0:∀ x∈[n.to 0],x.okTo lim∧x.i64:=fun x hx=>by
  simp at hx;subst hx
  exact⟨hn,by simp[Nd.i64,Nd.to]⟩
 have hl':=hl
 unfold lim at hl'
 have hrow0:([n.to 0].map ndC)=[[.int .u8 n.kind,.str n.space,.str n.name,.sl false 3 (n.attrs.map atC),.str n.text,.int .i64 0]]:=rfl
 have hpl0:=plain_nd [n.to 0]
 rw[hrow0]at hpl0
 cases hb:behindO [n.to 0] with
 | none =>
  have hE:putEr n l=8:=by unfold putEr;rw[hb];rfl
  have hre:r = .tup [.nils,.int .i64 8]∧eff=[]:=by
   rcases hr with ⟨_,h⟩|⟨h,_⟩
   ·rw[hE]at h;exact h
   ·rw[hE]at h;cases h
  obtain⟨rfl,rfl⟩:=hre
  have h1:=behind_none_ev [n.to 0] (by simp[lim]) hok0 hb
  rw[hrow0]at h1
  refine ev_go rfl (fun cargs w=>call33 cargs w) func33 rfl mixed (by kernel_rfl) rfl ?_;intro b0 hb0
  (repeat' first|simp only[fins,mems,results33,ntmps33,wks,ndC,plain_at,plain_pt,hpl0,vcs,seval,tys]|exact rfl|refine call_off (v:=.any) ?_|((refine call_fn_vx (xs:=?_) [b0+96] ?_ ?_ ?_ rfl (h1 _) ?_);rotate_left 1)|omega|((first|apply Ca|apply Cb)<;>intro hb)|refine Ai (by omega) ?_|(apply Ai<;>intro hb)|refine Fin.pure ?_ ?_ ?_|simp only[injs])
 | some en0 =>
  have h1:=behind_some_ev [n.to 0] (by simp[lim]) hok0 hb
  rw[hrow0]at h1
  simp only[List.length_cons,List.length_nil]at h1
  have hcon:=containspt_ev l 83 [.rp [.fn 80 []]] partBad (fun v hv nm=>put2_ev v (hok v hv).1 (hok v hv).2 nm) hl rfl
  cases ha:l.any partBad with
  | true =>
   rw[ha]at hcon
   have hE:putEr n l=8:=by unfold putEr;rw[hb,ha];rfl
   have hre:r = .tup [.nils,.int .i64 8]∧eff=[]:=by
    rcases hr with ⟨_,h⟩|⟨h,_⟩
    ·rw[hE]at h;exact h
    ·rw[hE]at h;cases h
   obtain⟨rfl,rfl⟩:=hre
   refine ev_go rfl (fun cargs w=>call33 cargs w) func33 rfl mixed (by kernel_rfl) rfl ?_;intro b0 hb0
   repeat' first|simp only[fins,mems,results33,ntmps33,wks,lostN_nil,lostN_cons,List.cons_append,List.nil_append,ndC,plain_at,plain_pt,hpl0,Lm,vcs,seval,tys]|exact rfl|refine call_off (v:=.any) ?_|((refine call_fn_lose (xs:=?_) [b0+96] ?_ ?_ ?_ ?_ (h1 _) ?_ ?_);rotate_left 1)|((refine call_fn_vx (xs:=?_) [b0+144] ?_ ?_ ?_ rfl (hcon _) ?_);rotate_left 1)|omega|((first|apply Ca|apply Cb)<;>intro hb)|refine Ai (by omega) ?_|(apply Ai<;>intro hb)
   all_goals (first|(cases hb;done)|((refine Fin.pure ?_ ?_ ?_<;>simp only[wks,plain_nd,results33,ntmps33,vcs,seval,tys])))
  | false =>
   rw[ha]at hcon
   have hp5:∀ v∈l,v.length≤512:=fun v hv=>by
    have h:=List.any_eq_false.1 ha v hv
    simp only[partBad,Bool.and_eq_true,Bool.not_eq_true',not_and,Bool.not_eq_true]at h
    cases ht:txtPart v with
    | true =>
     match v,ht with
     | [x],_=>simp
    | false =>
     have:=h ht
     cases hbv:behindO v with
     | none=>rw[hbv]at this;cases this
     | some en=>exact(ends_ok hbv).2.2.1
   have hE:putEr n l=if 512<1+(l.map List.length).sum then 4 else if (behindO (n.to l.length::l.flatten)).isNone=true then 8 else 0:=by unfold putEr;rw[hb,ha];rfl
   have hsum:∀ k,((l.take k).flatten).length≤(l.map List.length).sum:=fun k=>by
    rw[← List.length_flatten]
    have:l.flatten=(l.take k).flatten++(l.drop k).flatten:=by rw[← List.flatten_append,List.take_append_drop]
    rw[this,List.length_append];omega
   have hsum2:(l.flatten).length=(l.map List.length).sum:=List.length_flatten
   have hrowl:ndC (n.to l.length)=[.int .u8 n.kind,.str n.space,.str n.name,.sl false 3 (n.attrs.map atC),.str n.text,.int .i64 l.length]:=rfl
   refine ev_go rfl (fun cargs w=>call33 cargs w) func33 rfl mixed (by kernel_rfl) rfl ?_;intro b0 hb0
   repeat' first|simp only[fins,mems,results33,ntmps33,wks,lostN_nil,lostN_cons,List.cons_append,List.nil_append,ndC,plain_at,plain_pt,hpl0,Lm,vcs,seval,tys]|exact rfl|refine call_off (v:=.any) ?_|((refine call_fn_lose (xs:=?_) [b0+96] ?_ ?_ ?_ ?_ (h1 _) ?_ ?_);rotate_left 1)|((refine call_fn_vx (xs:=?_) [b0+144] ?_ ?_ ?_ rfl (hcon _) ?_);rotate_left 1)|omega|((first|apply Ca|apply Cb)<;>intro hb)|refine Ai (by omega) ?_|(apply Ai<;>intro hb)
   ·cases hb
   have hz1:(outL n l 0).length=1:=rfl
   (refine loop_can2 cxG (fun x:Nat=>l.length-x) (fun x=>x≤l.length∧(outL n l x).length≤512) (b0+16) (fun x=>[(7,.own b0 0 (outL n l x).length),(24,.sl false 1 (l.map partC)),(25,.int .i64 l.length),(26,.int .i64 x)]) (fun x=>[(b0,⟨6,(outL n l x).map ndC⟩)]) (0) [some (b0+304)] ?_ ?_ ?_ ?_;rotate_left 1;(focus (show b0≤_;omega));(focus (refine⟨?_,?_⟩<;>(try simp only[cans,outL_zero,hz1,ndC,Nd.to,plain_at,plain_pt,plain_nd,isRow_inst,Lc,Lo,Lm,vcs,seval,tys,injs])<;>(try omega)));rotate_left 1)
   ·exact⟨Nat.zero_le _,by rw[hz1];omega⟩
   ·rintro k ⟨hk,hk5⟩
    by_cases hlt:k<l.length
    ·obtain⟨v,hv⟩:∃ v,l[k]? = some v:=⟨_,List.getElem?_eq_getElem hlt⟩
     have hvl:=hp5 v (List.mem_of_getElem? hv)
     have hat:=pt_at hv
     have d1:decide ((k:Int)<(l.length:Int))=true:=decide_eq_true (by omega)
     have d2:decide (k<l.length)=true:=decide_eq_true hlt
     have hwk:IntKind.i64.wrap ((k:Int)+1)=((k+1:Nat):Int):=wrap_in (by omega) (by omega)
     have hsk:=hsum (k+1)
     have hlen1:=outL_len n l (k+1)
     have hsc:=outL_succ (n:=n) hv
     have hlen:(outL n l (k+1)).length=(outL n l k).length+v.length:=by rw[hsc,List.length_append]
     have hrows:(outL n l k).map ndC++v.map ndC=(outL n l (k+1)).map ndC:=by rw[hsc,List.map_append]
     have hsw:512<(outL n l (k+1)).length→putEr n l=4:=fun h=>by rw[hE,if_pos (by omega)]
     clear hsc
     have htk:((outL n l k).map ndC).take (outL n l k).length=(outL n l k).map ndC:=take_map_len _ _
     have hon:=one_ndL v
     have hf1:(outL n l k).length+v.length≤9223372036854775807:=by omega
     have hf2:((outL n l k).length+v.length)*88≤140737488355328:=by omega
     by_cases h5:512<(outL n l k).length+v.length
     ·have hre:r = .tup [.nils,.int .i64 4]∧eff=[]:=by
       have hE4:=hsw (by omega)
       rcases hr with ⟨_,h⟩|⟨h,_⟩
       ·rw[hE4]at h;exact h
       ·rw[hE4]at h;cases h
      obtain⟨rfl,rfl⟩:=hre
      have q1:decide ((512:Int)<(((outL n l k).length+v.length:Nat):Int))=true:=decide_eq_true (by omega)
      have q2:decide (512<(outL n l k).length+v.length)=true:=decide_eq_true h5
      repeat' first|simp only[fins,mems,results33,ntmps33,wks,hat,partC,hlt,d1,d2,htk,hon,hf1,hf2,q1,q2,plain_nd,Lm,vcs,seval,tys]|exact rfl|refine call_off (v:=.any) ?_|((first|apply Ca|apply Cb)<;>intro hb)|refine Ai (by omega) ?_|(apply Ai<;>intro hb)
      all_goals ((refine Fin.pure ?_ ?_ ?_<;>simp only[wks,plain_nd,results33,ntmps33,vcs,seval,tys]))
     ·have q1:decide ((512:Int)<(((outL n l k).length+v.length:Nat):Int))=false:=decide_eq_false (by omega)
      have q2:decide (512<(outL n l k).length+v.length)=false:=decide_eq_false h5
      repeat' first|simp only[fins,mems,results33,ntmps33,wks,hat,partC,hlt,d1,d2,htk,hon,hf1,hf2,hrows,hwk,q1,q2,plain_nd,Lm,vcs,seval,tys]|exact rfl|refine call_off (v:=.any) ?_|((first|apply Ca|apply Cb)<;>intro hb)|refine Ai (by omega) ?_|(apply Ai<;>intro hb)
      all_goals ((refine again_can2 cxG (k+1) [some (b0+112)] ?_ ?_ ?_ ?_;rotate_left 2;(focus (show b0≤_;omega));(focus (refine⟨?_,?_⟩<;>(try simp only[cans,hwk,hlen,plain_at,plain_pt,plain_nd,Lm,vcs,seval,tys,injs])<;>(try omega)))))
      all_goals (first|(show l.length-(k+1)<l.length-k;omega)|exact⟨hlt,by rw[hlen];omega⟩|skip)
    ·have hkl:k=l.length:=by omega
     subst hkl
     have d1:decide ((l.length:Int)<(l.length:Int))=false:=decide_eq_false (by omega)
     have d2:decide (l.length<l.length)=false:=decide_eq_false (by omega)
     have hlen1:=outL_len n l l.length
     rw[List.take_length,hsum2]at hlen1
     have hE2:putEr n l=checkB (outL n l l.length):=by rw[hE,if_neg (by omega),outL_all];rfl
     have hT:putEr n l=0→putTr n l=outL n l l.length:=fun h=>by unfold putTr;rw[if_pos h,outL_all]
     have hoko:∀ x∈outL n l l.length,x.okTo lim∧x.i64:=fun x hx=>by
      rw[outL_all]at hx
      rcases List.mem_cons.1 hx with rfl|hx
      ·exact⟨hn,by simp only[Nd.i64,Nd.to];omega⟩
      ·obtain⟨v,hv,hxv⟩:=List.mem_flatten.1 hx
       exact(hok v hv).2 x hxv
     have hck:=checkT_ev (outL n l l.length) (by unfold lim;omega) hoko
     rw[← hE2]at hck
     have htw:=fun (h:putEr n l=0)=>twin_ev (outL n l l.length) (by omega) (fun x hx=>by
      rw[hE2]at h
      unfold checkB at h
      cases hbo:behindO (outL n l l.length) with
      | none=>rw[hbo]at h;cases h
      | some en=>have:=(mayN_attrs (ends_may hbo x hx)).1;omega)
     have hpl1:=plain_nd (outL n l l.length)
     have htk:((outL n l l.length).map ndC).take (outL n l l.length).length=(outL n l l.length).map ndC:=take_map_len _ _
     generalize hOUT:outL n l l.length=OUT at hk5 hck htw hT hpl1 htk ⊢
     by_cases hz:putEr n l=0
     ·have hre:r = .tup [.own nm 0 OUT.length,.int .i64 0]∧eff=[(nm,some ⟨6,OUT.map ndC⟩)]:=by
       rcases hr with ⟨h,_⟩|⟨_,h⟩
       ·exact absurd hz h
       ·rw[hT hz]at h;exact h
      obtain⟨rfl,rfl⟩:=hre
      have htw:=htw hz
      rw[hz]at hck
      repeat' first|simp only[fins,mems,results33,ntmps33,wks,lostN_nil,lostN_cons,List.cons_append,List.nil_append,d1,d2,htk,plain_nd,Lm,vcs,seval,tys]|exact rfl|refine call_off (v:=.any) ?_|((refine call_fn_vx (xs:=?_) [b0] ?_ ?_ ?_ rfl (hck _) ?_);rotate_left 1)|((refine call_fn_lose (xs:=?_) [b0] ?_ ?_ ?_ ?_ (htw _) ?_ ?_);rotate_left 1)|omega|((first|apply Ca|apply Cb)<;>intro hb)|refine Ai (by omega) ?_|(apply Ai<;>intro hb)
      all_goals ((refine Fin.give [(b0+128,some 0)] [] ?_ ?_ ?_ ?_ ?_ (fun q hq=>by have hqq:=nil_mem q hq;first|(simp only[gives,tgt,Lc,Lo,Lk,Ln,or_false]at hqq ⊢;omega)|(simp only[gives,tgt,Lc,Lo,Lk,Ln,or_false]at hqq))<;>(try simp only[results33,ntmps33,wks,plain_nd,Lm,giv,vcs,seval,tys])<;>(try simp only[injs])<;>(try omega)))
     ·have hre:r = .tup [.nils,.int .i64 (putEr n l)]∧eff=[]:=by
       rcases hr with ⟨_,h⟩|⟨h,_⟩
       ·exact h
       ·exact absurd h hz
      obtain⟨rfl,rfl⟩:=hre
      have q3:(putEr n l != 0)=true:=by simpa using hz
      repeat' first|simp only[fins,mems,results33,ntmps33,wks,d1,d2,htk,q3,plain_nd,Bt,Bf,Lm,vcs,seval,tys]|exact rfl|refine call_off (v:=.any) ?_|((refine call_fn_vx (xs:=?_) [b0] ?_ ?_ ?_ rfl (hck _) ?_);rotate_left 1)|omega|((first|apply Ca|apply Cb)<;>intro hb)|refine Ai (by omega) ?_|(apply Ai<;>intro hb)
      all_goals ((refine Fin.pure ?_ ?_ ?_<;>simp only[wks,plain_nd,results33,ntmps33,vcs,seval,tys]))
end Go.Proofs.YtjdjclecdfhciaaGreatDoor
