/-
 Texts joined: XEm,XSb,XLt,XLc,XLd,XLe,XLf,XUb,XLo.
-/
import Derived.Test.YtfcfldmioonipaaQg
import Derived.Test.YtfcfldmioonipaaQf
namespace Go.Proofs.Ytfcfldmioonipaa
set_option maxRecDepth 100000
set_option maxHeartbeats 32000000
set_option linter.unusedSimpArgs false
set_option linter.unusedVariables false
open Go Go.RowKit Vm Go.Lib Try
open Vm renaming cond_bool→Ca,cond_bit→Cb
open And renaming intro→Ai
open List renaming length_map→Lm,not_mem_nil→Ln,map_nil→Lo,map_cons→Lc,mem_cons→Lk
open Bool renaming not_false→Bf,not_true→Bt
theorem full_ev (s:List UInt8)(hs:s.length≤lim)(nm:Nat):Ev cx 55 nm [.str s] Mem.nil (.bool (fullL s)) []:=by
 have hev:=cut_ev s 58 hs
 cases hc:cut1 58 s with
 | none =>
  have ev:cutV 58 s = .tup [.str s,.str [],.bool false]:=by unfold cutV;rw[hc]
  have hf:fullL s=nameL s:=by unfold fullL;rw[hc]
  have hn:=name_ev s hs
  rw[ev]at hev
  rw[hf]
  cases h:nameL s<;>rw[h]at hn<;>(
   refine ev_go rfl (fun cargs w=>call55 cargs w) func55 rfl mixed (by kernel_rfl) rfl ?_;intro b0 hb0
   (repeat' first|simp only[fins,mems,results55,ntmps55,wks,vcs,seval,tys]|exact rfl|refine call_off (v:=.any) ?_|(first|(refine call_fn ?_ (hev _) ?_)|(refine call_fn_g ?_ (fun _=>hev _) ?_)|(refine call_fn ?_ (hn _) ?_)|(refine call_fn_g ?_ (fun _=>hn _) ?_))|(refine call_off (v:=.any) ?_)|((first|apply Ca|apply Cb)<;>intro hb)|refine Ai (by omega) ?_|(apply Ai<;>intro hb)|refine Fin.pure ?_ ?_ ?_|simp only[injs]))
 | some p =>
  obtain⟨a,b⟩:=p
  obtain⟨_,_,_,e3⟩:=index1_some hc
  have ev:cutV 58 s = .tup [.str a,.str b,.bool true]:=by unfold cutV;rw[hc]
  have hf:fullL s=(nameL a&&nameL b):=by unfold fullL;rw[hc]
  have hn1:=name_ev a (by omega)
  have hn2:=name_ev b (by omega)
  rw[ev]at hev
  rw[hf]
  cases h1:nameL a<;>rw[h1]at hn1<;>(
   refine ev_go rfl (fun cargs w=>call55 cargs w) func55 rfl mixed (by kernel_rfl) rfl ?_;intro b0 hb0
   (repeat' first|simp only[fins,mems,results55,ntmps55,wks,vcs,seval,tys]|exact rfl|refine call_off (v:=.any) ?_|((first|(refine call_fn ?_ (hn1 _) ?_)|(refine call_fn_g ?_ (fun _=>hn1 _) ?_));(focus (simp only[results55,ntmps55,wks,vcs,seval,tys]<;>exact rfl)))|((first|(refine call_fn ?_ (hn2 _) ?_)|(refine call_fn_g ?_ (fun _=>hn2 _) ?_));(focus (simp only[results55,ntmps55,wks,vcs,seval,tys]<;>exact rfl)))|(first|(refine call_fn ?_ (hev _) ?_)|(refine call_fn_g ?_ (fun _=>hev _) ?_))|(refine call_off (v:=.any) ?_)|((first|apply Ca|apply Cb)<;>intro hb)|refine Ai (by omega) ?_|(apply Ai<;>intro hb)|refine Fin.pure ?_ ?_ ?_|simp only[injs]))
def partsV (d:UInt8)(s:List UInt8):V:=match cut1 d s with
 | none=>.tup [.str [],.str s,.bool false]
 | some (a,b)=>.tup [.str a,.str b,.bool true]
theorem notin_succ {d:UInt8}{s:List UInt8}{k:Nat}{c:UInt8}(h:d ∉ s.take k)(hc:s[k]? = some c)(hne:c≠d):d ∉ s.take (k+1):=by
 obtain⟨hk,rfl⟩:=List.getElem?_eq_some_iff.1 hc
 rw[List.take_succ_eq_append_getElem hk]
 simp only[List.mem_append,List.mem_singleton,not_or]
 exact⟨h,fun e=>hne e.symm⟩
theorem rParts_ev (s:List UInt8)(hs:s.length≤lim)(nm:Nat):Ev cx 71 nm [.str s] Mem.nil (partsV 58 s) []:=by
 unfold lim at hs
 refine ev_go rfl (fun cargs w=>call71 cargs w) func71 rfl mixed (by kernel_rfl) rfl ?_;intro b0 hb0
 repeat' first|simp only[fins,mems,results71,ntmps71,wks,vcs,seval,tys]|exact rfl|refine call_off (v:=.any) ?_|refine draw_end (by decide +kernel) ?_|((first|apply Ca|apply Cb)<;>intro hb)|refine Ai (by omega) ?_|(apply Ai<;>intro hb)
 (refine loop_can2 cxG (fun x:Nat=>s.length-x) (fun x=>x≤s.length∧(58:UInt8) ∉ s.take x) (b0+16) (fun x=>[(0,.str s),(5,.int .i64 x)]) (fun x=>[]) (0) [] ?_ ?_ ?_ ?_;rotate_left 1;(focus (show b0≤_;omega));(focus (refine⟨?_,?_⟩<;>(try simp only[cans,vcs,seval,tys,injs])<;>(try omega)));rotate_left 1)
 ·exact⟨Nat.zero_le _,by simp⟩
 ·rintro k ⟨hk,hn⟩
  by_cases hlt:k<s.length
  ·obtain⟨c,hc⟩:∃ c,s[k]? = some c:=⟨_,List.getElem?_eq_getElem hlt⟩
   have hd:decide (k<s.length)=true:=decide_eq_true hlt
   have hwk:IntKind.i64.wrap ((k:Int)+1)=((k+1:Nat):Int):=wrap_in (by omega) (by omega)
   have q8:((c.toNat:Int)==58)=decide (c=58):=beq_byte c 58
   by_cases h8:c=58
   ·have h8':decide (c=58)=true:=decide_eq_true h8
    subst h8
    have ev:partsV 58 s = .tup [.str (s.take k),.str (s.drop (k+1)),.bool true]:=by unfold partsV;rw[cut1_at hn hc]
    have h3:((k+1:Nat):Int)≤s.length:=by omega
    have h5:k+1≤s.length:=by omega
    (repeat' first|simp only[fins,mems,results71,ntmps71,wks,hc,hd,hlt,hwk,q8,h8',ev,h3,h5,hk,vcs,seval,tys]|exact rfl|refine call_off (v:=.any) ?_|refine draw_end (by decide +kernel) ?_|((first|apply Ca|apply Cb)<;>intro hb)|refine Ai (by omega) ?_|(apply Ai<;>intro hb)|refine Fin.pure ?_ ?_ ?_|simp only[injs])
   ·have h8':decide (c=58)=false:=decide_eq_false h8
    repeat' first|simp only[fins,mems,results71,ntmps71,wks,hc,hd,hlt,hwk,q8,h8',vcs,seval,tys]|exact rfl|refine call_off (v:=.any) ?_|refine draw_end (by decide +kernel) ?_|((first|apply Ca|apply Cb)<;>intro hb)|refine Ai (by omega) ?_|(apply Ai<;>intro hb)
    all_goals ((refine again_can2 cxG (k+1) [] ?_ ?_ ?_ ?_;rotate_left 2;(focus (show b0≤_;omega));(focus (refine⟨?_,?_⟩<;>(try simp only[cans,hwk,vcs,seval,tys,injs])<;>(try omega)))))
    all_goals (first|(show s.length-(k+1)<s.length-k;omega)|exact⟨hlt,notin_succ hn hc h8⟩|skip)
  ·have hke:k=s.length:=by omega
   subst hke
   rw[List.take_length]at hn
   have hd:decide (s.length<s.length)=false:=decide_eq_false (by omega)
   have ev:partsV 58 s = .tup [.str [],.str s,.bool false]:=by unfold partsV;rw[cut1_none.2 hn]
   (repeat' first|simp only[fins,mems,results71,ntmps71,wks,hd,ev,vcs,seval,tys]|exact rfl|refine call_off (v:=.any) ?_|refine draw_end (by decide +kernel) ?_|((first|apply Ca|apply Cb)<;>intro hb)|refine Ai (by omega) ?_|(apply Ai<;>intro hb)|refine Fin.pure ?_ ?_ ?_|simp only[injs])
theorem rFull_ev (s:List UInt8)(hs:s.length≤lim)(nm:Nat):Ev cx 59 nm [.str s] Mem.nil (.bool (fullL s)) []:=by
 have hev:=rParts_ev s hs
 cases hc:cut1 58 s with
 | none =>
  have ev:partsV 58 s = .tup [.str [],.str s,.bool false]:=by unfold partsV;rw[hc]
  have hf:fullL s=nameL s:=by unfold fullL;rw[hc]
  have hn:=rName_ev s hs
  rw[ev]at hev
  rw[hf]
  cases h:nameL s<;>rw[h]at hn<;>(
   refine ev_go rfl (fun cargs w=>call59 cargs w) func59 rfl mixed (by kernel_rfl) rfl ?_;intro b0 hb0
   (repeat' first|simp only[fins,mems,results59,ntmps59,wks,vcs,seval,tys]|exact rfl|refine call_off (v:=.any) ?_|(first|(refine call_fn ?_ (hev _) ?_)|(refine call_fn_g ?_ (fun _=>hev _) ?_)|(refine call_fn ?_ (hn _) ?_)|(refine call_fn_g ?_ (fun _=>hn _) ?_))|(refine call_off (v:=.any) ?_)|((first|apply Ca|apply Cb)<;>intro hb)|refine Ai (by omega) ?_|(apply Ai<;>intro hb)|refine Fin.pure ?_ ?_ ?_|simp only[injs]))
 | some p =>
  obtain⟨a,b⟩:=p
  obtain⟨_,_,_,e3⟩:=index1_some hc
  have ev:partsV 58 s = .tup [.str a,.str b,.bool true]:=by unfold partsV;rw[hc]
  have hf:fullL s=(nameL b&&nameL a):=by unfold fullL;rw[hc,Bool.and_comm]
  have hn1:=rName_ev a (by omega)
  have hn2:=rName_ev b (by omega)
  rw[ev]at hev
  rw[hf]
  cases h1:nameL b<;>rw[h1]at hn2<;>(
   refine ev_go rfl (fun cargs w=>call59 cargs w) func59 rfl mixed (by kernel_rfl) rfl ?_;intro b0 hb0
   (repeat' first|simp only[fins,mems,results59,ntmps59,wks,vcs,seval,tys]|exact rfl|refine call_off (v:=.any) ?_|((first|(refine call_fn ?_ (hn1 _) ?_)|(refine call_fn_g ?_ (fun _=>hn1 _) ?_));(focus (simp only[results59,ntmps59,wks,vcs,seval,tys]<;>exact rfl)))|((first|(refine call_fn ?_ (hn2 _) ?_)|(refine call_fn_g ?_ (fun _=>hn2 _) ?_));(focus (simp only[results59,ntmps59,wks,vcs,seval,tys]<;>exact rfl)))|(first|(refine call_fn ?_ (hev _) ?_)|(refine call_fn_g ?_ (fun _=>hev _) ?_))|(refine call_off (v:=.any) ?_)|((first|apply Ca|apply Cb)<;>intro hb)|refine Ai (by omega) ?_|(apply Ai<;>intro hb)|refine Fin.pure ?_ ?_ ?_|simp only[injs]))
def Fo.tops:Fo→Nat→List Nat
 | .nil,_=>[]
 | .cons _ k r,p=>p::r.tops (p+1+k.size)
def hops (en:List Nat)(stop:Nat):Nat→Nat→List Nat
 | 0,_=>[]
 | f+1,p=>if p<stop then p::hops en stop f (en.getD p 0) else []
theorem ends_up:∀(F:Fo) (b i e:Nat),(F.ends b)[i]? = some e→b+i<e∧e≤b+F.size
 | .nil,b,i,e,h=>by simp[Fo.ends]at h
 | .cons n k r,b,0,e,h=>by simp[Fo.ends]at h;simp only[Fo.size];omega
 | .cons n k r,b,i+1,e,h=>by
  simp only[Fo.ends,List.getElem?_cons_succ,List.getElem?_append,Fo.ends_length]at h
  simp only[Fo.size]
  split at h
  ·have:=ends_up k _ _ _ h;omega
  ·have:=ends_up r _ _ _ h;omega
def hopL (en:List Nat)(stop p:Nat):List Nat:=hops en stop (stop-p) p
theorem hops_tops:∀(F:Fo) (en rest:List Nat) (p f:Nat),en.drop p=F.ends p++rest→F.size≤f→hops en (p+F.size) f p=F.tops p
 | .nil,en,rest,p,f,_,_=>by
  cases f with
  | zero=>rfl
  | succ f=>simp[hops,Fo.size,Fo.tops]
 | .cons n k r,en,rest,p,f,h,hf=>by
  cases f with
  | zero=>simp[Fo.size]at hf
  | succ f =>
   have h0:en[p]? = some (p+1+k.size):=by have:=congrArg (·[0]?) h;simpa [Fo.ends] using this
   have h1:en.drop (p+1+k.size)=r.ends (p+1+k.size)++rest:=by
    have:=congrArg (List.drop (1+k.size)) h
    rw[List.drop_drop]at this
    rw[show p+1+k.size=p+(1+k.size) by omega,this]
    simp only[Fo.ends,List.cons_append]
    rw[show 1+k.size=(k.ends (p+1)).length+1 by rw[Fo.ends_length];omega,List.drop_succ_cons,List.append_assoc,List.drop_left]
    rw[show p+((k.ends (p+1)).length+1)=p+1+k.size by rw[Fo.ends_length];omega]
   simp only[Fo.size]at hf
   simp only[hops,Fo.tops]
   rw[if_pos (by simp only[Fo.size];omega),List.getD_eq_getElem?_getD,h0,Option.getD_some]
   have:=hops_tops r en rest (p+1+k.size) f h1 (by omega)
   rw[show p+(Fo.cons n k r).size=p+1+k.size+r.size by simp only[Fo.size];omega,this]
theorem hopL_tops {F:Fo}{en rest:List Nat}{p:Nat}(h:en.drop p=F.ends p++rest):hopL en (p+F.size) p=F.tops p:=by
 unfold hopL
 exact hops_tops F en rest p _ h (by omega)
def Fo.sub:Fo→Nat→Option (Nd×Fo)
 | .nil,_=>none
 | .cons n k _,0=>some (n,k)
 | .cons _ k r,i+1=>if i<k.size then k.sub i else r.sub (i-k.size)
theorem Fo.good_all:∀ {F:Fo} {d last:Nat},F.good d last=true → ∀ x∈F.flat,mayN x=true∧0≤x.many∧x.many≤F.size
 | .nil,_,_,_,x,hx=>by simp[Fo.flat]at hx
 | .cons n k r,d,last,h,x,hx=>by
  obtain⟨h1,h2,h3,h4,h5,h6⟩:=Fo.good_cons.1 h
  simp only[Fo.size]
  have hc:∀(F:Fo),F.count≤F.size:=by
   intro F
   induction F with
   | nil=>exact Nat.le_refl _
   | cons n k r _ ih=>simp only[Fo.count,Fo.size];omega
  simp only[Fo.flat,Lk,List.mem_append]at hx
  rcases hx with rfl|hx|hx
  ·have:=hc k;exact⟨h1,by omega,by omega⟩
  ·obtain⟨a,b,c⟩:=Fo.good_all h5 x hx;exact⟨a,b,by omega⟩
  ·obtain⟨a,b,c⟩:=Fo.good_all h6 x hx;exact⟨a,b,by omega⟩
theorem notany_succ {α:Type}{p:α→Bool}{l:List α}{k:Nat}{x:α}(h:(l.take k).any p=false)(hc:l[k]? = some x)(hx:p x=false):(l.take (k+1)).any p=false:=by
 obtain⟨hk,rfl⟩:=List.getElem?_eq_some_iff.1 hc
 rw[List.take_succ_eq_append_getElem hk,List.any_append,h]
 simp[hx]
def Tk.okTo (t:Tk)(l:Nat):Prop:=t.attrs.length≤l∧t.name.length≤l∧t.text.length≤l ∧ ∀ a∈t.attrs,a.name.length≤l∧a.value.length≤l
theorem len_zero {α:Type}(l:List α):((l.length:Int)==0)=l.isEmpty:=by
 cases l with
 | nil=>rfl
 | cons a l=>simp only[List.length_cons,List.isEmpty_cons];exact beq_false_of_ne (by omega)
def atC (a:At):List V:=[.str a.space,.str a.name,.str a.value]
def ndC (n:Nd):List V:=[.int .u8 n.kind,.str n.space,.str n.name,.sl false 3 (n.attrs.map atC),.str n.text,.int .i64 n.many]
def noC (k:Nat):List V:=[.int .i64 k]
theorem nd_at {l:List Nd}{k:Nat}{a:Nd}(h:l[k]? = some a):(l.map ndC)[k]? = some (ndC a):=by rw[List.getElem?_map,h];rfl
theorem at_at {l:List At}{k:Nat}{a:At}(h:l[k]? = some a):(l.map atC)[k]? = some (atC a):=by rw[List.getElem?_map,h];rfl
theorem plain_at (l:List At):plainLL (l.map atC)=true:=plainLL_map _ (fun _=>rfl) l
theorem plain_nd (l:List Nd):plainLL (l.map ndC)=true:=plainLL_map _ (fun t=>by simp[ndC,plainL,V.plain,plain_at]) l
theorem plain_no (l:List Nat):plainLL (l.map noC)=true:=plainLL_map _ (fun _=>rfl) l
def sameTo {α:Type}(a b:List α)(k:Nat):Prop:=∀ i,i<k→a[i]? = b[i]?
theorem same_all {α:Type}{a b:List α}(hl:a.length=b.length)(h:sameTo a b a.length):a=b:=by
 refine List.ext_getElem? fun i=>?_
 by_cases hi:i<a.length
 ·exact h i hi
 ·rw[List.getElem?_eq_none (by omega),List.getElem?_eq_none (by omega)]
theorem sameTo_succ {α:Type}{a b:List α}{k:Nat}{x:α}(h:sameTo a b k)(ha:a[k]? = some x)(hb:b[k]? = some x):sameTo a b (k+1):=by
 intro i hi
 by_cases e:i=k
 ·subst e;rw[ha,hb]
 ·exact h i (by omega)
theorem same_no {α:Type}{a b:List α}{k:Nat}{x y:α}(ha:a[k]? = some x)(hb:b[k]? = some y)(h:x≠y):a≠b:=by
 rintro rfl
 rw[ha]at hb;cases hb;exact h rfl
theorem len_beq (n m:Nat):((n:Int)==(m:Int))=decide (n=m):=by
 rw[Bool.eq_iff_iff,beq_iff_eq,decide_eq_true_iff];omega
theorem len_bne_eq {n m:Nat}(h:n=m):((n:Int) !=(m:Int))=false:=by subst h;simp
theorem len_bne_ne {n m:Nat}(h:n≠m):((n:Int) !=(m:Int))=true:=by rw[bne_iff_ne];omega
end Go.Proofs.Ytfcfldmioonipaa
