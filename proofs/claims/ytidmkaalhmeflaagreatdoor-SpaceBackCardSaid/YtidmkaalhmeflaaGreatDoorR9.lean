/-
 Texts joined: XOo.
-/
import Derived.Test.YtidmkaalhmeflaaGreatDoorR7
import Derived.Test.YtidmkaalhmeflaaGreatDoorQw
import Derived.Test.YtidmkaalhmeflaaGreatDoorQv
namespace Go.Proofs.YtidmkaalhmeflaaGreatDoor
set_option maxRecDepth 100000
set_option maxHeartbeats 32000000
set_option linter.unusedSimpArgs false
set_option linter.unusedVariables false
open Go Go.RowKit Vm Go.Lib Tryz
open Vm renaming aZ→Ca,bj→Cb
open And renaming intro→Ai
open List renaming length_map→Lm,not_mem_nil→Ln,map_nil→Lo,map_cons→Lc,mem_cons→Lk
open Bool renaming not_false→Bf,not_true→Bt
theorem Q8 {v:List Nd}(h:(Rq v).2≠0):(Rq v).1=[]:=by
 unfold Rq at h ⊢
 split
 ·rfl
 ·rename_i h1
  rw[if_neg h1]at h
  split
  ·rfl
  ·rename_i h2
   rw[if_neg h2]at h
   split
   ·rename_i h3;rw[if_pos h3]at h;exact absurd rfl h
   ·rfl
theorem Qf {v:List Nd}(h1:cn v=0)(h:(Rp v []).2≠0):(Rp v []).2=4:=by
 unfold Rp at h ⊢
 rw[if_neg (by simpa using h1),if_neg (by decide)]at h ⊢
 split
 ·rfl
 ·rename_i h3;rw[if_neg h3]at h;exact absurd rfl h
theorem zu {α:Type}{p:α→Bool}{l:List α}{k:Nat}{x:α}(h:l[k]? = some x)(hn:(l.take k).any p=false)(hp:p x=false):(l.take (k+1)).any p=false:=by
 obtain⟨hk,rfl⟩:=List.getElem?_eq_some_iff.1 h
 rw[List.take_succ_eq_append_getElem hk,List.any_append,hn];simp[hp]
theorem Qq {α:Type}{p:α→Bool}{l:List α}{k:Nat}{x:α}(h:l[k]? = some x)(hp:p x=true):l.any p=true:=List.any_eq_true.2 ⟨x,List.mem_of_getElem? h,hp⟩
theorem SU (v:List Nd)(hv:v.length≤bh)(nm:Nat):Ev cx 31 nm [.sl false 6 (v.map ba)] aq.nil (.bool (Rz v)) []:=by
 unfold bh at hv
 refine ay rfl (fun cargs w=>call31 cargs w) func31 rfl mixed (by kernel_rfl) rfl ?_;intro b0 hb0
 repeat' first|simp only[al,aj,results31,ntmps31,am,ai,seval,ah]|exact rfl|refine aa (v:=.any) ?_|((first|apply Ca|apply Cb)<;>intro hb)|refine Ai (by omega) ?_|(apply Ai<;>intro hb)
 (refine aU co (fun x:Nat=>v.length-x) (fun x=>x≤v.length∧(v.take x).any (fun n=>n.space==RE)=false) (b0+16) (fun x=>[(0,.sl false 6 (v.map ba)),(3,.int .i64 x)]) (fun x=>[]) (0) [] ?_ ?_ ?_ ?_;rotate_left 1;(focus (show b0≤_;omega));(focus (refine⟨?_,?_⟩<;>(try simp only[bk,ad,Lm,ai,seval,ah,au])<;>(try omega)));rotate_left 1)
 ·exact⟨Nat.zero_le _,by simp⟩
 ·rintro k ⟨hk,hno⟩
  by_cases hlt:k<v.length
  ·obtain⟨x,hx⟩:∃ x,v[k]? = some x:=⟨_,List.getElem?_eq_getElem hlt⟩
   have hat:=gZ hx
   have d1:decide ((k:Int)<(v.length:Int))=true:=decide_eq_true (by omega)
   have d2:decide (k<v.length)=true:=decide_eq_true hlt
   have hki:(k:Int)<(v.length:Int):=by omega
   have hwk:IntKind.i64.wrap ((k:Int)+1)=((k+1:Nat):Int):=aN (by omega) (by omega)
   have hxl:(x.space==RE)=(x.space==[104,116,116,112,58,47,47,119,119,119,46,119,51,46,111,114,103,47,88,77,76,47,49,57,57,56,47,110,97,109,101,115,112,97,99,101]):=rfl
   cases hp:(x.space==RE) with
   | true =>
    have hr:Rz v=true:=Qq hx hp
    rw[hp]at hxl
    (repeat' first|simp only[al,aj,results31,ntmps31,am,hat,ba,hlt,hki,d1,d2,hxl.symm,hr,Lm,ai,seval,ah]|exact rfl|refine aa (v:=.any) ?_|((first|apply Ca|apply Cb)<;>intro hb)|refine Ai (by omega) ?_|(apply Ai<;>intro hb)|refine Fin.pure ?_ ?_ ?_|simp only[au])
   | false =>
    have hn':=zu hx hno hp
    rw[hp]at hxl
    repeat' first|simp only[al,aj,results31,ntmps31,am,hat,ba,hlt,hki,d1,d2,hwk,hxl.symm,Lm,ai,seval,ah]|exact rfl|refine aa (v:=.any) ?_|((first|apply Ca|apply Cb)<;>intro hb)|refine Ai (by omega) ?_|(apply Ai<;>intro hb)
    all_goals ((refine aJ co (k+1) [] ?_ ?_ ?_ ?_;rotate_left 2;(focus (show b0≤_;omega));(focus (refine⟨?_,?_⟩<;>(try simp only[bk,ad,hwk,ai,seval,ah,au])<;>(try omega)))))
    all_goals (first|(show v.length-(k+1)<v.length-k;omega)|exact⟨hlt,hn'⟩|skip)
  ·have hke:k=v.length:=by omega
   subst hke
   rw[List.take_length]at hno
   have hr:Rz v=false:=hno
   have d1:decide ((v.length:Int)<(v.length:Int))=false:=decide_eq_false (by omega)
   have d2:decide (v.length<v.length)=false:=decide_eq_false (by omega)
   (repeat' first|simp only[al,aj,results31,ntmps31,am,d1,d2,hr,Lm,ai,seval,ah]|exact rfl|refine aa (v:=.any) ?_|((first|apply Ca|apply Cb)<;>intro hb)|refine Ai (by omega) ?_|(apply Ai<;>intro hb)|refine Fin.pure ?_ ?_ ?_|simp only[au])
theorem Sn (v raw:List Nd)(hv:v.length≤bh)(hok:∀ x∈v,x.okTo bh∧x.i64)(hw:raw.length≤bh)(hokw:∀ x∈raw,x.okTo bh∧x.i64)(nm:Nat):Ev cx 7 nm [.sl false 6 (v.map ba),.sl false 6 (raw.map ba)] aq.nil (.bool true) []:=by
 have hg1:=nV v 100 5000 (by omega) (by omega) hv (fun x hx=>(hok x hx).1)
 have hg2:=nV raw 100 5000 (by omega) (by omega) hw (fun x hx=>(hokw x hx).1)
 have hal:=RU
 have hpv:=ad v
 have hpr:=ad raw
 cases hgv:jO v 100 5000 with
 | true =>
  rw[hgv]at hg1
  refine ay rfl (fun cargs w=>call7 cargs w) func7 rfl mixed (by kernel_rfl) rfl ?_;intro b0 hb0
  (repeat' first|simp only[al,aj,results7,ntmps7,am,hpv,hpr,Bt,ai,seval,ah]|exact rfl|refine aa (v:=.any) ?_|(first|(refine ac ?_ (hal _) ?_)|(refine ab ?_ (fun _=>hal _) ?_)|(refine ac ?_ (hg1 _) ?_)|(refine ab ?_ (fun _=>hg1 _) ?_))|((first|apply Ca|apply Cb)<;>intro hb)|refine Ai (by omega) ?_|(apply Ai<;>intro hb)|refine Fin.pure ?_ ?_ ?_|simp only[au])
 | false =>
  rw[hgv]at hg1
  cases hgr:jO raw 100 5000 with
  | true =>
   rw[hgr]at hg2
   refine ay rfl (fun cargs w=>call7 cargs w) func7 rfl mixed (by kernel_rfl) rfl ?_;intro b0 hb0
   (repeat' first|simp only[al,aj,results7,ntmps7,am,hpv,hpr,Bt,ai,seval,ah]|exact rfl|refine aa (v:=.any) ?_|((first|(refine ac ?_ (hg1 _) ?_)|(refine ab ?_ (fun _=>hg1 _) ?_));(focus (simp only[results7,ntmps7,am,hpv,hpr,Bt,ai,seval,ah]<;>exact rfl)))|((first|(refine ac ?_ (hg2 _) ?_)|(refine ab ?_ (fun _=>hg2 _) ?_));(focus (simp only[results7,ntmps7,am,hpv,hpr,Bt,ai,seval,ah]<;>exact rfl)))|(first|(refine ac ?_ (hal _) ?_)|(refine ab ?_ (fun _=>hal _) ?_))|((first|apply Ca|apply Cb)<;>intro hb)|refine Ai (by omega) ?_|(apply Ai<;>intro hb)|refine Fin.pure ?_ ?_ ?_|simp only[au])
  | false =>
   rw[hgr]at hg2
   obtain⟨hv1,hv2⟩:=jF (by omega) (by omega) hgv
   obtain⟨hr1,hr2⟩:=jF (by omega) (by omega) hgr
   have okV:∀ x∈v,x.okTo 20000∧x.i64:=fun x hx=>⟨(hv2 x hx).2.1,(hok x hx).2⟩
   have okR:∀ x∈raw,x.okTo 20000∧x.i64:=fun x hx=>⟨(hr2 x hx).2.1,(hokw x hx).2⟩
   have up:∀ {l:List Nd} {B:Nat},B≤1000000→(∀ x∈l,x.okTo B∧x.i64) → ∀ x∈l,x.okTo 1000000∧x.i64:=fun hB h x hx=>⟨kG (h x hx).1 hB,(h x hx).2⟩
   have upl:∀ {l:List Nd} {B:Nat},B≤1000000→(∀ x∈l,x.okTo B∧x.i64) → ∀ x∈l,x.okTo bh∧x.i64:=fun hB h x hx=>⟨kG (h x hx).1 (Nat.le_trans hB (by decide)),(h x hx).2⟩
   have upa:∀ {l:List Nd} {B:Nat},B≤1000000→(∀ x∈l,x.okTo B∧x.i64) → ∀ x∈l,x.attrs.length≤bh:=fun hB h x hx=>Nat.le_trans (h x hx).1.1 (Nat.le_trans hB (by decide))
   have hb1:=RI v [] hv (up (by omega) okV) (by decide)
   have Ht:=bare_fit (sp:=[]) okV
   have hA:=RL v []
   have hs1:=RD (Rp v []).1 (by unfold bh;omega) (up (by omega) Ht)
   have hm1:=xS v v hv hv (upa (by omega) okV) (upa (by omega) okV)
   rw[decide_eq_true rfl]at hm1
   have hbk:=fun h=>Sz (v:=v) h
   have hs2:=RD raw hw (up (by omega) okR)
   have okC:=res_fit (by omega) okR
   have hC:=So raw
   have hno:=fun h=>Q8 (v:=raw) h
   have hmay:=fun h1 h2=>QO (v:=raw) h1 h2
   generalize hc0:(Rq raw).1=c at hs2 okC hC hno hmay
   generalize (Rq raw).2=ce at hs2 hno hmay
   have hck:=pS c (by unfold bh;omega) (upl (by omega) okC)
   have hst:=SU c (by unfold bh;omega)
   have hb2:=RI c [] (by unfold bh;omega) (up (by omega) okC) (by decide)
   have okD:=bare_fit (sp:=[]) okC
   have hD:=RL c []
   have hs3:=RD (Rp c []).1 (by unfold bh;omega) (up (by omega) okD)
   have hm2:=xS c c (by unfold bh;omega) (by unfold bh;omega) (upa (by omega) okC) (upa (by omega) okC)
   rw[decide_eq_true rfl]at hm2
   have hbk2:=fun h=>Sz (v:=c) h
   have hfour:=fun h1 h2=>Qf (v:=c) h1 h2
   unfold gw at hb1 hs1 hs2 hb2 hs3
   generalize (Rp v []).1=a at hb1 hs1 hbk
   generalize (Rp v []).2=ae at hb1 hbk
   generalize (Rp c []).1=d at hb2 hs3 hbk2
   generalize (Rp c []).2=de at hb2 hbk2 hfour
   have hpa:=ad a
   have hpc:=ad c
   have hpd:=ad d
   clear okV okR Ht okC okD up upl upa hA hC hD hv2 hr2 hok hokw
   generalize hckE:cn c=ck at hck hmay hfour
   have f1:ae=0∨(ae==0)=false:=by by_cases h:ae=0;exact .inl h;exact .inr (by simpa using h)
   rcases f1 with f1|f1
   ·have q1:=hbk f1
    rw[q1]at hs1
    subst f1
    replace f1:(0:Int)==0:=rfl
    clear hbk q1
    by_cases e2:ce=0
    ·subst e2
     by_cases e3:ck=0
     ·subst e3
      by_cases e4:de=0
      ·have q2:=hbk2 e4
       rw[q2]at hs3
       subst e4
       clear hbk2 q2 hno hmay hfour
       refine ay rfl (fun cargs w=>call7 cargs w) func7 rfl mixed (by kernel_rfl) rfl ?_;intro b0 hb0
       (repeat' first|simp only[al,aj,results7,ntmps7,am,f1,hpv,hpr,hpa,hpc,hpd,ad,Lo,List.length_nil,Lm,Bt,Bf,ai,seval,ah]|exact rfl|refine aa (v:=.any) ?_|((first|(refine ac ?_ (hg1 _) ?_)|(refine ab ?_ (fun _=>hg1 _) ?_)|(refine ac ?_ (hb1 _) ?_)|(refine ab ?_ (fun _=>hb1 _) ?_)|(refine ac ?_ (hs1 _) ?_)|(refine ab ?_ (fun _=>hs1 _) ?_)|(refine ac ?_ (hm1 _) ?_)|(refine ab ?_ (fun _=>hm1 _) ?_));(focus (simp only[results7,ntmps7,am,f1,hpv,hpr,hpa,hpc,hpd,ad,Lo,List.length_nil,Lm,Bt,Bf,ai,seval,ah]<;>exact rfl)))|((first|(refine ac ?_ (hg2 _) ?_)|(refine ab ?_ (fun _=>hg2 _) ?_)|(refine ac ?_ (hb2 _) ?_)|(refine ab ?_ (fun _=>hb2 _) ?_)|(refine ac ?_ (hs2 _) ?_)|(refine ab ?_ (fun _=>hs2 _) ?_)|(refine ac ?_ (hm2 _) ?_)|(refine ab ?_ (fun _=>hm2 _) ?_));(focus (simp only[results7,ntmps7,am,f1,hpv,hpr,hpa,hpc,hpd,ad,Lo,List.length_nil,Lm,Bt,Bf,ai,seval,ah]<;>exact rfl)))|((first|(refine ac ?_ (hs3 _) ?_)|(refine ab ?_ (fun _=>hs3 _) ?_));(focus (simp only[results7,ntmps7,am,f1,hpv,hpr,hpa,hpc,hpd,ad,Lo,List.length_nil,Lm,Bt,Bf,ai,seval,ah]<;>exact rfl)))|(first|(refine ac ?_ (hal _) ?_)|(refine ab ?_ (fun _=>hal _) ?_)|(refine ac ?_ (hck _) ?_)|(refine ab ?_ (fun _=>hck _) ?_)|(refine ac ?_ (hst _) ?_)|(refine ab ?_ (fun _=>hst _) ?_))|((first|apply Ca|apply Cb)<;>intro hb)|refine Ai (by omega) ?_|(apply Ai<;>intro hb)|refine Fin.pure ?_ ?_ ?_|simp only[au])
      ·have f4:=hfour rfl e4
       subst f4
       clear hbk2 hno hmay hfour
       refine ay rfl (fun cargs w=>call7 cargs w) func7 rfl mixed (by kernel_rfl) rfl ?_;intro b0 hb0
       (repeat' first|simp only[al,aj,results7,ntmps7,am,f1,hpv,hpr,hpa,hpc,hpd,ad,Lo,List.length_nil,Lm,Bt,Bf,ai,seval,ah]|exact rfl|refine aa (v:=.any) ?_|((first|(refine ac ?_ (hg1 _) ?_)|(refine ab ?_ (fun _=>hg1 _) ?_)|(refine ac ?_ (hb1 _) ?_)|(refine ab ?_ (fun _=>hb1 _) ?_)|(refine ac ?_ (hs1 _) ?_)|(refine ab ?_ (fun _=>hs1 _) ?_)|(refine ac ?_ (hm1 _) ?_)|(refine ab ?_ (fun _=>hm1 _) ?_));(focus (simp only[results7,ntmps7,am,f1,hpv,hpr,hpa,hpc,hpd,ad,Lo,List.length_nil,Lm,Bt,Bf,ai,seval,ah]<;>exact rfl)))|((first|(refine ac ?_ (hg2 _) ?_)|(refine ab ?_ (fun _=>hg2 _) ?_)|(refine ac ?_ (hb2 _) ?_)|(refine ab ?_ (fun _=>hb2 _) ?_)|(refine ac ?_ (hs2 _) ?_)|(refine ab ?_ (fun _=>hs2 _) ?_)|(refine ac ?_ (hm2 _) ?_)|(refine ab ?_ (fun _=>hm2 _) ?_));(focus (simp only[results7,ntmps7,am,f1,hpv,hpr,hpa,hpc,hpd,ad,Lo,List.length_nil,Lm,Bt,Bf,ai,seval,ah]<;>exact rfl)))|((first|(refine ac ?_ (hs3 _) ?_)|(refine ab ?_ (fun _=>hs3 _) ?_));(focus (simp only[results7,ntmps7,am,f1,hpv,hpr,hpa,hpc,hpd,ad,Lo,List.length_nil,Lm,Bt,Bf,ai,seval,ah]<;>exact rfl)))|(first|(refine ac ?_ (hal _) ?_)|(refine ab ?_ (fun _=>hal _) ?_)|(refine ac ?_ (hck _) ?_)|(refine ab ?_ (fun _=>hck _) ?_)|(refine ac ?_ (hst _) ?_)|(refine ab ?_ (fun _=>hst _) ?_))|((first|apply Ca|apply Cb)<;>intro hb)|refine Ai (by omega) ?_|(apply Ai<;>intro hb)|refine Fin.pure ?_ ?_ ?_|simp only[au])
     ·have f3:(ck != 0)=true:=by simpa using e3
      have hst1:Rz c=true:=by
       cases h:Rz c with
       | true=>rfl
       | false=>exact absurd (hmay rfl h) e3
      rw[hst1]at hst
      clear hbk2 hno hmay hfour
      refine ay rfl (fun cargs w=>call7 cargs w) func7 rfl mixed (by kernel_rfl) rfl ?_;intro b0 hb0
      (repeat' first|simp only[al,aj,results7,ntmps7,am,f1,f3,hpv,hpr,hpa,hpc,hpd,ad,Lo,List.length_nil,Lm,Bt,Bf,ai,seval,ah]|exact rfl|refine aa (v:=.any) ?_|((first|(refine ac ?_ (hg1 _) ?_)|(refine ab ?_ (fun _=>hg1 _) ?_)|(refine ac ?_ (hb1 _) ?_)|(refine ab ?_ (fun _=>hb1 _) ?_)|(refine ac ?_ (hs1 _) ?_)|(refine ab ?_ (fun _=>hs1 _) ?_)|(refine ac ?_ (hm1 _) ?_)|(refine ab ?_ (fun _=>hm1 _) ?_));(focus (simp only[results7,ntmps7,am,f1,f3,hpv,hpr,hpa,hpc,hpd,ad,Lo,List.length_nil,Lm,Bt,Bf,ai,seval,ah]<;>exact rfl)))|((first|(refine ac ?_ (hg2 _) ?_)|(refine ab ?_ (fun _=>hg2 _) ?_)|(refine ac ?_ (hb2 _) ?_)|(refine ab ?_ (fun _=>hb2 _) ?_)|(refine ac ?_ (hs2 _) ?_)|(refine ab ?_ (fun _=>hs2 _) ?_)|(refine ac ?_ (hm2 _) ?_)|(refine ab ?_ (fun _=>hm2 _) ?_));(focus (simp only[results7,ntmps7,am,f1,f3,hpv,hpr,hpa,hpc,hpd,ad,Lo,List.length_nil,Lm,Bt,Bf,ai,seval,ah]<;>exact rfl)))|((first|(refine ac ?_ (hs3 _) ?_)|(refine ab ?_ (fun _=>hs3 _) ?_));(focus (simp only[results7,ntmps7,am,f1,f3,hpv,hpr,hpa,hpc,hpd,ad,Lo,List.length_nil,Lm,Bt,Bf,ai,seval,ah]<;>exact rfl)))|(first|(refine ac ?_ (hal _) ?_)|(refine ab ?_ (fun _=>hal _) ?_)|(refine ac ?_ (hck _) ?_)|(refine ab ?_ (fun _=>hck _) ?_)|(refine ac ?_ (hst _) ?_)|(refine ab ?_ (fun _=>hst _) ?_))|((first|apply Ca|apply Cb)<;>intro hb)|refine Ai (by omega) ?_|(apply Ai<;>intro hb)|refine Fin.pure ?_ ?_ ?_|simp only[au])
    ·have f2:(ce != 0)=true:=by simpa using e2
     have:=hno e2
     subst this
     clear hbk2 hno hmay hfour
     refine ay rfl (fun cargs w=>call7 cargs w) func7 rfl mixed (by kernel_rfl) rfl ?_;intro b0 hb0
     (repeat' first|simp only[al,aj,results7,ntmps7,am,f1,f2,hpv,hpr,hpa,hpc,hpd,ad,Lo,List.length_nil,Lm,Bt,Bf,ai,seval,ah]|exact rfl|refine aa (v:=.any) ?_|((first|(refine ac ?_ (hg1 _) ?_)|(refine ab ?_ (fun _=>hg1 _) ?_)|(refine ac ?_ (hb1 _) ?_)|(refine ab ?_ (fun _=>hb1 _) ?_)|(refine ac ?_ (hs1 _) ?_)|(refine ab ?_ (fun _=>hs1 _) ?_)|(refine ac ?_ (hm1 _) ?_)|(refine ab ?_ (fun _=>hm1 _) ?_));(focus (simp only[results7,ntmps7,am,f1,f2,hpv,hpr,hpa,hpc,hpd,ad,Lo,List.length_nil,Lm,Bt,Bf,ai,seval,ah]<;>exact rfl)))|((first|(refine ac ?_ (hg2 _) ?_)|(refine ab ?_ (fun _=>hg2 _) ?_)|(refine ac ?_ (hb2 _) ?_)|(refine ab ?_ (fun _=>hb2 _) ?_)|(refine ac ?_ (hs2 _) ?_)|(refine ab ?_ (fun _=>hs2 _) ?_)|(refine ac ?_ (hm2 _) ?_)|(refine ab ?_ (fun _=>hm2 _) ?_));(focus (simp only[results7,ntmps7,am,f1,f2,hpv,hpr,hpa,hpc,hpd,ad,Lo,List.length_nil,Lm,Bt,Bf,ai,seval,ah]<;>exact rfl)))|((first|(refine ac ?_ (hs3 _) ?_)|(refine ab ?_ (fun _=>hs3 _) ?_));(focus (simp only[results7,ntmps7,am,f1,f2,hpv,hpr,hpa,hpc,hpd,ad,Lo,List.length_nil,Lm,Bt,Bf,ai,seval,ah]<;>exact rfl)))|(first|(refine ac ?_ (hal _) ?_)|(refine ab ?_ (fun _=>hal _) ?_)|(refine ac ?_ (hck _) ?_)|(refine ab ?_ (fun _=>hck _) ?_)|(refine ac ?_ (hst _) ?_)|(refine ab ?_ (fun _=>hst _) ?_))|((first|apply Ca|apply Cb)<;>intro hb)|refine Ai (by omega) ?_|(apply Ai<;>intro hb)|refine Fin.pure ?_ ?_ ?_|simp only[au])
   ·clear hbk
    by_cases e2:ce=0
    ·subst e2
     by_cases e3:ck=0
     ·subst e3
      by_cases e4:de=0
      ·have q2:=hbk2 e4
       rw[q2]at hs3
       subst e4
       clear hbk2 q2 hno hmay hfour
       refine ay rfl (fun cargs w=>call7 cargs w) func7 rfl mixed (by kernel_rfl) rfl ?_;intro b0 hb0
       (repeat' first|simp only[al,aj,results7,ntmps7,am,f1,hpv,hpr,hpa,hpc,hpd,ad,Lo,List.length_nil,Lm,Bt,Bf,ai,seval,ah]|exact rfl|refine aa (v:=.any) ?_|((first|(refine ac ?_ (hg1 _) ?_)|(refine ab ?_ (fun _=>hg1 _) ?_)|(refine ac ?_ (hb1 _) ?_)|(refine ab ?_ (fun _=>hb1 _) ?_)|(refine ac ?_ (hs1 _) ?_)|(refine ab ?_ (fun _=>hs1 _) ?_)|(refine ac ?_ (hm1 _) ?_)|(refine ab ?_ (fun _=>hm1 _) ?_));(focus (simp only[results7,ntmps7,am,f1,hpv,hpr,hpa,hpc,hpd,ad,Lo,List.length_nil,Lm,Bt,Bf,ai,seval,ah]<;>exact rfl)))|((first|(refine ac ?_ (hg2 _) ?_)|(refine ab ?_ (fun _=>hg2 _) ?_)|(refine ac ?_ (hb2 _) ?_)|(refine ab ?_ (fun _=>hb2 _) ?_)|(refine ac ?_ (hs2 _) ?_)|(refine ab ?_ (fun _=>hs2 _) ?_)|(refine ac ?_ (hm2 _) ?_)|(refine ab ?_ (fun _=>hm2 _) ?_));(focus (simp only[results7,ntmps7,am,f1,hpv,hpr,hpa,hpc,hpd,ad,Lo,List.length_nil,Lm,Bt,Bf,ai,seval,ah]<;>exact rfl)))|((first|(refine ac ?_ (hs3 _) ?_)|(refine ab ?_ (fun _=>hs3 _) ?_));(focus (simp only[results7,ntmps7,am,f1,hpv,hpr,hpa,hpc,hpd,ad,Lo,List.length_nil,Lm,Bt,Bf,ai,seval,ah]<;>exact rfl)))|(first|(refine ac ?_ (hal _) ?_)|(refine ab ?_ (fun _=>hal _) ?_)|(refine ac ?_ (hck _) ?_)|(refine ab ?_ (fun _=>hck _) ?_)|(refine ac ?_ (hst _) ?_)|(refine ab ?_ (fun _=>hst _) ?_))|((first|apply Ca|apply Cb)<;>intro hb)|refine Ai (by omega) ?_|(apply Ai<;>intro hb)|refine Fin.pure ?_ ?_ ?_|simp only[au])
      ·have f4:=hfour rfl e4
       subst f4
       clear hbk2 hno hmay hfour
       refine ay rfl (fun cargs w=>call7 cargs w) func7 rfl mixed (by kernel_rfl) rfl ?_;intro b0 hb0
       (repeat' first|simp only[al,aj,results7,ntmps7,am,f1,hpv,hpr,hpa,hpc,hpd,ad,Lo,List.length_nil,Lm,Bt,Bf,ai,seval,ah]|exact rfl|refine aa (v:=.any) ?_|((first|(refine ac ?_ (hg1 _) ?_)|(refine ab ?_ (fun _=>hg1 _) ?_)|(refine ac ?_ (hb1 _) ?_)|(refine ab ?_ (fun _=>hb1 _) ?_)|(refine ac ?_ (hs1 _) ?_)|(refine ab ?_ (fun _=>hs1 _) ?_)|(refine ac ?_ (hm1 _) ?_)|(refine ab ?_ (fun _=>hm1 _) ?_));(focus (simp only[results7,ntmps7,am,f1,hpv,hpr,hpa,hpc,hpd,ad,Lo,List.length_nil,Lm,Bt,Bf,ai,seval,ah]<;>exact rfl)))|((first|(refine ac ?_ (hg2 _) ?_)|(refine ab ?_ (fun _=>hg2 _) ?_)|(refine ac ?_ (hb2 _) ?_)|(refine ab ?_ (fun _=>hb2 _) ?_)|(refine ac ?_ (hs2 _) ?_)|(refine ab ?_ (fun _=>hs2 _) ?_)|(refine ac ?_ (hm2 _) ?_)|(refine ab ?_ (fun _=>hm2 _) ?_));(focus (simp only[results7,ntmps7,am,f1,hpv,hpr,hpa,hpc,hpd,ad,Lo,List.length_nil,Lm,Bt,Bf,ai,seval,ah]<;>exact rfl)))|((first|(refine ac ?_ (hs3 _) ?_)|(refine ab ?_ (fun _=>hs3 _) ?_));(focus (simp only[results7,ntmps7,am,f1,hpv,hpr,hpa,hpc,hpd,ad,Lo,List.length_nil,Lm,Bt,Bf,ai,seval,ah]<;>exact rfl)))|(first|(refine ac ?_ (hal _) ?_)|(refine ab ?_ (fun _=>hal _) ?_)|(refine ac ?_ (hck _) ?_)|(refine ab ?_ (fun _=>hck _) ?_)|(refine ac ?_ (hst _) ?_)|(refine ab ?_ (fun _=>hst _) ?_))|((first|apply Ca|apply Cb)<;>intro hb)|refine Ai (by omega) ?_|(apply Ai<;>intro hb)|refine Fin.pure ?_ ?_ ?_|simp only[au])
     ·have f3:(ck != 0)=true:=by simpa using e3
      have hst1:Rz c=true:=by
       cases h:Rz c with
       | true=>rfl
       | false=>exact absurd (hmay rfl h) e3
      rw[hst1]at hst
      clear hbk2 hno hmay hfour
      refine ay rfl (fun cargs w=>call7 cargs w) func7 rfl mixed (by kernel_rfl) rfl ?_;intro b0 hb0
      (repeat' first|simp only[al,aj,results7,ntmps7,am,f1,f3,hpv,hpr,hpa,hpc,hpd,ad,Lo,List.length_nil,Lm,Bt,Bf,ai,seval,ah]|exact rfl|refine aa (v:=.any) ?_|((first|(refine ac ?_ (hg1 _) ?_)|(refine ab ?_ (fun _=>hg1 _) ?_)|(refine ac ?_ (hb1 _) ?_)|(refine ab ?_ (fun _=>hb1 _) ?_)|(refine ac ?_ (hs1 _) ?_)|(refine ab ?_ (fun _=>hs1 _) ?_)|(refine ac ?_ (hm1 _) ?_)|(refine ab ?_ (fun _=>hm1 _) ?_));(focus (simp only[results7,ntmps7,am,f1,f3,hpv,hpr,hpa,hpc,hpd,ad,Lo,List.length_nil,Lm,Bt,Bf,ai,seval,ah]<;>exact rfl)))|((first|(refine ac ?_ (hg2 _) ?_)|(refine ab ?_ (fun _=>hg2 _) ?_)|(refine ac ?_ (hb2 _) ?_)|(refine ab ?_ (fun _=>hb2 _) ?_)|(refine ac ?_ (hs2 _) ?_)|(refine ab ?_ (fun _=>hs2 _) ?_)|(refine ac ?_ (hm2 _) ?_)|(refine ab ?_ (fun _=>hm2 _) ?_));(focus (simp only[results7,ntmps7,am,f1,f3,hpv,hpr,hpa,hpc,hpd,ad,Lo,List.length_nil,Lm,Bt,Bf,ai,seval,ah]<;>exact rfl)))|((first|(refine ac ?_ (hs3 _) ?_)|(refine ab ?_ (fun _=>hs3 _) ?_));(focus (simp only[results7,ntmps7,am,f1,f3,hpv,hpr,hpa,hpc,hpd,ad,Lo,List.length_nil,Lm,Bt,Bf,ai,seval,ah]<;>exact rfl)))|(first|(refine ac ?_ (hal _) ?_)|(refine ab ?_ (fun _=>hal _) ?_)|(refine ac ?_ (hck _) ?_)|(refine ab ?_ (fun _=>hck _) ?_)|(refine ac ?_ (hst _) ?_)|(refine ab ?_ (fun _=>hst _) ?_))|((first|apply Ca|apply Cb)<;>intro hb)|refine Ai (by omega) ?_|(apply Ai<;>intro hb)|refine Fin.pure ?_ ?_ ?_|simp only[au])
    ·have f2:(ce != 0)=true:=by simpa using e2
     have:=hno e2
     subst this
     clear hbk2 hno hmay hfour
     refine ay rfl (fun cargs w=>call7 cargs w) func7 rfl mixed (by kernel_rfl) rfl ?_;intro b0 hb0
     (repeat' first|simp only[al,aj,results7,ntmps7,am,f1,f2,hpv,hpr,hpa,hpc,hpd,ad,Lo,List.length_nil,Lm,Bt,Bf,ai,seval,ah]|exact rfl|refine aa (v:=.any) ?_|((first|(refine ac ?_ (hg1 _) ?_)|(refine ab ?_ (fun _=>hg1 _) ?_)|(refine ac ?_ (hb1 _) ?_)|(refine ab ?_ (fun _=>hb1 _) ?_)|(refine ac ?_ (hs1 _) ?_)|(refine ab ?_ (fun _=>hs1 _) ?_)|(refine ac ?_ (hm1 _) ?_)|(refine ab ?_ (fun _=>hm1 _) ?_));(focus (simp only[results7,ntmps7,am,f1,f2,hpv,hpr,hpa,hpc,hpd,ad,Lo,List.length_nil,Lm,Bt,Bf,ai,seval,ah]<;>exact rfl)))|((first|(refine ac ?_ (hg2 _) ?_)|(refine ab ?_ (fun _=>hg2 _) ?_)|(refine ac ?_ (hb2 _) ?_)|(refine ab ?_ (fun _=>hb2 _) ?_)|(refine ac ?_ (hs2 _) ?_)|(refine ab ?_ (fun _=>hs2 _) ?_)|(refine ac ?_ (hm2 _) ?_)|(refine ab ?_ (fun _=>hm2 _) ?_));(focus (simp only[results7,ntmps7,am,f1,f2,hpv,hpr,hpa,hpc,hpd,ad,Lo,List.length_nil,Lm,Bt,Bf,ai,seval,ah]<;>exact rfl)))|((first|(refine ac ?_ (hs3 _) ?_)|(refine ab ?_ (fun _=>hs3 _) ?_));(focus (simp only[results7,ntmps7,am,f1,f2,hpv,hpr,hpa,hpc,hpd,ad,Lo,List.length_nil,Lm,Bt,Bf,ai,seval,ah]<;>exact rfl)))|(first|(refine ac ?_ (hal _) ?_)|(refine ab ?_ (fun _=>hal _) ?_)|(refine ac ?_ (hck _) ?_)|(refine ab ?_ (fun _=>hck _) ?_)|(refine ac ?_ (hst _) ?_)|(refine ab ?_ (fun _=>hst _) ?_))|((first|apply Ca|apply Cb)<;>intro hb)|refine Ai (by omega) ?_|(apply Ai<;>intro hb)|refine Fin.pure ?_ ?_ ?_|simp only[au])
theorem t7 (xs:List V)(h:gF cx.P Tryz.f7.params.toList xs):Ev cx 7 0 xs aq.nil (.bool true) []:=by
 rw[Tryz.params7]at h
 obtain⟨_,v1,_,rfl,h1,_,v2,_,rfl,h2,h4⟩:=h
 obtain rfl:=tL h4
 obtain⟨l,rfl,hl,hs⟩:=pn h1
 obtain⟨r,rfl,hr,ht⟩:=pn h2
 rw[lS rl (by simp),lS rl (by simp)]
 exact Sn l r hl hs hr ht 0
end Go.Proofs.YtidmkaalhmeflaaGreatDoor
