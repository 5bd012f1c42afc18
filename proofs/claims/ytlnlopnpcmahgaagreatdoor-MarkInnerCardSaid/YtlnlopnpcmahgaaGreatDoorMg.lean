/-
 Texts joined: XIi.
-/
import Derived.Test.YtlnlopnpcmahgaaGreatDoorMf
import Derived.Test.YtlnlopnpcmahgaaGreatDoorMd
set_option linter.all false
namespace Go.Proofs.YtlnlopnpcmahgaaGreatDoor
open Go Go.RowKit Vm Go.Lib Tryz
open Vm renaming aW->Ca,bf->Cb
open And renaming intro->Ai
open List renaming length_map->Lm,not_mem_nil->Ln,map_nil->Lo,map_cons->Lc,mem_cons->Lk
open Bool renaming not_false->Bf,not_true->Bt
structure InSt where
 D:Fo
 R:Fo
 i:Nat
def InSt.inv (k:Fo)(sp:List UInt8)(x:InSt):Prop:=x.D.app x.R=k/\x.i=x.D.count/\(bk (x.D.tell sp).toks).length<=x.i*16384
def HG (D m':Fo)(sp:List UInt8):bk (D.tell sp).toks++bk (m'.tell sp).toks=bk ((D.app m').tell sp).toks:=by
 rw[Fo.tell_app,Fo.toks_app,nW]
set_option maxRecDepth 100000 in
set_option maxHeartbeats 16000000 in
def uq (v:List Nd)(hv:v.length<=bc)(hok:∀ x∈v,x.okTo bc/\x.i64)(nm:Nat):Ev cx 8 nm [.sl false 6 (v.map aV)] am.nil (.bool true) []:=by
  have hgr:=CE v 100 5000 (by omega) (by omega) hv (fun x hx=>(hok x hx).1)
  have hal:=sV
  cases hg:mW v 100 5000 with
  | true =>
    rw[hg]at hgr
    refine bh call8 func8 rfl (by kernel_rfl) rfl ?_;intro b0 hb0
    (repeat' first|simp only[ak,ag,results8,ntmps8,al,ad,ai,seval,ah]|exact rfl|refine aa (v:=.any) ?_|(first|(refine ae ?_ (hal _) ?_)|(refine ab ?_ (fun _=>hal _) ?_)|(refine ae ?_ (hgr _) ?_)|(refine ab ?_ (fun _=>hgr _) ?_))|((first|apply Ca|apply Cb)<;>intro hb)|refine Ai (by omega) ?_|(apply Ai<;>intro hb)|refine Fin.pure ?_ ?_ ?_|simp only[ap])
  | false =>
    rw[hg]at hgr
    obtain⟨_,hv2⟩:=vE (by omega) (by omega) hg
    have hvo:∀ n∈v,n.okTo 999900/\n.i64:=fun n hn=>⟨jj (hv2 n hn).2.1 (by decide),(hok n hn).2⟩
    have hwr:=qu v [] hv hvo (by simp)
    by_cases hE:(cD v []).2=0
    · obtain ⟨n,k,P,h1,h2,h3,hl,hsp,hall,hin⟩:=Bo hE
      rw[hE,hall]at hwr
      have hbo:bu v=some ((1+k.size)::k.ends 1):=by rw[h2];exact qx (Nat.le_refl _) h1 h3 hl
      obtain⟨en,hen⟩:∃ en,en=(1+k.size)::k.ends 1:=⟨_,rfl⟩
      have h5:=hen
      rw[<- hen]at hbo
      clear hen
      have hvl:v.length=k.size+1:=by rw[h2];simp[Fo.flat_length]
      have hen0:en[0]? = some (1+k.size):=by rw[h5];rfl
      have hki:=Ey v hv hok hbo 0 (1+k.size) (by omega) hen0
      have hel:en.length=v.length:=(jd hbo).1
      have hen1:en.drop 1=k.ends 1++[]:=by rw[h5];simp
      rw[show od en (1+k.size) (0+1)=k.tops 1 from Gs hen1]at hki
      have hTl:(k.tops 1).length=k.count:=Fo.tops_length k 1
      have hcs:=Fo.count_size k
      generalize hTd:k.tops 1=T at hki hTl
      obtain⟨g1,g2,g3,g4,g5,g6⟩:=Fo.good_cons.1 h3
      have hat0:(v.map aV)[0]? = some (aV n):=by rw[h2];rfl
      have hv0:0<v.length:=by omega
      have hv0i:(0:Int)<(v.length:Int):=by omega
      have hnl:n.name.length<=20000:=(hv2 n (by rw[h2];simp)).2.1.2.2.1
      have hlen16:=xb v []
      rw[hall]at hlen16
      generalize hTL:(if k.count=0 then [47,62] else bk (k.tell n.space).toks++([60,47]++n.name++[62]))=TL at hwr hlen16
      have hlt:(P++TL).length=P.length+TL.length:=List.length_append
      have hdr:(P++TL).drop P.length=TL:=List.drop_left
      generalize hALL:P++TL=ALL at hwr hlt hdr hlen16
      refine bh call8 func8 rfl (by kernel_rfl) rfl ?_;intro b0 hb0
      repeat' first|simp only[ak,ag,results8,ntmps8,al,ad,aH,Lm,Bt,ai,seval,ah]|exact rfl|refine aa (v:=.any) ?_|(first|(refine ae ?_ (hal _) ?_)|(refine ab ?_ (fun _=>hal _) ?_)|(refine ae ?_ (hgr _) ?_)|(refine ab ?_ (fun _=>hgr _) ?_)|(refine ae ?_ (hwr _) ?_)|(refine ab ?_ (fun _=>hwr _) ?_)|(refine ae ?_ (hki _) ?_)|(refine ab ?_ (fun _=>hki _) ?_))|((first|apply Ca|apply Cb)<;>intro hb)|refine Ai (by omega) ?_|(apply Ai<;>intro hb)
      (refine aQ bM (fun x:InSt=>k.count-x.i) (fun x=>x.inv k n.space) (b0+16) (fun x=>[(0,.sl false 6 (v.map aV)),(3,.bool true),(4,.str ALL),(6,.sl false 1 (T.map cQ)),(8,.str (bk (x.D.tell n.space).toks)),(9,.int .i64 x.i)]) (fun x=>[]) ((InSt.mk .nil k 0)) [] ?_ ?_ ?_ ?_;rotate_left 1;(focus (show b0<=_;omega));(focus (refine⟨?_,?_⟩<;>(try simp only[aX,ad,aH,aJ,Fo.tell,Fo.toks,bk,List.flatMap_nil,Lm,ai,seval,ah,ap])<;>(try omega)));rotate_left 1)
      · exact⟨rfl,rfl,by simp[Fo.tell,Fo.toks,bk]⟩
      · rintro ⟨D,R,i⟩ ⟨hi1,hi3,hi4⟩
        simp only at hi1 hi3 hi4 ⊢
        cases R with
        | nil =>
          rw[Fo.app_nil]at hi1
          subst hi1
          have d1:decide ((i:Int)<(T.length:Int))=false:=bm
          have d2:decide (i<T.length)=false:=bm
          have d3:decide ((TL.length:Int)<=(ALL.length:Int))=true:=bR
          have d4:decide (TL.length<=ALL.length)=true:=bR
          have hws:IntKind.i64.wrap ((ALL.length:Int)-(TL.length:Int))=((P.length:Nat):Int):=by rw[bd];omega
          have hpl:P.length<=ALL.length:=by omega
          by_cases hc:D.count=0
          · rw[if_pos hc]at hTL
            have e1:((T.length:Int)==0)=true:=by rw[beq_iff_eq];omega
            have e2:(T.length==0)=true:=by rw[beq_iff_eq];omega
            subst hTL
            have hT2:([47,62]:List UInt8).length=2:=rfl
            rw[hT2]at hlt d4
            have d3:decide ((2:Int)<=(ALL.length:Int))=true:=bR
            have hws:IntKind.i64.wrap ((ALL.length:Int)-2)=((P.length:Nat):Int):=by rw[bd];omega
            have hW0:(bk (D.tell n.space).toks).length=0:=by omega
            have hW1:(bk (D.tell n.space).toks++[60,47]).length=(bk (D.tell n.space).toks).length+2:=List.length_append
            generalize bk (D.tell n.space).toks=W at hW0 hW1 ⊢
            have hW2:((W++[60,47])++n.name).length=(W++[60,47]).length+n.name.length:=List.length_append
            (repeat' first|simp only[ak,ag,results8,ntmps8,al,d1,d2,d3,d4,e1,e2,hws,hpl,hdr,hat0,hv0,hv0i,aV,ad,Lm,List.length_cons,List.length_nil,Bool.and_self,ai,seval,ah]|exact rfl|refine aa (v:=.any) ?_|((first|apply Ca|apply Cb)<;>intro hb)|refine Ai (by omega) ?_|(apply Ai<;>intro hb)|refine Fin.pure ?_ ?_ ?_|simp only[ap])
          · rw[if_neg hc]at hTL
            have e1:((T.length:Int)==0)=false:=beq_false_of_ne (by omega)
            have e2:(T.length==0)=false:=beq_false_of_ne (by omega)
            have hcat:((bk (D.tell n.space).toks++[60,47])++n.name)++[62]=TL:=by rw[<- hTL];simp
            have hW0:(bk (D.tell n.space).toks).length<=16384*511:=by omega
            generalize bk (D.tell n.space).toks=W at hcat hW0 ⊢
            have hW1:(W++[60,47]).length=W.length+2:=List.length_append
            have hW2:((W++[60,47])++n.name).length=(W++[60,47]).length+n.name.length:=List.length_append
            (repeat' first|simp only[ak,ag,results8,ntmps8,al,d1,d2,d3,d4,e1,e2,hws,hpl,hdr,hcat,hat0,hv0,hv0i,aV,ad,Lm,Bool.and_self,ai,seval,ah]|exact rfl|refine aa (v:=.any) ?_|((first|apply Ca|apply Cb)<;>intro hb)|refine Ai (by omega) ?_|(apply Ai<;>intro hb)|refine Fin.pure ?_ ?_ ?_|simp only[ap])
        | cons m c r =>
          have hi1':(D.app (.cons m c .nil)).app r=k:=by rw[Fo.app_assoc];exact hi1
          have hct:=Fo.app_count D (.cons m c .nil)
          simp only[Fo.count,Nat.zero_add]at hct
          have hks:k.size=D.size+(c.size+r.size+1):=by rw[<- hi1,Fo.app_size];rfl
          have hkc:k.count=D.count+(r.count+1):=by rw[<- hi1,Fo.app_count];rfl
          obtain⟨q,hq⟩:∃ q,q=1+D.size:=⟨_,rfl⟩
          have hvq:v=(n::D.flat)++m::(c.flat++r.flat):=by rw[h2,<- hi1,Fo.app_flat];rfl
          have hmq:v[q]? = some m:=by rw[hvq];exact BG (by simp[Fo.flat_length];omega)
          have hTq:T[i]? = some q:=by
            rw[<- hTd,<- hi1,Fo.tops_app]
            simp only[Fo.tops]
            rw[show 1+D.size=q by omega]
            exact BG (by rw[Fo.tops_length];omega)
          have heq:en[q]? = some (q+1+c.size):=by
            have:en=(((1+k.size)::D.ends 1))++(q+1+c.size)::(c.ends (q+1)++r.ends (q+1+c.size)):=by
              rw[h5,<- hi1,Fo.ends_app,hq];rfl
            rw[this];exact BG (by simp[Fo.ends_length];omega)
          have hXd:(v.drop q).take (q+1+c.size-q)=m::c.flat:=by
            rw[hvq,List.drop_left' (by simp[Fo.flat_length];omega),show q+1+c.size-q=c.flat.length+1 by rw[Fo.flat_length];omega,List.take_succ_cons,Lz _ _ rfl]
          obtain⟨hat1,hil⟩:=Ql hTq
          have hat2:=iL hmq
          have hql:=(List.getElem?_eq_some_iff.1 hmq).1
          have hqi:(q:Int)<(v.length:Int):=by omega
          have d1:decide ((i:Int)<(T.length:Int))=true:=bR
          have d2:decide (i<T.length)=true:=decide_eq_true hil
          have hwk:IntKind.i64.wrap ((i:Int)+1)=((i+1:Nat):Int):=bd
          have hili:(i:Int)<(T.length:Int):=by omega
          by_cases hm2:m.kind=2
          · have q3:((m.kind:Int)==2)=true:=by rw[hm2];rfl
            (repeat' first|simp only[ak,ag,results8,ntmps8,al,d1,d2,q3,hat1,hat2,hil,hili,hql,hqi,cQ,aV,aH,ad,Lm,ai,seval,ah]|exact rfl|refine aa (v:=.any) ?_|((first|apply Ca|apply Cb)<;>intro hb)|refine Ai (by omega) ?_|(apply Ai<;>intro hb)|refine Fin.pure ?_ ?_ ?_|simp only[ap])
          · have hw2:=hin D m c r hi1 hm2
            have hsub:∀ x∈m::c.flat,x∈v:=fun x hx=>by
              rw[hvq]
              rcases List.mem_cons.1 hx with rfl|hx
              · simp
              · exact List.mem_append_right _ (List.mem_cons_of_mem _ (List.mem_append_left _ hx))
            have hw3 := qu (m :: c.flat) n.space (by have:(m::c.flat).length=c.size+1:=(by simp[Fo.flat_length]);omega) (fun x hx=>hvo x (hsub x hx)) (by unfold bc;omega)
            have hwl:=xb (m::c.flat) n.space
            rw[hw2]at hw3 hwl
            have hsn:=HG D (.cons m c .nil) n.space
            obtain⟨X,hX⟩:∃ X,X=m::c.flat:=⟨_,rfl⟩
            rw[<- hX]at hXd hw3
            generalize bk ((Fo.cons m c .nil).tell n.space).toks=W2 at hw3 hsn hwl
            have hWl:=congrArg List.length hsn
            rw[List.length_append]at hWl
            simp only at hwl
            have hW0:(bk (D.tell n.space).toks).length<=16384*511:=by omega
            have hsb:=Qy v hv hok hbo q _ hmq hm2 heq hXd
            have q3:((m.kind:Int)==2)=false:=beq_false_of_ne (by omega)
            repeat' first|simp only[ak,ag,results8,ntmps8,al,d1,d2,q3,hat0,hat1,hat2,hv0,hv0i,hil,hili,hql,hqi,hwk,cQ,aV,aH,ad,Lm,Bt,Bf,ai,seval,ah]|exact rfl|refine aa (v:=.any) ?_|(first|(refine ae ?_ (hsb _) ?_)|(refine ab ?_ (fun _=>hsb _) ?_)|(refine ae ?_ (hw3 _) ?_)|(refine ab ?_ (fun _=>hw3 _) ?_))|((first|apply Ca|apply Cb)<;>intro hb)|refine Ai (by omega) ?_|(apply Ai<;>intro hb)
            all_goals ((refine aC bM (InSt.mk (D.app (.cons m c .nil)) r (i+1)) [] ?_ ?_ ?_ ?_;rotate_left 2;(focus (show b0<=_;omega));(focus (refine⟨?_,?_⟩<;>(try simp only[aX,hwk,hsn,aV,ad,aH,aJ,Lm,ai,seval,ah,ap])<;>(try omega)))))
            all_goals (first|(show k.count-(i+1)<k.count-i;omega)|(refine⟨hi1',?_,?_⟩<;>simp only<;>omega)|skip)
    · have hno:=u6 hE
      rw[hno]at hwr
      have q:((cD v []).2 != 0)=true:=by simpa using hE
      obtain⟨kv,ke,hki⟩:∃ kv ke,∀ nm,Ev cx 22 nm [.sl false 6 (v.map aV),.int .i64 0] am.nil (.tup [.sl false 1 (List.map cQ kv),.int .i64 ke]) []:=by
        cases hbo:bu v with
        | none =>
          have hE8:mo v ((0:Nat):Int)=8:=by unfold mo;rw[hbo];rfl
          have hki:=Nx v hv hok ((0:Nat):Int) (by rw[hE8];decide)
          rw[hE8]at hki
          refine⟨[],8,fun nm=>Ev.res_le (hki nm) ?_⟩
          simp only[lI,dZ,fj,bL,jG,Lo,and_self]
        | some en =>
          obtain⟨hel,hv0,_,_⟩:=jd hbo
          obtain⟨e,he⟩:∃ e,en[0]? = some e:=⟨_,List.getElem?_eq_getElem (by omega)⟩
          exact⟨_,0,fun nm=>Ey v hv hok hbo 0 e hv0 he nm⟩
      generalize (cD v []).2=E at hwr q
      refine bh call8 func8 rfl (by kernel_rfl) rfl ?_;intro b0 hb0
      (repeat' first|simp only[ak,ag,results8,ntmps8,al,q,ad,aH,Lm,Bt,ai,seval,ah]|exact rfl|refine aa (v:=.any) ?_|(first|(refine ae ?_ (hal _) ?_)|(refine ab ?_ (fun _=>hal _) ?_)|(refine ae ?_ (hgr _) ?_)|(refine ab ?_ (fun _=>hgr _) ?_)|(refine ae ?_ (hwr _) ?_)|(refine ab ?_ (fun _=>hwr _) ?_)|(refine ae ?_ (hki _) ?_)|(refine ab ?_ (fun _=>hki _) ?_))|((first|apply Ca|apply Cb)<;>intro hb)|refine Ai (by omega) ?_|(apply Ai<;>intro hb)|refine Fin.pure ?_ ?_ ?_|simp only[ap])
def uo (xs:List V)(h:jl cx.P Tryz.f8.params.toList xs):Ev cx 8 0 xs am.nil (.bool true) []:=by
 rw[Tryz.params8]at h
 obtain⟨_,v1,_,rfl,h1,h2⟩:=h
 obtain rfl:=y6 h2
 obtain⟨l,rfl,hl,hs⟩:=GO h1
 rw[H3 Ez (by simp)]
 exact uq l hl hs 0
end Go.Proofs.YtlnlopnpcmahgaaGreatDoor
