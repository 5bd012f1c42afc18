/-
 Texts joined: XSp,XSq,XDb,XDe.
-/
import Derived.Test.YtjdjclecdfhciaaGreatDoorCards
import Derived.Test.YtjdjclecdfhciaaGreatDoorTie
import Derived.Lib.LaidIn
import Derived.Lib.LaidU8
import Derived.Deep.DeepHandedRow
import Derived.Deep.DeepWitnessRowRef
import Derived.ProofKit
import Derived.OpenShut
import Derived.ShutString
import Derived.ChangeOld
import Derived.Lib.ItoaNum
import Derived.Test.YtjdjclecdfhciaaGreatDoorQq
import Derived.Test.YtjdjclecdfhciaaGreatDoorQs
import Derived.Test.YtjdjclecdfhciaaGreatDoorQp
import Derived.Test.YtjdjclecdfhciaaGreatDoorQr
import Derived.Test.YtjdjclecdfhciaaGreatDoorQd
import Derived.Test.YtjdjclecdfhciaaGreatDoorQf
namespace Go.Proofs.YtjdjclecdfhciaaGreatDoor
set_option maxRecDepth 100000
set_option maxHeartbeats 32000000
set_option linter.unusedSimpArgs false
set_option linter.unusedVariables false
open Go Go.RowKit Vm Go.Lib Go.Proofs.Tryz
open Vm renaming cond_bool→Ca,cond_bit→Cb
open And renaming intro→Ai
open List renaming length_map→Lm,not_mem_nil→Ln,map_nil→Lo,map_cons→Lc,mem_cons→Lk
open Bool renaming not_false→Bf,not_true→Bt
theorem parse_sl (l:List Tk)(hl:l.length≤600)(hs:∀ t∈l,t.okTo 1000000∧t.attrs.length≤30)(nm:Nat) :
    (parseE l≠0→Ev cx 24 nm [.sl false 4 (l.map tkC)] Mem.nil (.tup [.nils,.int .i64 (parseE l)]) []) ∧
    (parseE l=0→Ev cx 24 nm [.sl false 4 (l.map tkC)] Mem.nil (.tup [.own nm 0 (parseT l).length,.int .i64 0]) [(nm,some ⟨6,(parseT l).map ndC⟩)]):=by
  have hlim:∀ t∈l,t.okTo lim:=fun t ht=>by
    obtain⟨⟨h1,h2,h3,h4⟩,_⟩:=hs t ht
    unfold lim
    exact⟨by omega,by omega,by omega,fun a ha=>by have:=h4 a ha;omega⟩
  have hcf:=containstk_ev l 66 [] (fun t=>!tokL t) (fun t ht nm=>parse1_ev t (hlim t ht) nm) (by unfold lim;omega) rfl
  have htkl:(l.map tkC).take l.length=l.map tkC:=List.take_of_length_le (by simp)
  by_cases h512:512<l.length
  · have he:=parse_many h512
    have hd:decide ((512:Int)<(l.length:Int))=true:=decide_eq_true (by omega)
    refine⟨fun _=>?_,fun h=>by omega⟩
    rw[he]
    refine ev_go rfl (fun cargs w=>call24 cargs w) func24 rfl mixed (by kernel_rfl) rfl ?_;intro b0 hb0
    repeat' first|simp only[fins,mems,results24,ntmps24,wks,hd,Lm,vcs,seval,tys]|exact rfl|refine call_off (v:=.any) ?_|((first|apply Ca|apply Cb)<;>intro hb)|refine Ai (by omega) ?_|(apply Ai<;>intro hb)
    all_goals ((refine Fin.pure ?_ ?_ ?_<;>simp only[wks,plain_tk,results24,ntmps24,vcs,seval,tys]))
  · have hd:decide ((512:Int)<(l.length:Int))=false:=decide_eq_false (by omega)
    cases hany:(l.any fun t=>!tokL t) with
    | true =>
      rw[hany]at hcf
      have he:=parse_bad h512 hany
      refine⟨fun _=>?_,fun h=>by omega⟩
      rw[he]
      refine ev_go rfl (fun cargs w=>call24 cargs w) func24 rfl mixed (by kernel_rfl) rfl ?_;intro b0 hb0
      repeat' first|simp only[fins,mems,results24,ntmps24,wks,hd,htkl,plain_tk,Lm,vcs,seval,tys]|exact rfl|refine call_off (v:=.any) ?_|(first|(refine call_fn ?_ (hcf _) ?_)|(refine call_fn_g ?_ (fun _=>hcf _) ?_))|((first|apply Ca|apply Cb)<;>intro hb)|refine Ai (by omega) ?_|(apply Ai<;>intro hb)
      all_goals ((refine Fin.pure ?_ ?_ ?_<;>simp only[wks,plain_tk,results24,ntmps24,vcs,seval,tys]))
    | false =>
      rw[hany]at hcf
      have main:∀(v:V) (eff:List (Nat×Option Blk)),((parseE l≠0∧v = .tup [.nils,.int .i64 (parseE l)]∧eff=[])∨(parseE l=0∧v = .tup [.own nm 0 (parseT l).length,.int .i64 0]∧eff=[(nm,some ⟨6,(parseT l).map ndC⟩)]))→Ev cx 24 nm [.sl false 4 (l.map tkC)] Mem.nil v eff:=by
        intro v eff hve
        refine ev_go rfl (fun cargs w=>call24 cargs w) func24 rfl mixed (by kernel_rfl) rfl ?_;intro b0 hb0
        repeat' first|simp only[fins,mems,results24,ntmps24,wks,hd,htkl,plain_tk,Lm,vcs,seval,tys]|exact rfl|refine call_off (v:=.any) ?_|(first|(refine call_fn ?_ (hcf _) ?_)|(refine call_fn_g ?_ (fun _=>hcf _) ?_))|((first|apply Ca|apply Cb)<;>intro hb)|refine Ai (by omega) ?_|(apply Ai<;>intro hb)
        (refine loop_can2F cxG (fun x:PSt=>l.length-x.k) (fun x=>x.inv l) (b0+16) (fun x=>[(4,.ptr b0 0 0),(5,.fnb 68 [.ptr b0 0 0]),(6,.fnb 69 [.ptr b0 0 0]),(7,.fnb 70 [.ptr b0 0 0]),(25,.sl false 4 (l.map tkC)),(26,.int .i64 l.length),(27,.int .i64 x.k)]) (fun x=>[(b0,⟨3,[grC (b0+1) (b0+2) x.g x.last]⟩),(b0+1,⟨6,x.g.v.map ndC⟩),(b0+2,⟨1,(x.g.opn++x.junk).map noC⟩)]) (PSt.mk 0 (Gr.mk [] []) [] 0) [some (b0+128),none,none] ?_ ?_ ?_ ?_;rotate_left 1;(focus (show b0≤_;omega));(focus (refine⟨?_,?_⟩<;>(try simp only[cans,canfs,grC,plain_tk,plain_nd,plain_no,isRow_inst,Bool.and_self,Bool.false_and,Lo,List.append_nil,List.length_nil,Lm,vcs,seval,tys,injs])<;>(try omega)));rotate_left 1)
        · exact⟨Nat.zero_le _,start_ok,rfl⟩
        · rintro ⟨k,g,junk,last⟩ hinv
          have hinv':=hinv
          obtain⟨hk,hg,hgo⟩:=hinv'
          simp only at hk hg hgo
          by_cases hlt:k<l.length
          · obtain ⟨t,ht⟩:∃ t,l[k]? = some t:=⟨_,List.getElem?_eq_getElem hlt⟩
            have hat:=tk_at ht
            have hd1:decide (k<l.length)=true:=decide_eq_true hlt
            have hwk:IntKind.i64.wrap ((k:Int)+1)=((k+1:Nat):Int):=wrap_in (by omega) (by omega)
            obtain⟨hto,h30⟩:=hs t (List.mem_of_getElem? ht)
            have htok:tokL t=true:=by
              cases hh:tokL t with
              | true=>rfl
              | false=>rw[List.any_eq_true.2 ⟨t,List.mem_of_getElem? ht,by simp[hh]⟩]at hany;cases hany
            have hvl:=hg.len
            have herr:∀ e:Int,(stepG g t (last==4)).2=e→e≠0→parseE l=e:=fun e h1 h2=>parse_err h512 hany (inv_err hinv ht h1 h2) h2
            have hnext:∀(g':Gr) (junk':List Nat),stepG g t (last==4)=(g',0)→PSt.inv l ⟨k+1,g',junk',t.kind⟩:=fun g' junk' h=>inv_next hinv ht h junk'
            rcases kind_cases htok with hk1|hk1|hk1|hk1
            · have q4:((t.kind:Int)==4)=false:=beq_false_of_ne (by omega)
              have q2:((t.kind:Int)==2)=false:=beq_false_of_ne (by omega)
              have hs0:stepG g t (last==4)=(if (g.opn.isEmpty && !g.v.isEmpty)=true then (g,80) else if 12≤g.opn.length then (g,100) else (⟨addG g (elemN t),if t.kind=1 then g.opn++[g.v.length] else g.opn⟩,0)):=by unfold stepG;rw[if_neg (by omega),if_neg (by omega)]
              by_cases c1:(g.opn.isEmpty && !g.v.isEmpty)=true
              · have hst:stepG g t (last==4)=(g,80):=by rw[hs0,if_pos c1]
                have he:=herr 80 (by rw[hst]) (by omega)
                have hsn:=fun (M':Mem) (a:M' b0=some ⟨3,[grC (b0+1) (b0+2) g last]⟩) (b:M' (b0+1)=some ⟨6,g.v.map ndC⟩) (c:M' (b0+2)=some ⟨1,(g.opn++junk).map noC⟩) (d:∀ w,(M' w).isSome=true→w∈[b0,b0+1,b0+2]) (m:Nat)=>elem_no g k hg (by omega) junk last b0 (b0+1) (b0+2) t 80 (.inl ⟨c1,rfl⟩) M' m (by omega) (by omega) (by omega) a b c d
                rcases hve with ⟨_,rfl,rfl⟩|⟨h0,_⟩
                · rw[he]
                  repeat' first|simp only[fins,mems,results24,ntmps24,wks,plain_pr,tkC,grC,hat,hlt,hd1,fresh_lit,q4,q2,Lm,vcs,seval,tys]|exact rfl|refine call_off (v:=.any) ?_|((refine call_bnd (fi:=?_) ?_ ?_ [b0,b0+1,b0+2] (hsn _ ?_ ?_ ?_ only_mem _) ?_ ?_);rotate_left 1)|((first|apply Ca|apply Cb)<;>intro hb)|refine Ai (by omega) ?_|(apply Ai<;>intro hb)
                  all_goals ((refine Fin.pure ?_ ?_ ?_<;>simp only[wks,plain_tk,results24,ntmps24,vcs,seval,tys]))
                · omega
              · have c1':(g.opn.isEmpty && !g.v.isEmpty)=false:=by simpa using c1
                by_cases c2:12≤g.opn.length
                · have hst:stepG g t (last==4)=(g,100):=by rw[hs0,if_neg c1,if_pos c2]
                  have he:=herr 100 (by rw[hst]) (by omega)
                  have hsn:=fun (M':Mem) (a:M' b0=some ⟨3,[grC (b0+1) (b0+2) g last]⟩) (b:M' (b0+1)=some ⟨6,g.v.map ndC⟩) (c:M' (b0+2)=some ⟨1,(g.opn++junk).map noC⟩) (d:∀ w,(M' w).isSome=true→w∈[b0,b0+1,b0+2]) (m:Nat)=>elem_no g k hg (by omega) junk last b0 (b0+1) (b0+2) t 100 (.inr ⟨c1',c2,rfl⟩) M' m (by omega) (by omega) (by omega) a b c d
                  rcases hve with ⟨_,rfl,rfl⟩|⟨h0,_⟩
                  · rw[he]
                    repeat' first|simp only[fins,mems,results24,ntmps24,wks,plain_pr,tkC,grC,hat,hlt,hd1,fresh_lit,q4,q2,Lm,vcs,seval,tys]|exact rfl|refine call_off (v:=.any) ?_|((refine call_bnd (fi:=?_) ?_ ?_ [b0,b0+1,b0+2] (hsn _ ?_ ?_ ?_ only_mem _) ?_ ?_);rotate_left 1)|((first|apply Ca|apply Cb)<;>intro hb)|refine Ai (by omega) ?_|(apply Ai<;>intro hb)
                    all_goals ((refine Fin.pure ?_ ?_ ?_<;>simp only[wks,plain_tk,results24,ntmps24,vcs,seval,tys]))
                  · omega
                · have hst:stepG g t (last==4)=(⟨addG g (elemN t),g.opn++[g.v.length]⟩,0):=by rw[hs0,if_neg c1,if_neg c2,if_pos hk1]
                  have hal:=addG_length g (elemN t)
                  have ham:=addG_map g (elemN t)
                  have hat3:((givenL t.attrs).map atC).take t.attrs.length=(givenL t.attrs).map atC:=List.take_of_length_le (by simp[givenL])
                  have hgl:=given_length t.attrs
                  have hsy0:=fun (M':Mem) (a:M' b0=some ⟨3,[grC (b0+1) (b0+2) g last]⟩) (b:M' (b0+1)=some ⟨6,g.v.map ndC⟩) (c:M' (b0+2)=some ⟨1,(g.opn++junk).map noC⟩) (d:∀ w,(M' w).isSome=true→w∈[b0,b0+1,b0+2]) (m:Nat) (h1:b0<m) (h2:b0+1<m) (h3:b0+2<m)=>elem_yes g k hg (by omega) junk last b0 (b0+1) (b0+2) t (by omega) c1' (by omega) M' m (by omega) (by omega) (by omega) a b c d h1 h2 h3
                  have hsy:=hsy0
                  simp only[elemE,if_pos hk1]at hsy
                  repeat' first|simp only[fins,mems,results24,ntmps24,wks,plain_pr,tkC,grC,hat,hlt,hd1,fresh_lit,q4,q2,Lm,vcs,seval,tys]|exact rfl|refine call_off (v:=.any) ?_|((refine call_bnd (fi:=?_) ?_ ?_ [b0,b0+1,b0+2] (hsy _ ?_ ?_ ?_ only_mem _ (by omega) (by omega) (by omega)) ?_ ?_);rotate_left 1)|((first|apply Ca|apply Cb)<;>intro hb)|refine Ai (by omega) ?_|(apply Ai<;>intro hb)
                  all_goals ((refine again_can2F cxG (PSt.mk (k+1) (Gr.mk (addG g (elemN t)) (g.opn++[g.v.length])) [] t.kind) [some b0,some (b0+256),some (b0+258)] ?_ ?_ ?_ ?_;rotate_left 2;(focus (show b0≤_;omega));(focus (refine⟨?_,?_⟩<;>(try simp only[cans,canfs,tkC,grC,hwk,hal,ham,hat3,hgl,elC,ndC_elem,plain_at,finLL_append,finLL_plain _ _ (plain_nd _),finLLOk_append,finLLOk_plain _ _ (plain_nd _),leLL_snoc,noC,List.map_append,Lc,Lo,List.append_nil,List.length_append,List.length_cons,List.length_nil,plainLL_append,plain_tk,plain_nd,plain_no,isRow_inst,Bool.and_self,Bool.false_and,Lm,vcs,seval,tys,injs])<;>(try omega)))))
                  all_goals (first|(show l.length-(k+1)<l.length-k;omega)|exact hnext _ _ hst|skip)
            · have q4:((t.kind:Int)==4)=false:=beq_false_of_ne (by omega)
              have q2:((t.kind:Int)==2)=false:=beq_false_of_ne (by omega)
              have hs0:stepG g t (last==4)=(if (g.opn.isEmpty && !g.v.isEmpty)=true then (g,80) else if 12≤g.opn.length then (g,100) else (⟨addG g (elemN t),if t.kind=1 then g.opn++[g.v.length] else g.opn⟩,0)):=by unfold stepG;rw[if_neg (by omega),if_neg (by omega)]
              by_cases c1:(g.opn.isEmpty && !g.v.isEmpty)=true
              · have hst:stepG g t (last==4)=(g,80):=by rw[hs0,if_pos c1]
                have he:=herr 80 (by rw[hst]) (by omega)
                have hsn:=fun (M':Mem) (a:M' b0=some ⟨3,[grC (b0+1) (b0+2) g last]⟩) (b:M' (b0+1)=some ⟨6,g.v.map ndC⟩) (c:M' (b0+2)=some ⟨1,(g.opn++junk).map noC⟩) (d:∀ w,(M' w).isSome=true→w∈[b0,b0+1,b0+2]) (m:Nat)=>elem_no g k hg (by omega) junk last b0 (b0+1) (b0+2) t 80 (.inl ⟨c1,rfl⟩) M' m (by omega) (by omega) (by omega) a b c d
                rcases hve with ⟨_,rfl,rfl⟩|⟨h0,_⟩
                · rw[he]
                  repeat' first|simp only[fins,mems,results24,ntmps24,wks,plain_pr,tkC,grC,hat,hlt,hd1,fresh_lit,q4,q2,Lm,vcs,seval,tys]|exact rfl|refine call_off (v:=.any) ?_|((refine call_bnd (fi:=?_) ?_ ?_ [b0,b0+1,b0+2] (hsn _ ?_ ?_ ?_ only_mem _) ?_ ?_);rotate_left 1)|((first|apply Ca|apply Cb)<;>intro hb)|refine Ai (by omega) ?_|(apply Ai<;>intro hb)
                  all_goals ((refine Fin.pure ?_ ?_ ?_<;>simp only[wks,plain_tk,results24,ntmps24,vcs,seval,tys]))
                · omega
              · have c1':(g.opn.isEmpty && !g.v.isEmpty)=false:=by simpa using c1
                by_cases c2:12≤g.opn.length
                · have hst:stepG g t (last==4)=(g,100):=by rw[hs0,if_neg c1,if_pos c2]
                  have he:=herr 100 (by rw[hst]) (by omega)
                  have hsn:=fun (M':Mem) (a:M' b0=some ⟨3,[grC (b0+1) (b0+2) g last]⟩) (b:M' (b0+1)=some ⟨6,g.v.map ndC⟩) (c:M' (b0+2)=some ⟨1,(g.opn++junk).map noC⟩) (d:∀ w,(M' w).isSome=true→w∈[b0,b0+1,b0+2]) (m:Nat)=>elem_no g k hg (by omega) junk last b0 (b0+1) (b0+2) t 100 (.inr ⟨c1',c2,rfl⟩) M' m (by omega) (by omega) (by omega) a b c d
                  rcases hve with ⟨_,rfl,rfl⟩|⟨h0,_⟩
                  · rw[he]
                    repeat' first|simp only[fins,mems,results24,ntmps24,wks,plain_pr,tkC,grC,hat,hlt,hd1,fresh_lit,q4,q2,Lm,vcs,seval,tys]|exact rfl|refine call_off (v:=.any) ?_|((refine call_bnd (fi:=?_) ?_ ?_ [b0,b0+1,b0+2] (hsn _ ?_ ?_ ?_ only_mem _) ?_ ?_);rotate_left 1)|((first|apply Ca|apply Cb)<;>intro hb)|refine Ai (by omega) ?_|(apply Ai<;>intro hb)
                    all_goals ((refine Fin.pure ?_ ?_ ?_<;>simp only[wks,plain_tk,results24,ntmps24,vcs,seval,tys]))
                  · omega
                · have hst:stepG g t (last==4)=(⟨addG g (elemN t),g.opn⟩,0):=by rw[hs0,if_neg c1,if_neg c2,if_neg (by omega)]
                  have hal:=addG_length g (elemN t)
                  have ham:=addG_map g (elemN t)
                  have hat3:((givenL t.attrs).map atC).take t.attrs.length=(givenL t.attrs).map atC:=List.take_of_length_le (by simp[givenL])
                  have hgl:=given_length t.attrs
                  have hsy0:=fun (M':Mem) (a:M' b0=some ⟨3,[grC (b0+1) (b0+2) g last]⟩) (b:M' (b0+1)=some ⟨6,g.v.map ndC⟩) (c:M' (b0+2)=some ⟨1,(g.opn++junk).map noC⟩) (d:∀ w,(M' w).isSome=true→w∈[b0,b0+1,b0+2]) (m:Nat) (h1:b0<m) (h2:b0+1<m) (h3:b0+2<m)=>elem_yes g k hg (by omega) junk last b0 (b0+1) (b0+2) t (by omega) c1' (by omega) M' m (by omega) (by omega) (by omega) a b c d h1 h2 h3
                  have hsy:=hsy0
                  simp only[elemE,if_neg (show ¬ t.kind=1 by omega)]at hsy
                  repeat' first|simp only[fins,mems,results24,ntmps24,wks,plain_pr,tkC,grC,hat,hlt,hd1,fresh_lit,q4,q2,Lm,vcs,seval,tys]|exact rfl|refine call_off (v:=.any) ?_|((refine call_bnd (fi:=?_) ?_ ?_ [b0,b0+1,b0+2] (hsy _ ?_ ?_ ?_ only_mem _ (by omega) (by omega) (by omega)) ?_ ?_);rotate_left 1)|((first|apply Ca|apply Cb)<;>intro hb)|refine Ai (by omega) ?_|(apply Ai<;>intro hb)
                  all_goals ((refine again_can2F cxG (PSt.mk (k+1) (Gr.mk (addG g (elemN t)) (g.opn)) junk t.kind) [some b0,some (b0+256),some (b0+2)] ?_ ?_ ?_ ?_;rotate_left 2;(focus (show b0≤_;omega));(focus (refine⟨?_,?_⟩<;>(try simp only[cans,canfs,tkC,grC,hwk,hal,ham,hat3,hgl,elC,ndC_elem,plain_at,finLL_append,finLL_plain _ _ (plain_nd _),finLLOk_append,finLLOk_plain _ _ (plain_nd _),leLL_snoc,noC,List.map_append,Lc,Lo,List.append_nil,List.length_append,List.length_cons,List.length_nil,plainLL_append,plain_tk,plain_nd,plain_no,isRow_inst,Bool.and_self,Bool.false_and,Lm,vcs,seval,tys,injs])<;>(try omega)))))
                  all_goals (first|(show l.length-(k+1)<l.length-k;omega)|exact hnext _ _ hst|skip)
            · have q4:((t.kind:Int)==4)=false:=beq_false_of_ne (by omega)
              have q2:((t.kind:Int)==2)=true:=by rw[hk1];rfl
              by_cases hln:lastName g=some t.name
              · have hst:stepG g t (last==4)=(⟨g.v,g.opn.dropLast⟩,0):=by unfold stepG;rw[if_neg (by omega),if_pos hk1,if_pos hln]
                obtain⟨kl,hkl,_⟩:=Option.bind_eq_some_iff.1 hln
                have hne:=(last_get hkl).1
                have hdl:g.opn.dropLast.length=g.opn.length-1:=by simp
                have hjk:g.opn.dropLast++(kl::junk)=g.opn++junk:=by
                  have:g.opn=g.opn.dropLast++[kl]:=by
                    rw[List.getLast?_eq_some_getLast hne]at hkl
                    cases hkl
                    exact(List.dropLast_concat_getLast hne).symm
                  conv=>rhs;rw[this]
                  simp
                have hsy:=fun (M':Mem) (a:M' b0=some ⟨3,[grC (b0+1) (b0+2) g last]⟩) (b:M' (b0+1)=some ⟨6,g.v.map ndC⟩) (c:M' (b0+2)=some ⟨1,(g.opn++junk).map noC⟩) (d:∀ w,(M' w).isSome=true→w∈[b0,b0+1,b0+2]) (m:Nat)=>shut_yes g k hg (by omega) junk last b0 (b0+1) (b0+2) t hln M' m (by omega) (by omega) (by omega) a b c d
                repeat' first|simp only[fins,mems,results24,ntmps24,wks,plain_pr,tkC,grC,hat,hlt,hd1,q4,q2,Lm,vcs,seval,tys]|exact rfl|refine call_off (v:=.any) ?_|((refine call_bnd (fi:=?_) ?_ ?_ [b0,b0+1,b0+2] (hsy _ ?_ ?_ ?_ only_mem _) ?_ ?_);rotate_left 1)|((first|apply Ca|apply Cb)<;>intro hb)|refine Ai (by omega) ?_|(apply Ai<;>intro hb)
                all_goals ((refine again_can2F cxG (PSt.mk (k+1) (Gr.mk g.v g.opn.dropLast) (kl::junk) t.kind) [some b0,some (b0+1),some (b0+2)] ?_ ?_ ?_ ?_;rotate_left 2;(focus (show b0≤_;omega));(focus (refine⟨?_,?_⟩<;>(try simp only[cans,canfs,tkC,grC,hwk,hdl,hjk,plain_tk,plain_nd,plain_no,isRow_inst,Bool.and_self,Bool.false_and,Lm,vcs,seval,tys,injs])<;>(try omega)))))
                all_goals (first|(show l.length-(k+1)<l.length-k;omega)|exact hnext _ _ hst|skip)
              · have hst:stepG g t (last==4)=(g,80):=by unfold stepG;rw[if_neg (by omega),if_pos hk1,if_neg hln]
                have he:=herr 80 (by rw[hst]) (by omega)
                have hsn:=fun (M':Mem) (a:M' b0=some ⟨3,[grC (b0+1) (b0+2) g last]⟩) (b:M' (b0+1)=some ⟨6,g.v.map ndC⟩) (c:M' (b0+2)=some ⟨1,(g.opn++junk).map noC⟩) (d:∀ w,(M' w).isSome=true→w∈[b0,b0+1,b0+2]) (m:Nat)=>shut_no g k hg (by omega) junk last b0 (b0+1) (b0+2) t hln M' m (by omega) (by omega) (by omega) a b c d
                rcases hve with ⟨_,rfl,rfl⟩|⟨h0,_⟩
                · rw[he]
                  repeat' first|simp only[fins,mems,results24,ntmps24,wks,plain_pr,tkC,grC,hat,hlt,hd1,fresh_lit,q4,q2,Lm,vcs,seval,tys]|exact rfl|refine call_off (v:=.any) ?_|((refine call_bnd (fi:=?_) ?_ ?_ [b0,b0+1,b0+2] (hsn _ ?_ ?_ ?_ only_mem _) ?_ ?_);rotate_left 1)|((first|apply Ca|apply Cb)<;>intro hb)|refine Ai (by omega) ?_|(apply Ai<;>intro hb)
                  all_goals ((refine Fin.pure ?_ ?_ ?_<;>simp only[wks,plain_tk,results24,ntmps24,vcs,seval,tys]))
                · omega
            · have q4:((t.kind:Int)==4)=true:=by rw[hk1];rfl
              have htl:t.text.length≤lim:=by have:=hto.2.2.1;unfold lim;omega
              have hs0:stepG g t (last==4)=(if ((last==4)||(g.opn.isEmpty && !blankL t.text))=true then (g,80) else if g.opn.isEmpty=true then (g,0) else (⟨addG g (textN t.text),g.opn⟩,0)):=by unfold stepG;rw[if_pos hk1]
              by_cases c1:wordsBad g t last=true
              · have hst:stepG g t (last==4)=(g,80):=by exact hs0.trans (if_pos c1)
                have he:=herr 80 (by rw[hst]) (by omega)
                have hsn:=fun (M':Mem) (a:M' b0=some ⟨3,[grC (b0+1) (b0+2) g last]⟩) (b:M' (b0+1)=some ⟨6,g.v.map ndC⟩) (c:M' (b0+2)=some ⟨1,(g.opn++junk).map noC⟩) (d:∀ w,(M' w).isSome=true→w∈[b0,b0+1,b0+2]) (m:Nat)=>words_no g k hg (by omega) junk last b0 (b0+1) (b0+2) t htl 80 (.inl ⟨c1,rfl⟩) M' m (by omega) (by omega) (by omega) a b c d
                rcases hve with ⟨_,rfl,rfl⟩|⟨h0,_⟩
                · rw[he]
                  repeat' first|simp only[fins,mems,results24,ntmps24,wks,plain_pr,tkC,grC,hat,hlt,hd1,fresh_lit,q4,Lm,vcs,seval,tys]|exact rfl|refine call_off (v:=.any) ?_|((refine call_bnd (fi:=?_) ?_ ?_ [b0,b0+1,b0+2] (hsn _ ?_ ?_ ?_ only_mem _) ?_ ?_);rotate_left 1)|((first|apply Ca|apply Cb)<;>intro hb)|refine Ai (by omega) ?_|(apply Ai<;>intro hb)
                  all_goals ((refine Fin.pure ?_ ?_ ?_<;>simp only[wks,plain_tk,results24,ntmps24,vcs,seval,tys]))
                · omega
              · have c1':wordsBad g t last=false:=by simpa using c1
                by_cases c2:g.opn=[]
                · have hst:stepG g t (last==4)=(g,0):=by exact hs0.trans ((if_neg c1).trans (if_pos (by rw[c2];rfl)))
                  have hsy:=fun (M':Mem) (a:M' b0=some ⟨3,[grC (b0+1) (b0+2) g last]⟩) (b:M' (b0+1)=some ⟨6,g.v.map ndC⟩) (c:M' (b0+2)=some ⟨1,(g.opn++junk).map noC⟩) (d:∀ w,(M' w).isSome=true→w∈[b0,b0+1,b0+2]) (m:Nat)=>words_no g k hg (by omega) junk last b0 (b0+1) (b0+2) t htl 0 (.inr ⟨c1',c2,rfl⟩) M' m (by omega) (by omega) (by omega) a b c d
                  repeat' first|simp only[fins,mems,results24,ntmps24,wks,plain_pr,tkC,grC,hat,hlt,hd1,fresh_lit,q4,Lm,vcs,seval,tys]|exact rfl|refine call_off (v:=.any) ?_|((refine call_bnd (fi:=?_) ?_ ?_ [b0,b0+1,b0+2] (hsy _ ?_ ?_ ?_ only_mem _) ?_ ?_);rotate_left 1)|((first|apply Ca|apply Cb)<;>intro hb)|refine Ai (by omega) ?_|(apply Ai<;>intro hb)
                  all_goals ((refine again_can2F cxG (PSt.mk (k+1) g junk t.kind) [some b0,some (b0+1),some (b0+2)] ?_ ?_ ?_ ?_;rotate_left 2;(focus (show b0≤_;omega));(focus (refine⟨?_,?_⟩<;>(try simp only[cans,canfs,tkC,grC,hwk,plain_tk,plain_nd,plain_no,isRow_inst,Bool.and_self,Bool.false_and,Lm,vcs,seval,tys,injs])<;>(try omega)))))
                  all_goals (first|(show l.length-(k+1)<l.length-k;omega)|exact hnext _ _ hst|skip)
                · have c3:g.opn.isEmpty=false:=by simpa using c2
                  have c4:(last==4)=false:=by unfold wordsBad at c1';simp only[Bool.or_eq_false_iff]at c1';exact c1'.1
                  have hst:stepG g t (last==4)=(⟨addG g (textN t.text),g.opn⟩,0):=by exact hs0.trans ((if_neg c1).trans (if_neg (by simp[c3])))
                  have hal:=addG_length g (textN t.text)
                  have ham:=addG_map g (textN t.text)
                  have hsy:=fun (M':Mem) (a:M' b0=some ⟨3,[grC (b0+1) (b0+2) g last]⟩) (b:M' (b0+1)=some ⟨6,g.v.map ndC⟩) (c:M' (b0+2)=some ⟨1,(g.opn++junk).map noC⟩) (d:∀ w,(M' w).isSome=true→w∈[b0,b0+1,b0+2]) (m:Nat) (h1:b0<m) (h2:b0+1<m) (h3:b0+2<m)=>words_add g k hg (by omega) junk last b0 (b0+1) (b0+2) t c4 c3 M' m (by omega) (by omega) (by omega) a b c d h1 h2 h3
                  repeat' first|simp only[fins,mems,results24,ntmps24,wks,plain_pr,tkC,grC,hat,hlt,hd1,fresh_lit,q4,Lm,vcs,seval,tys]|exact rfl|refine call_off (v:=.any) ?_|((refine call_bnd (fi:=?_) ?_ ?_ [b0,b0+1,b0+2] (hsy _ ?_ ?_ ?_ only_mem _ (by omega) (by omega) (by omega)) ?_ ?_);rotate_left 1)|((first|apply Ca|apply Cb)<;>intro hb)|refine Ai (by omega) ?_|(apply Ai<;>intro hb)
                  all_goals ((refine again_can2F cxG (PSt.mk (k+1) (Gr.mk (addG g (textN t.text)) g.opn) junk t.kind) [some b0,some (b0+256),some (b0+2)] ?_ ?_ ?_ ?_;rotate_left 2;(focus (show b0≤_;omega));(focus (refine⟨?_,?_⟩<;>(try simp only[cans,canfs,tkC,grC,hwk,hal,ham,ndC_text,finLL_append,finLL_plain _ _ (plain_nd _),finLLOk_append,finLLOk_plain _ _ (plain_nd _),leLL_snoc,Lo,plainLL_append,plain_tk,plain_nd,plain_no,isRow_inst,Bool.and_self,Bool.false_and,Lm,vcs,seval,tys,injs])<;>(try omega)))))
                  all_goals (first|(show l.length-(k+1)<l.length-k;omega)|exact hnext _ _ hst|skip)
          · have hke:k=l.length:=by omega
            subst hke
            have hd1:decide (l.length<l.length)=false:=decide_eq_false (by omega)
            rw[List.drop_length,goG_nil]at hgo
            have hvl:=hg.len
            have hv0:((g.v.length:Int)==0)=g.v.isEmpty:=len_zero _
            have ho0:decide ((0:Int)<(g.opn.length:Int)) = !g.opn.isEmpty:=by
              cases h:g.opn with
              | nil=>rfl
              | cons a b=>simp
            have htn:=tak_nd g.v
            by_cases hx:g.v.isEmpty=true∨g.opn.isEmpty=false
            · have he:=parse_xml h512 hany hgo hx
              rcases hve with ⟨_,rfl,rfl⟩|⟨h0,_⟩
              · rw[he]
                generalize hA:g.v.isEmpty=bA at hx hv0
                generalize hB:g.opn.isEmpty=bB at hx ho0
                cases bA<;>cases bB
                all_goals (try (exfalso;simp at hx;done))
                all_goals (
                  repeat' first|simp only[fins,mems,results24,ntmps24,wks,grC,hd1,hv0,ho0,Bt,Bf,Lm,vcs,seval,tys]|exact rfl|refine call_off (v:=.any) ?_|((first|apply Ca|apply Cb)<;>intro hb)|refine Ai (by omega) ?_|(apply Ai<;>intro hb)
                  all_goals ((refine Fin.pure ?_ ?_ ?_<;>simp only[wks,plain_tk,results24,ntmps24,vcs,seval,tys])))
              · omega
            · obtain⟨he,hpt⟩:=parse_ok h512 hany hgo hx
              rcases hve with ⟨h0,_⟩|⟨_,rfl,rfl⟩
              · omega
              · rw[hpt]
                generalize hA:g.v.isEmpty=bA at hx hv0
                generalize hB:g.opn.isEmpty=bB at hx ho0
                cases bA<;>cases bB
                all_goals (try (exfalso;simp at hx;done))
                all_goals (
                  repeat' first|simp only[fins,mems,results24,ntmps24,wks,grC,hd1,hv0,ho0,Bt,Bf,Lm,vcs,seval,tys]|exact rfl|refine call_off (v:=.any) ?_|((first|apply Ca|apply Cb)<;>intro hb)|refine Ai (by omega) ?_|(apply Ai<;>intro hb)
                  all_goals ((refine Fin.give [(b0+1,some 0)] [] ?_ ?_ ?_ ?_ ?_ (fun q hq=>by have hqq:=nil_mem q hq;first|(simp only[gives,tgt,Lc,Lo,Lk,Ln,or_false]at hqq ⊢;omega)|(simp only[gives,tgt,Lc,Lo,Lk,Ln,or_false]at hqq))<;>(try simp only[results24,ntmps24,wks,plain_tk,plain_nd,giv,vcs,seval,tys])<;>(try simp only[injs])<;>(try omega))))
      exact⟨fun h=>main _ _ (.inl ⟨h,rfl,rfl⟩),fun h=>main _ _ (.inr ⟨h,rfl,rfl⟩)⟩
def treeV (L:List Nd)(e:Int):V:=.tup [.sl false 6 (L.map ndC),.int .i64 e]
theorem parse_fz (l:List Tk)(hl:l.length≤600)(hs:∀ t∈l,t.okTo 1000000∧t.attrs.length≤30)(nm:Nat):Ev cx 24 nm [.sl false 4 (l.map tkC)] Mem.nil (treeV (parseT l) (parseE l)) []:=by
 obtain⟨h1,h2⟩:=parse_sl l hl hs nm
 by_cases h:parseE l=0
 ·have h3:=h2 h
  rw[h]
  have hpl:=plain_nd (parseT l)
  have htk:((parseT l).map ndC).take (parseT l).length=(parseT l).map ndC:=take_map_len _ _
  refine Ev.freeze h3 ?_ ?_
  ·simp only[fins,mems,wks,hpl,htk,Lm,vcs,seval,tys]<;>omega
  ·unfold treeV
   simp only[fins,mems,wks,hpl,htk,Lm,vcs,seval,tys]
 ·have h3:=h1 h
  have hT:parseT l=[]:=by unfold parseT;rw[if_neg h]
  rw[hT]
  refine Ev.res_le h3 ?_
  unfold treeV
  simp only[le_tup,leL_cons,leL_nil,le_nils_sl,le_int,Lo,and_self]
def atN (a:At):Nat:=min a.name.length 20000+min a.space.length 20000+min a.value.length 20000
def atsN (l:List At):Nat:=(l.map atN).sum
def ndN (x:Nd):Nat:=min x.name.length 20000+min x.space.length 20000+min x.text.length 20000
def gGo (bytes:Nat):List Nd→Nat→Bool×Nat
 | [],n=>(false,n)
 | x::r,n=>if 30<x.attrs.length∨bytes<n+ndN x then (true,n) else gGo bytes r (n+ndN x+atsN x.attrs)
def greatV (v:List Nd)(most bytes:Nat):Bool:=(gGo bytes (v.take 600) 0).1||decide (most<v.length)||decide (bytes<(gGo bytes (v.take 600) 0).2)
theorem atN_le (a:At):atN a≤60000:=by unfold atN;omega
theorem ndN_le (x:Nd):ndN x≤60000:=by unfold ndN;omega
theorem atsN_le (l:List At):atsN l≤60000*l.length:=by
 unfold atsN
 induction l with
 | nil=>simp
 | cons a l ih=>have:=atN_le a;simp only[Lc,List.sum_cons,List.length_cons];omega
theorem atsN_take {l:List At}{k:Nat}{a:At}(h:l[k]? = some a):atsN (l.take (k+1))=atsN (l.take k)+atN a:=by
 obtain⟨hk,rfl⟩:=List.getElem?_eq_some_iff.1 h
 unfold atsN
 rw[List.take_succ_eq_append_getElem hk,List.map_append,List.sum_append];simp
theorem atsN_mem {l:List At}{a:At}(h:a∈l):atN a≤atsN l:=by
 unfold atsN
 induction l with
 | nil=>cases h
 | cons b l ih =>
  simp only[Lc,List.sum_cons]
  rcases List.mem_cons.1 h with rfl|h
  ·omega
  ·have:=ih h;omega
theorem gGo_small {bytes:Nat} : ∀(v:List Nd) (n:Nat),(gGo bytes v n).1=false→n≤(gGo bytes v n).2 ∧ ∀ x∈v,x.attrs.length≤30∧ndN x+atsN x.attrs≤(gGo bytes v n).2
 | [],n,_=>⟨Nat.le_refl _,fun x hx=>by cases hx⟩
 | x::r,n,h=>by
  simp only[gGo]at h ⊢
  split at h
  ·cases h
  ·rename_i hc
   rw[if_neg hc]
   obtain⟨h1,h2⟩:=gGo_small r _ h
   refine⟨by omega,fun y hy=>?_⟩
   rcases List.mem_cons.1 hy with rfl|hy
   ·exact⟨by omega,by omega⟩
   ·exact h2 y hy
theorem great_small10 {v:List Nd}{most bytes:Nat}(hm:most≤600)(hb:bytes<20000)(h:greatV v most bytes=false):v.length≤most ∧ ∀ x∈v,x.attrs.length≤30∧x.okTo 20000∧x.name.length+x.space.length+x.text.length≤bytes:=by
 unfold greatV at h
 simp only[Bool.or_eq_false_iff,decide_eq_false_iff_not,Nat.not_lt]at h
 obtain⟨⟨h1,h2⟩,h3⟩:=h
 refine⟨h2,fun x hx=>?_⟩
 have ht:v.take 600=v:=List.take_of_length_le (by omega)
 rw[ht]at h1 h3
 obtain⟨_,h5⟩:=gGo_small v 0 h1
 obtain⟨h6,h7⟩:=h5 x hx
 have hn:ndN x≤bytes:=by omega
 have ha:atsN x.attrs≤bytes:=by omega
 unfold ndN at hn
 refine⟨h6,⟨?_,?_,?_,?_,fun a ha2=>?_⟩,by omega⟩
 ·omega
 ·omega
 ·omega
 ·omega
 ·have:=atsN_mem ha2
  unfold atN at this
  exact⟨by omega,by omega,by omega⟩
theorem zero_ats:atsN []=0:=rfl
structure GSt where
 k:Nat
 n:Nat
theorem great10_ev (v:List Nd)(most bytes:Nat)(hm:most≤1000)(hb:bytes≤1000000)(hv:v.length≤lim)(hok:∀ n∈v,n.okTo lim)(nm:Nat):Ev cx 12 nm [.sl false 6 (v.map ndC),.int .i64 most,.int .i64 bytes] Mem.nil (.bool (greatV v most bytes)) []:=by
  have hv':=hv
  unfold lim at hv'
  refine ev_go rfl (fun cargs w=>call12 cargs w) func12 rfl mixed (by kernel_rfl) rfl ?_;intro b0 hb0
  repeat' first|simp only[fins,mems,results12,ntmps12,wks,vcs,seval,tys]|exact rfl|refine call_off (v:=.any) ?_|refine draw_end (by decide +kernel) ?_|((first|apply Ca|apply Cb)<;>intro hb)|refine Ai (by omega) ?_|(apply Ai<;>intro hb)
  (refine loop_can2 cxG (fun s:GSt=>v.length-s.k) (fun s=>s.k≤v.length∧s.k≤600∧gGo bytes (v.take 600) 0=gGo bytes ((v.take 600).drop s.k) s.n∧s.n≤bytes+1800000) (b0+16) (fun s=>[(0,.sl false 6 (v.map ndC)),(1,.int .i64 most),(2,.int .i64 bytes),(7,.int .i64 s.n),(8,.int .i64 s.k)]) (fun s=>[]) (⟨0,0⟩) [] ?_ ?_ ?_ ?_;rotate_left 1;(focus (show b0≤_;omega));(focus (refine⟨?_,?_⟩<;>(try simp only[cans,plain_nd,Lm,vcs,seval,tys,injs])<;>(try omega)));rotate_left 1)
  · exact⟨Nat.zero_le _,Nat.zero_le _,rfl,Nat.zero_le _⟩
  · rintro ⟨k,n⟩ ⟨hk,hk6,hinv,hn⟩
    dsimp only at hk hk6 hinv hn ⊢
    by_cases hlt:k<v.length∧k<600
    · obtain⟨h1,h2⟩:=hlt
      obtain⟨x,hx⟩:∃ x,v[k]? = some x:=⟨_,List.getElem?_eq_getElem h1⟩
      obtain⟨o1,o2,o3,o4,o5⟩:=hok x (List.mem_of_getElem? hx)
      unfold lim at o1 o2 o3 o4
      have hat:=nd_at hx
      have hki:(k:Int)<(v.length:Int):=by omega
      have d1:decide ((k:Int)<(v.length:Int))=true:=decide_eq_true (by omega)
      have d2:decide (k<v.length)=true:=decide_eq_true h1
      have d3:decide ((k:Int)<600)=true:=decide_eq_true (by omega)
      have d4:decide (k<600)=true:=decide_eq_true h2
      have hdr:(v.take 600).drop k=x::(v.take 600).drop (k+1):=by
        have:(v.take 600)[k]? = some x:=by rw[List.getElem?_take,if_pos h2];exact hx
        obtain⟨hp,rfl⟩:=List.getElem?_eq_some_iff.1 this
        exact List.drop_eq_getElem_cons hp
      rw[hdr]at hinv
      have hnx:=ndN_le x
      have m1:min (x.name.length:Int) 20000=((min x.name.length 20000:Nat):Int):=by omega
      have m2:min (x.space.length:Int) 20000=((min x.space.length 20000:Nat):Int):=by omega
      have m3:min (x.text.length:Int) 20000=((min x.text.length 20000:Nat):Int):=by omega
      have hnd:ndN x=min x.name.length 20000+min x.space.length 20000+min x.text.length 20000:=rfl
      generalize min x.name.length 20000=n1 at m1 hnd
      generalize min x.space.length 20000=n2 at m2 hnd
      generalize min x.text.length 20000=n3 at m3 hnd
      have w1:IntKind.i64.wrap ((n:Int)+n1)=((n+n1:Nat):Int):=by rw[wrap_in (by omega) (by omega)];omega
      have w2:IntKind.i64.wrap (((n+n1:Nat):Int)+n2)=((n+(n1+n2):Nat):Int):=by rw[wrap_in (by omega) (by omega)];omega
      have w3:IntKind.i64.wrap (((n+(n1+n2):Nat):Int)+n3)=((n+ndN x:Nat):Int):=by rw[wrap_in (by omega) (by omega)];omega
      have hwk:IntKind.i64.wrap ((k:Int)+1)=((k+1:Nat):Int):=wrap_in (by omega) (by omega)
      by_cases hc:30<x.attrs.length∨bytes<n+ndN x
      · have hg:gGo bytes (v.take 600) 0=(true,n):=by rw[hinv];simp only[gGo];rw[if_pos hc]
        have hr:greatV v most bytes=true:=by unfold greatV;rw[hg];rfl
        rw[hr]
        have e1:decide ((30:Int)<(x.attrs.length:Int))=decide (30<x.attrs.length):=by rw[Bool.eq_iff_iff];simp;omega
        have e2:decide ((bytes:Int)<((n+ndN x:Nat):Int))=decide (bytes<n+ndN x):=by rw[Bool.eq_iff_iff];simp;omega
        by_cases hc1:30<x.attrs.length
        · have q1:decide (30<x.attrs.length)=true:=decide_eq_true hc1
          rw[q1]at e1
          (repeat' first|simp only[fins,mems,results12,ntmps12,wks,hat,ndC,h1,hki,d1,d2,d3,d4,m1,m2,m3,w1,w2,w3,e1,q1,Bt,Bf,Lm,vcs,seval,tys]|exact rfl|refine call_off (v:=.any) ?_|refine draw_end (by decide +kernel) ?_|((first|apply Ca|apply Cb)<;>intro hb)|refine Ai (by omega) ?_|(apply Ai<;>intro hb)|refine Fin.pure ?_ ?_ ?_|simp only[injs])
        · have q1:decide (30<x.attrs.length)=false:=decide_eq_false hc1
          have q2:decide (bytes<n+ndN x)=true:=decide_eq_true (by omega)
          rw[q1]at e1
          rw[q2]at e2
          (repeat' first|simp only[fins,mems,results12,ntmps12,wks,hat,ndC,h1,hki,d1,d2,d3,d4,m1,m2,m3,w1,w2,w3,e1,e2,q1,q2,Bt,Bf,Lm,vcs,seval,tys]|exact rfl|refine call_off (v:=.any) ?_|refine draw_end (by decide +kernel) ?_|((first|apply Ca|apply Cb)<;>intro hb)|refine Ai (by omega) ?_|(apply Ai<;>intro hb)|refine Fin.pure ?_ ?_ ?_|simp only[injs])
      · have e1:decide ((30:Int)<(x.attrs.length:Int))=false:=decide_eq_false (by omega)
        have e2:decide ((bytes:Int)<((n+ndN x:Nat):Int))=false:=decide_eq_false (by omega)
        have q1:decide (30<x.attrs.length)=false:=decide_eq_false (by omega)
        have q2:decide (bytes<n+ndN x)=false:=decide_eq_false (by omega)
        have hg:gGo bytes (x::(v.take 600).drop (k+1)) n=gGo bytes ((v.take 600).drop (k+1)) (n+ndN x+atsN x.attrs):=by simp only[gGo];rw[if_neg hc]
        rw[hg]at hinv
        have hn1:n+ndN x≤bytes:=by omega
        repeat' first|simp only[fins,mems,results12,ntmps12,wks,hat,ndC,h1,hki,d1,d2,d3,d4,m1,m2,m3,w1,w2,w3,e1,e2,q1,q2,Bt,Bf,Lm,vcs,seval,tys]|exact rfl|refine call_off (v:=.any) ?_|refine draw_end (by decide +kernel) ?_|((first|apply Ca|apply Cb)<;>intro hb)|refine Ai (by omega) ?_|(apply Ai<;>intro hb)
        (refine loop_can2 cxG (fun j:Nat=>x.attrs.length-j) (fun j=>j≤x.attrs.length) (b0+16) (fun j=>[(0,.sl false 6 (v.map ndC)),(1,.int .i64 most),(2,.int .i64 bytes),(7,.int .i64 ((n+ndN x+atsN (x.attrs.take j):Nat):Int)),(8,.int .i64 k),(9,.int .i64 j)]) (fun j=>[]) (0) [] ?_ ?_ ?_ ?_;rotate_left 1;(focus (show b0≤_;omega));(focus (refine⟨?_,?_⟩<;>(try simp only[cans,plain_nd,zero_ats,List.take_zero,Nat.add_zero,Lm,vcs,seval,tys,injs])<;>(try omega)));rotate_left 1)
        · exact Nat.zero_le _
        · intro j hj
          by_cases hja:j<x.attrs.length
          · obtain⟨a,ha⟩:∃ a,x.attrs[j]? = some a:=⟨_,List.getElem?_eq_getElem hja⟩
            obtain⟨p1,p2,p3⟩:=o5 a (List.mem_of_getElem? ha)
            unfold lim at p1 p2 p3
            have haa:=at_at ha
            have f1:decide ((j:Int)<(x.attrs.length:Int))=true:=decide_eq_true (by omega)
            have f2:decide (j<x.attrs.length)=true:=decide_eq_true hja
            have hji:(j:Int)<(x.attrs.length:Int):=by omega
            have hsum:=atsN_le (x.attrs.take j)
            have hjl:(x.attrs.take j).length≤30:=by rw[List.length_take];omega
            have hts:=atsN_take ha
            have haN:=atN_le a
            generalize hN:n+ndN x+atsN (x.attrs.take j)=N
            have hN1:n+ndN x+atsN (x.attrs.take (j+1))=N+atN a:=by omega
            have hNb:N≤bytes+1800000:=by omega
            have m4:min (a.name.length:Int) 20000=((min a.name.length 20000:Nat):Int):=by omega
            have m5:min (a.space.length:Int) 20000=((min a.space.length 20000:Nat):Int):=by omega
            have m6:min (a.value.length:Int) 20000=((min a.value.length 20000:Nat):Int):=by omega
            have had:atN a=min a.name.length 20000+min a.space.length 20000+min a.value.length 20000:=rfl
            generalize min a.name.length 20000=n4 at m4 had
            generalize min a.space.length 20000=n5 at m5 had
            generalize min a.value.length 20000=n6 at m6 had
            have v1:IntKind.i64.wrap ((N:Int)+n4)=((N+n4:Nat):Int):=by rw[wrap_in (by omega) (by omega)];omega
            have v2:IntKind.i64.wrap (((N+n4:Nat):Int)+n5)=((N+(n4+n5):Nat):Int):=by rw[wrap_in (by omega) (by omega)];omega
            have v3:IntKind.i64.wrap (((N+(n4+n5):Nat):Int)+n6)=((N+atN a:Nat):Int):=by rw[wrap_in (by omega) (by omega)];omega
            have hwj:IntKind.i64.wrap ((j:Int)+1)=((j+1:Nat):Int):=wrap_in (by omega) (by omega)
            repeat' first|simp only[fins,mems,results12,ntmps12,wks,hat,ndC,haa,atC,h1,hki,hja,hji,f1,f2,m4,m5,m6,v1,v2,v3,hwj,Lm,vcs,seval,tys]|exact rfl|refine call_off (v:=.any) ?_|refine draw_end (by decide +kernel) ?_|((first|apply Ca|apply Cb)<;>intro hb)|refine Ai (by omega) ?_|(apply Ai<;>intro hb)
            all_goals ((refine again_can2 cxG (j+1) [] ?_ ?_ ?_ ?_;rotate_left 2;(focus (show b0≤_;omega));(focus (refine⟨?_,?_⟩<;>(try simp only[cans,plain_nd,hwj,hN1,Lm,vcs,seval,tys,injs])<;>(try omega)))))
            all_goals (first|(show x.attrs.length-(j+1)<x.attrs.length-j;omega)|exact hja|skip)
          · have hje:j=x.attrs.length:=by omega
            subst hje
            have f1:decide ((x.attrs.length:Int)<(x.attrs.length:Int))=false:=decide_eq_false (by omega)
            have f2:decide (x.attrs.length<x.attrs.length)=false:=decide_eq_false (by omega)
            have hsum:=atsN_le x.attrs
            have htl:x.attrs.take x.attrs.length=x.attrs:=List.take_length
            rw[htl]
            repeat' first|simp only[fins,mems,results12,ntmps12,wks,hat,ndC,h1,hki,f1,f2,hwk,Lm,vcs,seval,tys]|exact rfl|refine call_off (v:=.any) ?_|refine draw_end (by decide +kernel) ?_|((first|apply Ca|apply Cb)<;>intro hb)|refine Ai (by omega) ?_|(apply Ai<;>intro hb)
            all_goals ((refine again_can2 cxG (⟨k+1,n+ndN x+atsN x.attrs⟩) [] ?_ ?_ ?_ ?_;rotate_left 2;(focus (show b0≤_;omega));(focus (refine⟨?_,?_⟩<;>(try simp only[cans,plain_nd,hwk,Lm,vcs,seval,tys,injs])<;>(try omega)))))
            all_goals (first|(show v.length-(k+1)<v.length-k;omega)|exact⟨h1,h2,hinv,by show n+ndN x+atsN x.attrs≤_;omega⟩|skip)
    · have hdr:(v.take 600).drop k=[]:=List.drop_of_length_le (by rw[List.length_take];omega)
      rw[hdr]at hinv
      have hg:gGo bytes (v.take 600) 0=(false,n):=hinv
      have hr:greatV v most bytes=(decide (most<v.length)||decide (bytes<n)):=by unfold greatV;rw[hg];rfl
      rw[hr]
      have e1:decide ((most:Int)<(v.length:Int))=decide (most<v.length):=by rw[Bool.eq_iff_iff];simp
      have e2:decide ((bytes:Int)<(n:Int))=decide (bytes<n):=by rw[Bool.eq_iff_iff];simp
      by_cases h1:k<v.length
      · have d1:decide ((k:Int)<(v.length:Int))=true:=decide_eq_true (by omega)
        have d2:decide (k<v.length)=true:=decide_eq_true h1
        have d3:decide ((k:Int)<600)=false:=decide_eq_false (by omega)
        have d4:decide (k<600)=false:=decide_eq_false (by omega)
        (repeat' first|simp only[fins,mems,results12,ntmps12,wks,d1,d2,d3,d4,e1,e2,Lm,vcs,seval,tys]|exact rfl|refine call_off (v:=.any) ?_|refine draw_end (by decide +kernel) ?_|((first|apply Ca|apply Cb)<;>intro hb)|refine Ai (by omega) ?_|(apply Ai<;>intro hb)|refine Fin.pure ?_ ?_ ?_|simp only[injs])
      · have d1:decide ((k:Int)<(v.length:Int))=false:=decide_eq_false (by omega)
        have d2:decide (k<v.length)=false:=decide_eq_false h1
        (repeat' first|simp only[fins,mems,results12,ntmps12,wks,d1,d2,e1,e2,Lm,vcs,seval,tys]|exact rfl|refine call_off (v:=.any) ?_|refine draw_end (by decide +kernel) ?_|((first|apply Ca|apply Cb)<;>intro hb)|refine Ai (by omega) ?_|(apply Ai<;>intro hb)|refine Fin.pure ?_ ?_ ?_|simp only[injs])
end Go.Proofs.YtjdjclecdfhciaaGreatDoor
namespace Go.Proofs.YtjdjclecdfhciaaGreatDoor
set_option maxRecDepth 100000
set_option maxHeartbeats 32000000
set_option linter.unusedSimpArgs false
set_option linter.unusedVariables false
open Go Go.RowKit Go.Lib
theorem own:ownKnob Tryz.prog.godebug=none:=by kernel_rfl
theorem accept_eq:(Rows.laid_unicode_utf8_acceptRanges:DataW Unit)=Lib.acceptData:=by kernel_rfl
theorem first_eq:Rows.laid_unicode_utf8_first=Lib.firstData:=by kernel_rfl
def tabVals:DataW Unit→List Value
 | .agg l=>l.filterMap fun | .lit (.int k n)=>some (.int k n)|_=>none
 | _=>[]
def errText:DataW Unit→List UInt8
 | .iface _ (.ptr (.agg [.lit (.string s)]))=>s
 | _=>[]
noncomputable def laidWorld (os:Os):World :=
 let w0:=World.holding Tryz.prog os ⟨#[],#[],[]⟩
 let put (h:Array Obj) (g:Nat) (cs:Array Value):Array Obj:=h.modify g fun
  | .cells _ t frozen=>.cells cs t frozen
  | o=>o
 let h1:=put w0.heap 2 (Lib.firstTab.map fun z=>Value.int .u8 z).toArray
 let h2:=put h1 3 ((List.range 16).flatMap fun i=>[Value.int .u8 (Lib.accLo i),Value.int .u8 (Lib.accHi i)]).toArray
 let h3:=put h2 4 (tabVals Rows.laid_math_bits_deBruijn32tab).toArray
 let h4:=put h3 5 (tabVals Rows.laid_math_bits_deBruijn64tab).toArray
 let h5:=put h4 1 (tabVals Rows.laid_internal_strconv_uint64pow10).toArray
 let n:=h5.size
 let h6:=put h5 7 #[.iface 244 (.pointer (some ⟨n,0,none⟩))]
 let h7:=put h6 6 #[.iface 244 (.pointer (some ⟨n+1,0,none⟩))]
 { w0 with heap:=(h7.push (.cells #[.string ⟨(errText Rows.laid_strconv_ErrRange).toArray⟩] 246 (0,0))).push (.cells #[.string ⟨(errText Rows.laid_strconv_ErrSyntax).toArray⟩] 246 (0,0)) }
theorem laid_met (os : Os) (args : Array Value) : laidMet Tryz.prog [("math/bits.deBruijn32tab", Rows.laid_math_bits_deBruijn32tab), ("math/bits.deBruijn64tab", Rows.laid_math_bits_deBruijn64tab), ("internal/strconv.uint64pow10", Rows.laid_internal_strconv_uint64pow10), ("unicode/utf8.acceptRanges", Rows.laid_unicode_utf8_acceptRanges), ("strconv.ErrRange", Rows.laid_strconv_ErrRange), ("strconv.ErrSyntax", Rows.laid_strconv_ErrSyntax), ("unicode/utf8.first", Rows.laid_unicode_utf8_first)] ((laidWorld os).forCall (fun _ _ => 0) ⟨#[], args, []⟩).memory := by
 rw[accept_eq,first_eq]
 exact (LaidIn.of_run (l := [("math/bits.deBruijn32tab", Rows.laid_math_bits_deBruijn32tab), ("math/bits.deBruijn64tab", Rows.laid_math_bits_deBruijn64tab), ("internal/strconv.uint64pow10", Rows.laid_internal_strconv_uint64pow10), ("unicode/utf8.acceptRanges", Lib.acceptData), ("strconv.ErrRange", Rows.laid_strconv_ErrRange), ("strconv.ErrSyntax", Rows.laid_strconv_ErrSyntax), ("unicode/utf8.first", Lib.firstData)]) (((laidWorld os).heap.size) :: ((laidWorld os).heap.size + 1) :: ((laidWorld os).heap.size - 1) :: ((laidWorld os).heap.size - 2) :: [4, 5, 1, 3, 7, 6, 2]) 8 (by kernel_rfl) (by kernel_rfl) (by kernel_rfl) (by kernel_rfl)).met
end Go.Proofs.YtjdjclecdfhciaaGreatDoor
namespace Go.Proofs.YtjdjclecdfhciaaGreatDoor
set_option maxRecDepth 100000
set_option maxHeartbeats 32000000
set_option linter.unusedSimpArgs false
set_option linter.unusedVariables false
open Go Go.RowKit Vm Go.Lib Go.Proofs.Tryz
open Vm renaming cond_bool→Ca,cond_bit→Cb
open And renaming intro→Ai
open List renaming length_map→Lm,not_mem_nil→Ln,map_nil→Lo,map_cons→Lc,mem_cons→Lk
open Bool renaming not_false→Bf,not_true→Bt
theorem rp_cells {w:World}{g:Nat}{cells:List V}(cv:Nat→Value)(hb:g<w.heap.size)(hc:∀(j:Nat) (u:V),cells[j]? = some u→w.cell? ⟨g,j,none⟩=some (cv j))(hu:∀(j:Nat) (u:V),cells[j]? = some u→Is (fun _=>none) (fun _=>False) w u (cv j)):Is (fun _=>none) (fun _=>False) w (.rp cells) (.pointer (some ⟨g,0,none⟩)) :=
 .rp (o:=0) cv (fun h=>h) hb (fun j u hj=>by rw[Nat.zero_add];exact hc j u hj) hu
theorem var_lt {P:Program}{w:World}{n:String}{g:Nat}{cs:Array Value}(hg:P.globalNamed n=some g)(hv:w.var? P n=some cs):g<w.heap.size:=by
 unfold World.var? at hv
 rw[hg]at hv
 simp only[Option.bind_some]at hv
 by_cases h:g<w.heap.size
 ·exact h
 ·exfalso
  have:w.heap[g]? = none:=Array.getElem?_eq_none (by omega)
  rw[this]at hv
  simp at hv
theorem tab_is {P:Program}{w:World}{n:String}{g:Nat}{k:IntKind}{zs:List Int}{cs:Array Value}(hg:P.globalNamed n=some g)(hv:w.var? P n=some cs)(hcs:cs.toList=zs.map fun z=>Value.int k z):Is (fun _=>none) (fun _=>False) w (.rp (zs.map fun z=>.int k z)) (.pointer (some ⟨g,0,none⟩)):=by
 refine rp_cells (fun j=>.int k (zs.getD j 0)) (var_lt hg hv) (fun j u hj=>?_) (fun j u hj=>?_)
 ·rw[List.getElem?_map]at hj
  obtain⟨z,hz,rfl⟩:=Option.map_eq_some_iff.1 hj
  rw[World.var?_cell hg hv j,← Array.getElem?_toList,hcs,List.getElem?_map,hz,List.getD_eq_getElem?_getD,hz]
  rfl
 ·rw[List.getElem?_map]at hj
  obtain⟨z,hz,rfl⟩:=Option.map_eq_some_iff.1 hj
  rw[List.getD_eq_getElem?_getD,hz]
  exact .int _ _
theorem first_is {W : World} (h : VarReads Tryz.prog W "unicode/utf8.first" Rows.laid_unicode_utf8_first) : Is (fun _ => none) (fun _ => False) W firstV (.pointer (some ⟨2, 0, none⟩)) := by
 rw[first_eq]at h
 obtain⟨g,t,cs,fuel,p,hg,ht,hv,hd⟩:=h
 obtain rfl := Option.some.inj ((show Tryz.prog.globalNamed "unicode/utf8.first" = some 2 by kernel_rfl).symm.trans hg)
 obtain rfl:=Option.some.inj ((show(Tryz.prog.globals[2]?).map (·.type)=some 218 by kernel_rfl).symm.trans ht)
 have hcs:=cells_of_tab (show Tryz.prog.underlying 218=some (.array 256 5) by kernel_rfl) (show Tryz.prog.underlying 5=some (.int .u8) by kernel_rfl) (by kernel_rfl) (by kernel_rfl) hd
 exact tab_is hg hv hcs
theorem tens_is {W : World} (h : VarReads Tryz.prog W "internal/strconv.uint64pow10" Rows.laid_internal_strconv_uint64pow10) : Is (fun _ => none) (fun _ => False) W tensV (.pointer (some ⟨1, 0, none⟩)) := by
 have e:(Rows.laid_internal_strconv_uint64pow10:DataW Unit)=tabData .u64 pow10Tab:=by kernel_rfl
 rw[e]at h
 obtain⟨g,t,cs,fuel,p,hg,ht,hv,hd⟩:=h
 obtain rfl := Option.some.inj ((show Tryz.prog.globalNamed "internal/strconv.uint64pow10" = some 1 by kernel_rfl).symm.trans hg)
 obtain rfl:=Option.some.inj ((show(Tryz.prog.globals[1]?).map (·.type)=some 214 by kernel_rfl).symm.trans ht)
 have hcs:=cells_of_tab (show Tryz.prog.underlying 214=some (.array 20 189) by kernel_rfl) (show Tryz.prog.underlying 189=some (.int .u64) by kernel_rfl) (by kernel_rfl) (by kernel_rfl) hd
 exact tab_is hg hv hcs
noncomputable def accFs:Array Field:=match Tryz.prog.underlying 220 with
 | some (.struct fs)=>fs
 | _=>#[]
theorem accFs_is:Tryz.prog.underlying 220=some (.struct accFs):=by kernel_rfl
theorem accFs_size:accFs.size=2:=by kernel_rfl
theorem accFs_all:(accFs.toList.zipIdx.all fun p=>decide (p.1.type=5)&&decide (p.1.offset=p.2))=true:=by kernel_rfl
def accZ (j:Nat):Int:=if j % 2=0 then (accLo (j / 2):Int) else (accHi (j / 2):Int)
theorem acc_is {W : World} (h : VarReads Tryz.prog W "unicode/utf8.acceptRanges" Rows.laid_unicode_utf8_acceptRanges) : Is (fun _ => none) (fun _ => False) W accV (.pointer (some ⟨3, 0, none⟩)) := by
 rw[accept_eq]at h
 obtain⟨g,t,cs,fuel,p,hg,ht,hv,hd⟩:=h
 obtain rfl := Option.some.inj ((show Tryz.prog.globalNamed "unicode/utf8.acceptRanges" = some 3 by kernel_rfl).symm.trans hg)
 obtain rfl:=Option.some.inj ((show(Tryz.prog.globals[3]?).map (·.type)=some 221 by kernel_rfl).symm.trans ht)
 have c2:Tryz.prog.cellsOf 220=2:=by kernel_rfl
 have c1:Tryz.prog.cellsOf 5=1:=by kernel_rfl
 have hat:∀ i,i<16→W.cell? ⟨3,2*i,none⟩=some (.int .u8 (accLo i))∧W.cell? ⟨3,2*i+1,none⟩=some (.int .u8 (accHi i)):=by
  intro i hi
  obtain⟨fuel',d,q,hdi,he⟩:=array_elem (show Tryz.prog.underlying 221=some (.array 16 220) by kernel_rfl) hd i hi
  simp only[List.getElem?_map,List.getElem?_range hi,Option.map_some,Option.some.injEq]at hdi
  subst hdi
  rw[c2]at he
  have hcs:=ints_of_struct accFs_is (k:=.u8) (fun j f hj=>by
   have h1:=accFs_all
   rw[List.all_eq_true]at h1
   have h2:=h1 (f,j) (by rw[List.mem_zipIdx_iff_getElem?];simpa using hj)
   simp only[Bool.and_eq_true,decide_eq_true_eq]at h2
   rw[h2.1]
   exact⟨by kernel_rfl,h2.2,c1⟩) (by rw[c2,accFs_size]) he
  have e0:=congrArg (·[0]?) hcs
  have e1:=congrArg (·[1]?) hcs
  simp only[List.getElem?_take,List.getElem?_drop]at e0 e1
  constructor
  ·rw[World.var?_cell hg hv (2*i),← Array.getElem?_toList]
   simpa [Nat.mul_comm] using e0
  ·rw[World.var?_cell hg hv (2*i+1),← Array.getElem?_toList]
   simpa [Nat.mul_comm] using e1
 have hlen:∀(j:Nat) (u:V),((List.range 16).flatMap fun i=>[V.int .u8 (accLo i),.int .u8 (accHi i)])[j]? = some u→j<32∧u = .int .u8 (accZ j):=by
  intro j u hj
  have hlt:j<32:=(List.getElem?_eq_some_iff.1 hj).1
  refine⟨hlt,?_⟩
  have key:∀ j:Fin 32,((List.range 16).flatMap fun i=>[(accLo i:Int),(accHi i:Int)])[j.val]? = some (accZ j.val):=by decide +kernel
  have hm:((List.range 16).flatMap fun i=>[V.int .u8 (accLo i),.int .u8 (accHi i)])=((List.range 16).flatMap fun i=>[(accLo i:Int),(accHi i:Int)]).map fun z=>V.int .u8 z:=by
   rw[List.map_flatMap];rfl
  rw[hm,List.getElem?_map,key ⟨j,hlt⟩]at hj
  simp only[Option.map_some,Option.some.injEq]at hj
  exact hj.symm
 refine rp_cells (fun j=>.int .u8 (accZ j)) (var_lt hg hv) (fun j u hj=>?_) (fun j u hj=>?_)
 ·obtain⟨h1,_⟩:=hlen j u hj
  obtain⟨k1,k2⟩:=hat (j / 2) (by omega)
  by_cases hm:j % 2=0
  ·have e:accZ j=(accLo (j / 2):Int):=by unfold accZ;rw[if_pos hm]
   have ej:j=2*(j / 2):=by omega
   rw[e,← k1,← ej]
  ·have e:accZ j=(accHi (j / 2):Int):=by unfold accZ;rw[if_neg hm]
   have ej:j=2*(j / 2)+1:=by omega
   rw[e,← k2,← ej]
 ·obtain⟨_,rfl⟩:=hlen j u hj
  exact .int _ _
theorem tabs_met (W : World) (h : laidMetH Tryz.prog [("math/bits.deBruijn32tab", Rows.laid_math_bits_deBruijn32tab), ("math/bits.deBruijn64tab", Rows.laid_math_bits_deBruijn64tab), ("internal/strconv.uint64pow10", Rows.laid_internal_strconv_uint64pow10), ("unicode/utf8.acceptRanges", Rows.laid_unicode_utf8_acceptRanges), ("strconv.ErrRange", Rows.laid_strconv_ErrRange), ("strconv.ErrSyntax", Rows.laid_strconv_ErrSyntax), ("unicode/utf8.first", Rows.laid_unicode_utf8_first)] W) (g : Nat) : Is (fun _ => none) (fun _ => False) W (cx.G g) (.pointer (some ⟨g, 0, none⟩)) := by
 rw[MakeChecks.laidMetH_plain _ _ _ (by kernel_rfl)]at h
 have r1 := Go.Lib.laidMet.reads h (n := "unicode/utf8.first") (d := Rows.laid_unicode_utf8_first) (.tail _ (.tail _ (.tail _ (.tail _ (.tail _ (.tail _ (.head _)))))))
 have r2 := Go.Lib.laidMet.reads h (n := "unicode/utf8.acceptRanges") (d := Rows.laid_unicode_utf8_acceptRanges) (.tail _ (.tail _ (.tail _ (.head _))))
 have r3 := Go.Lib.laidMet.reads h (n := "internal/strconv.uint64pow10") (d := Rows.laid_internal_strconv_uint64pow10) (.tail _ (.tail _ (.head _)))
 show Is _ _ W (tabsG g) _
 unfold tabsG
 split
 ·rename_i e;rw[e];exact first_is r1
 ·split
  ·rename_i e;rw[e];exact acc_is r2
  ·split
   ·rename_i e;rw[e];exact tens_is r3
   ·exact .any _
end Go.Proofs.YtjdjclecdfhciaaGreatDoor
