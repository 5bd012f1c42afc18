/-
 Texts joined: XSp,XSq.
-/
import Derived.Test.YtcllbjanalhjgaaGreatDoorQq
import Derived.Test.YtcllbjanalhjgaaGreatDoorQs
import Derived.Test.YtcllbjanalhjgaaGreatDoorQp
import Derived.Test.YtcllbjanalhjgaaGreatDoorQr
namespace Go.Proofs.YtcllbjanalhjgaaGreatDoor
set_option maxRecDepth 100000
set_option maxHeartbeats 32000000
set_option linter.unusedSimpArgs false
set_option linter.unusedVariables false
open Go Go.RowKit Vm Go.Lib Tryz
open Vm renaming be→Ca,bo→Cb
open And renaming intro→Ai
open List renaming length_map→Lm,not_mem_nil→Ln,map_nil→Lo,map_cons→Lc,mem_cons→Lk
open Bool renaming not_false→Bf,not_true→Bt
theorem GJ (l:List Tk)(hl:l.length≤600)(hs:∀ t∈l,t.okTo 1000000∧t.attrs.length≤30)(nm:Nat) :
    (cS l≠0→Ev cx 87 nm [.sl false 4 (l.map cZ)] ao.nil (.tup [.nils,.int .i64 (cS l)]) []) ∧
    (cS l=0→Ev cx 87 nm [.sl false 4 (l.map cZ)] ao.nil (.tup [.own nm 0 (dy l).length,.int .i64 0]) [(nm,some ⟨6,(dy l).map bc⟩)]):=by
  have hlim:∀ t∈l,t.okTo bk:=fun t ht=>by
    obtain⟨⟨h1,h2,h3,h4⟩,_⟩:=hs t ht
    unfold bk
    exact⟨by omega,by omega,by omega,fun a ha=>by have:=h4 a ha;omega⟩
  have hcf:=ta l 103 [] (fun t=>!gn t) (fun t ht nm=>DR t (hlim t ht) nm) (by unfold bk;omega) rfl
  have htkl:(l.map cZ).take l.length=l.map cZ:=List.take_of_length_le (by simp)
  by_cases h512:512<l.length
  · have he:=AA h512
    have hd:decide ((512:Int)<(l.length:Int))=true:=decide_eq_true (by omega)
    refine⟨fun _=>?_,fun h=>by omega⟩
    rw[he]
    refine ay rfl (fun cargs w=>call87 cargs w) func87 rfl mixed (by kernel_rfl) rfl ?_;intro b0 hb0
    repeat' first|simp only[am,ah,results87,ntmps87,ap,hd,Lm,ag,seval,ae]|exact rfl|refine aa (v:=.any) ?_|((first|apply Ca|apply Cb)<;>intro hb)|refine Ai (by omega) ?_|(apply Ai<;>intro hb)
    all_goals ((refine Fin.pure ?_ ?_ ?_<;>simp only[ap,bf,results87,ntmps87,ag,seval,ae]))
  · have hd:decide ((512:Int)<(l.length:Int))=false:=decide_eq_false (by omega)
    cases hany:(l.any fun t=>!gn t) with
    | true =>
      rw[hany]at hcf
      have he:=DS h512 hany
      refine⟨fun _=>?_,fun h=>by omega⟩
      rw[he]
      refine ay rfl (fun cargs w=>call87 cargs w) func87 rfl mixed (by kernel_rfl) rfl ?_;intro b0 hb0
      repeat' first|simp only[am,ah,results87,ntmps87,ap,hd,htkl,bf,Lm,ag,seval,ae]|exact rfl|refine aa (v:=.any) ?_|(first|(refine ac ?_ (hcf _) ?_)|(refine ab ?_ (fun _=>hcf _) ?_))|((first|apply Ca|apply Cb)<;>intro hb)|refine Ai (by omega) ?_|(apply Ai<;>intro hb)
      all_goals ((refine Fin.pure ?_ ?_ ?_<;>simp only[ap,bf,results87,ntmps87,ag,seval,ae]))
    | false =>
      rw[hany]at hcf
      have main:∀(v:V) (eff:List (Nat×Option Blk)),((cS l≠0∧v = .tup [.nils,.int .i64 (cS l)]∧eff=[])∨(cS l=0∧v = .tup [.own nm 0 (dy l).length,.int .i64 0]∧eff=[(nm,some ⟨6,(dy l).map bc⟩)]))→Ev cx 87 nm [.sl false 4 (l.map cZ)] ao.nil v eff:=by
        intro v eff hve
        refine ay rfl (fun cargs w=>call87 cargs w) func87 rfl mixed (by kernel_rfl) rfl ?_;intro b0 hb0
        repeat' first|simp only[am,ah,results87,ntmps87,ap,hd,htkl,bf,Lm,ag,seval,ae]|exact rfl|refine aa (v:=.any) ?_|(first|(refine ac ?_ (hcf _) ?_)|(refine ab ?_ (fun _=>hcf _) ?_))|((first|apply Ca|apply Cb)<;>intro hb)|refine Ai (by omega) ?_|(apply Ai<;>intro hb)
        (refine Al cm (fun x:PSt=>l.length-x.k) (fun x=>x.inv l) (b0+16) (fun x=>[(4,.ptr b0 0 0),(5,.fnb 105 [.ptr b0 0 0]),(6,.fnb 106 [.ptr b0 0 0]),(7,.fnb 107 [.ptr b0 0 0]),(25,.sl false 4 (l.map cZ)),(26,.int .i64 l.length),(27,.int .i64 x.k)]) (fun x=>[(b0,⟨3,[dI (b0+1) (b0+2) x.g x.last]⟩),(b0+1,⟨6,x.g.v.map bc⟩),(b0+2,⟨1,(x.g.opn++x.junk).map eT⟩)]) (PSt.mk 0 (Gr.mk [] []) [] 0) [some (b0+128),none,none] ?_ ?_ ?_ ?_;rotate_left 1;(focus (show b0≤_;omega));(focus (refine⟨?_,?_⟩<;>(try simp only[bj,k7,dI,bf,ai,aY,aU,Bool.and_self,Bool.false_and,Lo,List.append_nil,List.length_nil,Lm,ag,seval,ae,au])<;>(try omega)));rotate_left 1)
        · exact⟨Nat.zero_le _,yH,rfl⟩
        · rintro ⟨k,g,junk,last⟩ hinv
          have hinv':=hinv
          obtain⟨hk,hg,hgo⟩:=hinv'
          simp only at hk hg hgo
          by_cases hlt:k<l.length
          · obtain ⟨t,ht⟩:∃ t,l[k]? = some t:=⟨_,List.getElem?_eq_getElem hlt⟩
            have hat:=MW ht
            have hd1:decide (k<l.length)=true:=decide_eq_true hlt
            have hwk:IntKind.i64.wrap ((k:Int)+1)=((k+1:Nat):Int):=aR (by omega) (by omega)
            obtain⟨hto,h30⟩:=hs t (List.mem_of_getElem? ht)
            have htok:gn t=true:=by
              cases hh:gn t with
              | true=>rfl
              | false=>rw[List.any_eq_true.2 ⟨t,List.mem_of_getElem? ht,by simp[hh]⟩]at hany;cases hany
            have hvl:=hg.len
            have herr:∀ e:Int,(stepG g t (last==4)).2=e→e≠0→cS l=e:=fun e h1 h2=>DT h512 hany (IF hinv ht h1 h2) h2
            have hnext:∀(g':Gr) (junk':List Nat),stepG g t (last==4)=(g',0)→PSt.inv l ⟨k+1,g',junk',t.kind⟩:=fun g' junk' h=>FT hinv ht h junk'
            rcases Ag htok with hk1|hk1|hk1|hk1
            · have q4:((t.kind:Int)==4)=false:=beq_false_of_ne (by omega)
              have q2:((t.kind:Int)==2)=false:=beq_false_of_ne (by omega)
              have hs0:stepG g t (last==4)=(if (g.opn.isEmpty && !g.v.isEmpty)=true then (g,80) else if 12≤g.opn.length then (g,100) else (⟨jW g (fW t),if t.kind=1 then g.opn++[g.v.length] else g.opn⟩,0)):=by unfold stepG;rw[if_neg (by omega),if_neg (by omega)]
              by_cases c1:(g.opn.isEmpty && !g.v.isEmpty)=true
              · have hst:stepG g t (last==4)=(g,80):=by rw[hs0,if_pos c1]
                have he:=herr 80 (by rw[hst]) (by omega)
                have hsn:=fun (M':ao) (a:M' b0=some ⟨3,[dI (b0+1) (b0+2) g last]⟩) (b:M' (b0+1)=some ⟨6,g.v.map bc⟩) (c:M' (b0+2)=some ⟨1,(g.opn++junk).map eT⟩) (d:∀ w,(M' w).isSome=true→w∈[b0,b0+1,b0+2]) (m:Nat)=>qu g k hg (by omega) junk last b0 (b0+1) (b0+2) t 80 (.inl ⟨c1,rfl⟩) M' m (by omega) (by omega) (by omega) a b c d
                rcases hve with ⟨_,rfl,rfl⟩|⟨h0,_⟩
                · rw[he]
                  repeat' first|simp only[am,ah,results87,ntmps87,ap,aK,cZ,dI,hat,hlt,hd1,ep,q4,q2,Lm,ag,seval,ae]|exact rfl|refine aa (v:=.any) ?_|((refine eF (fi:=?_) ?_ ?_ [b0,b0+1,b0+2] (hsn _ ?_ ?_ ?_ ak _) ?_ ?_);rotate_left 1)|((first|apply Ca|apply Cb)<;>intro hb)|refine Ai (by omega) ?_|(apply Ai<;>intro hb)
                  all_goals ((refine Fin.pure ?_ ?_ ?_<;>simp only[ap,bf,results87,ntmps87,ag,seval,ae]))
                · omega
              · have c1':(g.opn.isEmpty && !g.v.isEmpty)=false:=by simpa using c1
                by_cases c2:12≤g.opn.length
                · have hst:stepG g t (last==4)=(g,100):=by rw[hs0,if_neg c1,if_pos c2]
                  have he:=herr 100 (by rw[hst]) (by omega)
                  have hsn:=fun (M':ao) (a:M' b0=some ⟨3,[dI (b0+1) (b0+2) g last]⟩) (b:M' (b0+1)=some ⟨6,g.v.map bc⟩) (c:M' (b0+2)=some ⟨1,(g.opn++junk).map eT⟩) (d:∀ w,(M' w).isSome=true→w∈[b0,b0+1,b0+2]) (m:Nat)=>qu g k hg (by omega) junk last b0 (b0+1) (b0+2) t 100 (.inr ⟨c1',c2,rfl⟩) M' m (by omega) (by omega) (by omega) a b c d
                  rcases hve with ⟨_,rfl,rfl⟩|⟨h0,_⟩
                  · rw[he]
                    repeat' first|simp only[am,ah,results87,ntmps87,ap,aK,cZ,dI,hat,hlt,hd1,ep,q4,q2,Lm,ag,seval,ae]|exact rfl|refine aa (v:=.any) ?_|((refine eF (fi:=?_) ?_ ?_ [b0,b0+1,b0+2] (hsn _ ?_ ?_ ?_ ak _) ?_ ?_);rotate_left 1)|((first|apply Ca|apply Cb)<;>intro hb)|refine Ai (by omega) ?_|(apply Ai<;>intro hb)
                    all_goals ((refine Fin.pure ?_ ?_ ?_<;>simp only[ap,bf,results87,ntmps87,ag,seval,ae]))
                  · omega
                · have hst:stepG g t (last==4)=(⟨jW g (fW t),g.opn++[g.v.length]⟩,0):=by rw[hs0,if_neg c1,if_neg c2,if_pos hk1]
                  have hal:=fA g (fW t)
                  have ham:=qO g (fW t)
                  have hat3:((cK t.attrs).map bG).take t.attrs.length=(cK t.attrs).map bG:=List.take_of_length_le (by simp[cK])
                  have hgl:=ib t.attrs
                  have hsy0:=fun (M':ao) (a:M' b0=some ⟨3,[dI (b0+1) (b0+2) g last]⟩) (b:M' (b0+1)=some ⟨6,g.v.map bc⟩) (c:M' (b0+2)=some ⟨1,(g.opn++junk).map eT⟩) (d:∀ w,(M' w).isSome=true→w∈[b0,b0+1,b0+2]) (m:Nat) (h1:b0<m) (h2:b0+1<m) (h3:b0+2<m)=>w7 g k hg (by omega) junk last b0 (b0+1) (b0+2) t (by omega) c1' (by omega) M' m (by omega) (by omega) (by omega) a b c d h1 h2 h3
                  have hsy:=hsy0
                  simp only[Bn,if_pos hk1]at hsy
                  repeat' first|simp only[am,ah,results87,ntmps87,ap,aK,cZ,dI,hat,hlt,hd1,ep,q4,q2,Lm,ag,seval,ae]|exact rfl|refine aa (v:=.any) ?_|((refine eF (fi:=?_) ?_ ?_ [b0,b0+1,b0+2] (hsy _ ?_ ?_ ?_ ak _ (by omega) (by omega) (by omega)) ?_ ?_);rotate_left 1)|((first|apply Ca|apply Cb)<;>intro hb)|refine Ai (by omega) ?_|(apply Ai<;>intro hb)
                  all_goals ((refine eC cm (PSt.mk (k+1) (Gr.mk (jW g (fW t)) (g.opn++[g.v.length])) [] t.kind) [some b0,some (b0+256),some (b0+258)] ?_ ?_ ?_ ?_;rotate_left 2;(focus (show b0≤_;omega));(focus (refine⟨?_,?_⟩<;>(try simp only[bj,k7,cZ,dI,hwk,hal,ham,hat3,hgl,Me,yj,aw,hZ,gK _ _ (ai _),fL,fg _ _ (ai _),o9,eT,List.map_append,Lc,Lo,List.append_nil,List.length_append,List.length_cons,List.length_nil,bW,bf,ai,aY,aU,Bool.and_self,Bool.false_and,Lm,ag,seval,ae,au])<;>(try omega)))))
                  all_goals (first|(show l.length-(k+1)<l.length-k;omega)|exact hnext _ _ hst|skip)
            · have q4:((t.kind:Int)==4)=false:=beq_false_of_ne (by omega)
              have q2:((t.kind:Int)==2)=false:=beq_false_of_ne (by omega)
              have hs0:stepG g t (last==4)=(if (g.opn.isEmpty && !g.v.isEmpty)=true then (g,80) else if 12≤g.opn.length then (g,100) else (⟨jW g (fW t),if t.kind=1 then g.opn++[g.v.length] else g.opn⟩,0)):=by unfold stepG;rw[if_neg (by omega),if_neg (by omega)]
              by_cases c1:(g.opn.isEmpty && !g.v.isEmpty)=true
              · have hst:stepG g t (last==4)=(g,80):=by rw[hs0,if_pos c1]
                have he:=herr 80 (by rw[hst]) (by omega)
                have hsn:=fun (M':ao) (a:M' b0=some ⟨3,[dI (b0+1) (b0+2) g last]⟩) (b:M' (b0+1)=some ⟨6,g.v.map bc⟩) (c:M' (b0+2)=some ⟨1,(g.opn++junk).map eT⟩) (d:∀ w,(M' w).isSome=true→w∈[b0,b0+1,b0+2]) (m:Nat)=>qu g k hg (by omega) junk last b0 (b0+1) (b0+2) t 80 (.inl ⟨c1,rfl⟩) M' m (by omega) (by omega) (by omega) a b c d
                rcases hve with ⟨_,rfl,rfl⟩|⟨h0,_⟩
                · rw[he]
                  repeat' first|simp only[am,ah,results87,ntmps87,ap,aK,cZ,dI,hat,hlt,hd1,ep,q4,q2,Lm,ag,seval,ae]|exact rfl|refine aa (v:=.any) ?_|((refine eF (fi:=?_) ?_ ?_ [b0,b0+1,b0+2] (hsn _ ?_ ?_ ?_ ak _) ?_ ?_);rotate_left 1)|((first|apply Ca|apply Cb)<;>intro hb)|refine Ai (by omega) ?_|(apply Ai<;>intro hb)
                  all_goals ((refine Fin.pure ?_ ?_ ?_<;>simp only[ap,bf,results87,ntmps87,ag,seval,ae]))
                · omega
              · have c1':(g.opn.isEmpty && !g.v.isEmpty)=false:=by simpa using c1
                by_cases c2:12≤g.opn.length
                · have hst:stepG g t (last==4)=(g,100):=by rw[hs0,if_neg c1,if_pos c2]
                  have he:=herr 100 (by rw[hst]) (by omega)
                  have hsn:=fun (M':ao) (a:M' b0=some ⟨3,[dI (b0+1) (b0+2) g last]⟩) (b:M' (b0+1)=some ⟨6,g.v.map bc⟩) (c:M' (b0+2)=some ⟨1,(g.opn++junk).map eT⟩) (d:∀ w,(M' w).isSome=true→w∈[b0,b0+1,b0+2]) (m:Nat)=>qu g k hg (by omega) junk last b0 (b0+1) (b0+2) t 100 (.inr ⟨c1',c2,rfl⟩) M' m (by omega) (by omega) (by omega) a b c d
                  rcases hve with ⟨_,rfl,rfl⟩|⟨h0,_⟩
                  · rw[he]
                    repeat' first|simp only[am,ah,results87,ntmps87,ap,aK,cZ,dI,hat,hlt,hd1,ep,q4,q2,Lm,ag,seval,ae]|exact rfl|refine aa (v:=.any) ?_|((refine eF (fi:=?_) ?_ ?_ [b0,b0+1,b0+2] (hsn _ ?_ ?_ ?_ ak _) ?_ ?_);rotate_left 1)|((first|apply Ca|apply Cb)<;>intro hb)|refine Ai (by omega) ?_|(apply Ai<;>intro hb)
                    all_goals ((refine Fin.pure ?_ ?_ ?_<;>simp only[ap,bf,results87,ntmps87,ag,seval,ae]))
                  · omega
                · have hst:stepG g t (last==4)=(⟨jW g (fW t),g.opn⟩,0):=by rw[hs0,if_neg c1,if_neg c2,if_neg (by omega)]
                  have hal:=fA g (fW t)
                  have ham:=qO g (fW t)
                  have hat3:((cK t.attrs).map bG).take t.attrs.length=(cK t.attrs).map bG:=List.take_of_length_le (by simp[cK])
                  have hgl:=ib t.attrs
                  have hsy0:=fun (M':ao) (a:M' b0=some ⟨3,[dI (b0+1) (b0+2) g last]⟩) (b:M' (b0+1)=some ⟨6,g.v.map bc⟩) (c:M' (b0+2)=some ⟨1,(g.opn++junk).map eT⟩) (d:∀ w,(M' w).isSome=true→w∈[b0,b0+1,b0+2]) (m:Nat) (h1:b0<m) (h2:b0+1<m) (h3:b0+2<m)=>w7 g k hg (by omega) junk last b0 (b0+1) (b0+2) t (by omega) c1' (by omega) M' m (by omega) (by omega) (by omega) a b c d h1 h2 h3
                  have hsy:=hsy0
                  simp only[Bn,if_neg (show ¬ t.kind=1 by omega)]at hsy
                  repeat' first|simp only[am,ah,results87,ntmps87,ap,aK,cZ,dI,hat,hlt,hd1,ep,q4,q2,Lm,ag,seval,ae]|exact rfl|refine aa (v:=.any) ?_|((refine eF (fi:=?_) ?_ ?_ [b0,b0+1,b0+2] (hsy _ ?_ ?_ ?_ ak _ (by omega) (by omega) (by omega)) ?_ ?_);rotate_left 1)|((first|apply Ca|apply Cb)<;>intro hb)|refine Ai (by omega) ?_|(apply Ai<;>intro hb)
                  all_goals ((refine eC cm (PSt.mk (k+1) (Gr.mk (jW g (fW t)) (g.opn)) junk t.kind) [some b0,some (b0+256),some (b0+2)] ?_ ?_ ?_ ?_;rotate_left 2;(focus (show b0≤_;omega));(focus (refine⟨?_,?_⟩<;>(try simp only[bj,k7,cZ,dI,hwk,hal,ham,hat3,hgl,Me,yj,aw,hZ,gK _ _ (ai _),fL,fg _ _ (ai _),o9,eT,List.map_append,Lc,Lo,List.append_nil,List.length_append,List.length_cons,List.length_nil,bW,bf,ai,aY,aU,Bool.and_self,Bool.false_and,Lm,ag,seval,ae,au])<;>(try omega)))))
                  all_goals (first|(show l.length-(k+1)<l.length-k;omega)|exact hnext _ _ hst|skip)
            · have q4:((t.kind:Int)==4)=false:=beq_false_of_ne (by omega)
              have q2:((t.kind:Int)==2)=true:=by rw[hk1];rfl
              by_cases hln:lr g=some t.name
              · have hst:stepG g t (last==4)=(⟨g.v,g.opn.dropLast⟩,0):=by unfold stepG;rw[if_neg (by omega),if_pos hk1,if_pos hln]
                obtain⟨kl,hkl,_⟩:=Option.bind_eq_some_iff.1 hln
                have hne:=(ls hkl).1
                have hdl:g.opn.dropLast.length=g.opn.length-1:=by simp
                have hjk:g.opn.dropLast++(kl::junk)=g.opn++junk:=by
                  have:g.opn=g.opn.dropLast++[kl]:=by
                    rw[List.getLast?_eq_some_getLast hne]at hkl
                    cases hkl
                    exact(List.dropLast_concat_getLast hne).symm
                  conv=>rhs;rw[this]
                  simp
                have hsy:=fun (M':ao) (a:M' b0=some ⟨3,[dI (b0+1) (b0+2) g last]⟩) (b:M' (b0+1)=some ⟨6,g.v.map bc⟩) (c:M' (b0+2)=some ⟨1,(g.opn++junk).map eT⟩) (d:∀ w,(M' w).isSome=true→w∈[b0,b0+1,b0+2]) (m:Nat)=>G2 g k hg (by omega) junk last b0 (b0+1) (b0+2) t hln M' m (by omega) (by omega) (by omega) a b c d
                repeat' first|simp only[am,ah,results87,ntmps87,ap,aK,cZ,dI,hat,hlt,hd1,q4,q2,Lm,ag,seval,ae]|exact rfl|refine aa (v:=.any) ?_|((refine eF (fi:=?_) ?_ ?_ [b0,b0+1,b0+2] (hsy _ ?_ ?_ ?_ ak _) ?_ ?_);rotate_left 1)|((first|apply Ca|apply Cb)<;>intro hb)|refine Ai (by omega) ?_|(apply Ai<;>intro hb)
                all_goals ((refine eC cm (PSt.mk (k+1) (Gr.mk g.v g.opn.dropLast) (kl::junk) t.kind) [some b0,some (b0+1),some (b0+2)] ?_ ?_ ?_ ?_;rotate_left 2;(focus (show b0≤_;omega));(focus (refine⟨?_,?_⟩<;>(try simp only[bj,k7,cZ,dI,hwk,hdl,hjk,bf,ai,aY,aU,Bool.and_self,Bool.false_and,Lm,ag,seval,ae,au])<;>(try omega)))))
                all_goals (first|(show l.length-(k+1)<l.length-k;omega)|exact hnext _ _ hst|skip)
              · have hst:stepG g t (last==4)=(g,80):=by unfold stepG;rw[if_neg (by omega),if_pos hk1,if_neg hln]
                have he:=herr 80 (by rw[hst]) (by omega)
                have hsn:=fun (M':ao) (a:M' b0=some ⟨3,[dI (b0+1) (b0+2) g last]⟩) (b:M' (b0+1)=some ⟨6,g.v.map bc⟩) (c:M' (b0+2)=some ⟨1,(g.opn++junk).map eT⟩) (d:∀ w,(M' w).isSome=true→w∈[b0,b0+1,b0+2]) (m:Nat)=>Jq g k hg (by omega) junk last b0 (b0+1) (b0+2) t hln M' m (by omega) (by omega) (by omega) a b c d
                rcases hve with ⟨_,rfl,rfl⟩|⟨h0,_⟩
                · rw[he]
                  repeat' first|simp only[am,ah,results87,ntmps87,ap,aK,cZ,dI,hat,hlt,hd1,ep,q4,q2,Lm,ag,seval,ae]|exact rfl|refine aa (v:=.any) ?_|((refine eF (fi:=?_) ?_ ?_ [b0,b0+1,b0+2] (hsn _ ?_ ?_ ?_ ak _) ?_ ?_);rotate_left 1)|((first|apply Ca|apply Cb)<;>intro hb)|refine Ai (by omega) ?_|(apply Ai<;>intro hb)
                  all_goals ((refine Fin.pure ?_ ?_ ?_<;>simp only[ap,bf,results87,ntmps87,ag,seval,ae]))
                · omega
            · have q4:((t.kind:Int)==4)=true:=by rw[hk1];rfl
              have htl:t.text.length≤bk:=by have:=hto.2.2.1;unfold bk;omega
              have hs0:stepG g t (last==4)=(if ((last==4)||(g.opn.isEmpty && !mJ t.text))=true then (g,80) else if g.opn.isEmpty=true then (g,0) else (⟨jW g (iS t.text),g.opn⟩,0)):=by unfold stepG;rw[if_pos hk1]
              by_cases c1:jV g t last=true
              · have hst:stepG g t (last==4)=(g,80):=by exact hs0.trans (if_pos c1)
                have he:=herr 80 (by rw[hst]) (by omega)
                have hsn:=fun (M':ao) (a:M' b0=some ⟨3,[dI (b0+1) (b0+2) g last]⟩) (b:M' (b0+1)=some ⟨6,g.v.map bc⟩) (c:M' (b0+2)=some ⟨1,(g.opn++junk).map eT⟩) (d:∀ w,(M' w).isSome=true→w∈[b0,b0+1,b0+2]) (m:Nat)=>yW g k hg (by omega) junk last b0 (b0+1) (b0+2) t htl 80 (.inl ⟨c1,rfl⟩) M' m (by omega) (by omega) (by omega) a b c d
                rcases hve with ⟨_,rfl,rfl⟩|⟨h0,_⟩
                · rw[he]
                  repeat' first|simp only[am,ah,results87,ntmps87,ap,aK,cZ,dI,hat,hlt,hd1,ep,q4,Lm,ag,seval,ae]|exact rfl|refine aa (v:=.any) ?_|((refine eF (fi:=?_) ?_ ?_ [b0,b0+1,b0+2] (hsn _ ?_ ?_ ?_ ak _) ?_ ?_);rotate_left 1)|((first|apply Ca|apply Cb)<;>intro hb)|refine Ai (by omega) ?_|(apply Ai<;>intro hb)
                  all_goals ((refine Fin.pure ?_ ?_ ?_<;>simp only[ap,bf,results87,ntmps87,ag,seval,ae]))
                · omega
              · have c1':jV g t last=false:=by simpa using c1
                by_cases c2:g.opn=[]
                · have hst:stepG g t (last==4)=(g,0):=by exact hs0.trans ((if_neg c1).trans (if_pos (by rw[c2];rfl)))
                  have hsy:=fun (M':ao) (a:M' b0=some ⟨3,[dI (b0+1) (b0+2) g last]⟩) (b:M' (b0+1)=some ⟨6,g.v.map bc⟩) (c:M' (b0+2)=some ⟨1,(g.opn++junk).map eT⟩) (d:∀ w,(M' w).isSome=true→w∈[b0,b0+1,b0+2]) (m:Nat)=>yW g k hg (by omega) junk last b0 (b0+1) (b0+2) t htl 0 (.inr ⟨c1',c2,rfl⟩) M' m (by omega) (by omega) (by omega) a b c d
                  repeat' first|simp only[am,ah,results87,ntmps87,ap,aK,cZ,dI,hat,hlt,hd1,ep,q4,Lm,ag,seval,ae]|exact rfl|refine aa (v:=.any) ?_|((refine eF (fi:=?_) ?_ ?_ [b0,b0+1,b0+2] (hsy _ ?_ ?_ ?_ ak _) ?_ ?_);rotate_left 1)|((first|apply Ca|apply Cb)<;>intro hb)|refine Ai (by omega) ?_|(apply Ai<;>intro hb)
                  all_goals ((refine eC cm (PSt.mk (k+1) g junk t.kind) [some b0,some (b0+1),some (b0+2)] ?_ ?_ ?_ ?_;rotate_left 2;(focus (show b0≤_;omega));(focus (refine⟨?_,?_⟩<;>(try simp only[bj,k7,cZ,dI,hwk,bf,ai,aY,aU,Bool.and_self,Bool.false_and,Lm,ag,seval,ae,au])<;>(try omega)))))
                  all_goals (first|(show l.length-(k+1)<l.length-k;omega)|exact hnext _ _ hst|skip)
                · have c3:g.opn.isEmpty=false:=by simpa using c2
                  have c4:(last==4)=false:=by unfold jV at c1';simp only[Bool.or_eq_false_iff]at c1';exact c1'.1
                  have hst:stepG g t (last==4)=(⟨jW g (iS t.text),g.opn⟩,0):=by exact hs0.trans ((if_neg c1).trans (if_neg (by simp[c3])))
                  have hal:=fA g (iS t.text)
                  have ham:=qO g (iS t.text)
                  have hsy:=fun (M':ao) (a:M' b0=some ⟨3,[dI (b0+1) (b0+2) g last]⟩) (b:M' (b0+1)=some ⟨6,g.v.map bc⟩) (c:M' (b0+2)=some ⟨1,(g.opn++junk).map eT⟩) (d:∀ w,(M' w).isSome=true→w∈[b0,b0+1,b0+2]) (m:Nat) (h1:b0<m) (h2:b0+1<m) (h3:b0+2<m)=>EI g k hg (by omega) junk last b0 (b0+1) (b0+2) t c4 c3 M' m (by omega) (by omega) (by omega) a b c d h1 h2 h3
                  repeat' first|simp only[am,ah,results87,ntmps87,ap,aK,cZ,dI,hat,hlt,hd1,ep,q4,Lm,ag,seval,ae]|exact rfl|refine aa (v:=.any) ?_|((refine eF (fi:=?_) ?_ ?_ [b0,b0+1,b0+2] (hsy _ ?_ ?_ ?_ ak _ (by omega) (by omega) (by omega)) ?_ ?_);rotate_left 1)|((first|apply Ca|apply Cb)<;>intro hb)|refine Ai (by omega) ?_|(apply Ai<;>intro hb)
                  all_goals ((refine eC cm (PSt.mk (k+1) (Gr.mk (jW g (iS t.text)) g.opn) junk t.kind) [some b0,some (b0+256),some (b0+2)] ?_ ?_ ?_ ?_;rotate_left 2;(focus (show b0≤_;omega));(focus (refine⟨?_,?_⟩<;>(try simp only[bj,k7,cZ,dI,hwk,hal,ham,Gh,hZ,gK _ _ (ai _),fL,fg _ _ (ai _),o9,Lo,bW,bf,ai,aY,aU,Bool.and_self,Bool.false_and,Lm,ag,seval,ae,au])<;>(try omega)))))
                  all_goals (first|(show l.length-(k+1)<l.length-k;omega)|exact hnext _ _ hst|skip)
          · have hke:k=l.length:=by omega
            subst hke
            have hd1:decide (l.length<l.length)=false:=decide_eq_false (by omega)
            rw[List.drop_length,Ix]at hgo
            have hvl:=hg.len
            have hv0:((g.v.length:Int)==0)=g.v.isEmpty:=lv _
            have ho0:decide ((0:Int)<(g.opn.length:Int)) = !g.opn.isEmpty:=by
              cases h:g.opn with
              | nil=>rfl
              | cons a b=>simp
            have htn:=fb g.v
            by_cases hx:g.v.isEmpty=true∨g.opn.isEmpty=false
            · have he:=DV h512 hany hgo hx
              rcases hve with ⟨_,rfl,rfl⟩|⟨h0,_⟩
              · rw[he]
                generalize hA:g.v.isEmpty=bA at hx hv0
                generalize hB:g.opn.isEmpty=bB at hx ho0
                cases bA<;>cases bB
                all_goals (try (exfalso;simp at hx;done))
                all_goals (
                  repeat' first|simp only[am,ah,results87,ntmps87,ap,dI,hd1,hv0,ho0,Bt,Bf,Lm,ag,seval,ae]|exact rfl|refine aa (v:=.any) ?_|((first|apply Ca|apply Cb)<;>intro hb)|refine Ai (by omega) ?_|(apply Ai<;>intro hb)
                  all_goals ((refine Fin.pure ?_ ?_ ?_<;>simp only[ap,bf,results87,ntmps87,ag,seval,ae])))
              · omega
            · obtain⟨he,hpt⟩:=GI h512 hany hgo hx
              rcases hve with ⟨h0,_⟩|⟨_,rfl,rfl⟩
              · omega
              · rw[hpt]
                generalize hA:g.v.isEmpty=bA at hx hv0
                generalize hB:g.opn.isEmpty=bB at hx ho0
                cases bA<;>cases bB
                all_goals (try (exfalso;simp at hx;done))
                all_goals (
                  repeat' first|simp only[am,ah,results87,ntmps87,ap,dI,hd1,hv0,ho0,Bt,Bf,Lm,ag,seval,ae]|exact rfl|refine aa (v:=.any) ?_|((first|apply Ca|apply Cb)<;>intro hb)|refine Ai (by omega) ?_|(apply Ai<;>intro hb)
                  all_goals ((refine Fin.give [(b0+1,some 0)] [] ?_ ?_ ?_ ?_ ?_ (fun q hq=>by have hqq:=n9 q hq;first|(simp only[aD,tgt,Lc,Lo,Lk,Ln,or_false]at hqq ⊢;omega)|(simp only[aD,tgt,Lc,Lo,Lk,Ln,or_false]at hqq))<;>(try simp only[results87,ntmps87,ap,bf,ai,ec,ag,seval,ae])<;>(try simp only[au])<;>(try omega))))
      exact⟨fun h=>main _ _ (.inl ⟨h,rfl,rfl⟩),fun h=>main _ _ (.inr ⟨h,rfl,rfl⟩)⟩
def iT (L:List Nd)(e:Int):V:=.tup [.sl false 6 (L.map bc),.int .i64 e]
theorem yk (l:List Tk)(hl:l.length≤600)(hs:∀ t∈l,t.okTo 1000000∧t.attrs.length≤30)(nm:Nat):Ev cx 87 nm [.sl false 4 (l.map cZ)] ao.nil (iT (dy l) (cS l)) []:=by
 obtain⟨h1,h2⟩:=GJ l hl hs nm
 by_cases h:cS l=0
 ·have h3:=h2 h
  rw[h]
  have hpl:=ai (dy l)
  have htk:((dy l).map bc).take (dy l).length=(dy l).map bc:=cY _ _
  refine Ev.freeze h3 ?_ ?_
  ·simp only[am,ah,ap,hpl,htk,Lm,ag,seval,ae]<;>omega
  ·unfold iT
   simp only[am,ah,ap,hpl,htk,Lm,ag,seval,ae]
 ·have h3:=h1 h
  have hT:dy l=[]:=by unfold dy;rw[if_neg h]
  rw[hT]
  refine Ev.res_le h3 ?_
  unfold iT
  simp only[pc,jI,l8,fy,pa,Lo,and_self]
end Go.Proofs.YtcllbjanalhjgaaGreatDoor
