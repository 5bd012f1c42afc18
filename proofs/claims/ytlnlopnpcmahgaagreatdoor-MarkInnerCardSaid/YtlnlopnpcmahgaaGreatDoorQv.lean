/-
 Texts joined: XSp,XSq.
-/
import Derived.Test.YtlnlopnpcmahgaaGreatDoorQq
import Derived.Test.YtlnlopnpcmahgaaGreatDoorQs
import Derived.Test.YtlnlopnpcmahgaaGreatDoorQp
import Derived.Test.YtlnlopnpcmahgaaGreatDoorQr
set_option linter.all false
namespace Go.Proofs.YtlnlopnpcmahgaaGreatDoor
set_option maxRecDepth 100000
set_option maxHeartbeats 32000000
open Go Go.RowKit Vm Go.Lib Tryz
open Vm renaming aW->Ca,bf->Cb
open And renaming intro->Ai
open List renaming length_map->Lm,not_mem_nil->Ln,map_nil->Lo,map_cons->Lc,mem_cons->Lk
open Bool renaming not_false->Bf,not_true->Bt
def KM (l:List Tk)(hl:l.length<=600)(hs:∀ t∈l,t.okTo 1000000/\t.attrs.length<=30)(nm:Nat) :
    (cR l≠0->Ev cx 58 nm [.sl false 4 (l.map bE)] am.nil (.tup [.nils,.int .i64 (cR l)]) []) /\
    (cR l=0->Ev cx 58 nm [.sl false 4 (l.map bE)] am.nil (.tup [.own nm 0 (dJ l).length,.int .i64 0]) [(nm,some ⟨6,(dJ l).map aV⟩)]):=by
  have hlim:∀ t∈l,t.okTo bc:=fun t ht=>by
    obtain⟨⟨h1,h2,h3,h4⟩,_⟩:=hs t ht
    unfold bc
    exact⟨by omega,by omega,by omega,fun a ha=>by have:=h4 a ha;omega⟩
  have hcf:=om l 100 [] (fun t=>!ed t) (fun t ht nm=>GZ t (hlim t ht) nm) (by unfold bc;omega) rfl
  have htkl:(l.map bE).take l.length=l.map bE:=List.take_of_length_le (by simp)
  by_cases h512:512<l.length
  · have he:=Dd h512
    have hd:decide ((512:Int)<(l.length:Int))=true:=bR
    refine⟨fun _=>?_,fun h=>by omega⟩
    rw[he]
    refine bh call58 func58 rfl (by kernel_rfl) rfl ?_;intro b0 hb0;have zF:=Ai results58 ntmps58
    repeat' first|simp only[ak,ag,zF,al,hd,Lm,ai,seval,ah]|exact rfl|refine aa (v:=.any) ?_|((first|apply Ca|apply Cb)<;>intro hb)|refine Ai (by omega) ?_|(apply Ai<;>intro hb)
    all_goals ((refine Fin.pure ?_ ?_ ?_<;>simp only[al,aE,zF,ai,seval,ah]))
  · have hd:decide ((512:Int)<(l.length:Int))=false:=bm
    cases hany:(l.any fun t=>!ed t) with
    | true =>
      rw[hany]at hcf
      have he:=G0 h512 hany
      refine⟨fun _=>?_,fun h=>by omega⟩
      rw[he]
      refine bh call58 func58 rfl (by kernel_rfl) rfl ?_;intro b0 hb0;have zF:=Ai results58 ntmps58
      repeat' first|simp only[ak,ag,zF,al,hd,htkl,aE,Lm,ai,seval,ah]|exact rfl|refine aa (v:=.any) ?_|(first|(refine ae ?_ (hcf _) ?_)|(refine ab ?_ (fun _=>hcf _) ?_))|((first|apply Ca|apply Cb)<;>intro hb)|refine Ai (by omega) ?_|(apply Ai<;>intro hb)
      all_goals ((refine Fin.pure ?_ ?_ ?_<;>simp only[al,aE,zF,ai,seval,ah]))
    | false =>
      rw[hany]at hcf
      have main:∀(v:V) (eff:List (Nat×Option Blk)),((cR l≠0/\v = .tup [.nils,.int .i64 (cR l)]/\eff=[])\/(cR l=0/\v = .tup [.own nm 0 (dJ l).length,.int .i64 0]/\eff=[(nm,some ⟨6,(dJ l).map aV⟩)]))->Ev cx 58 nm [.sl false 4 (l.map bE)] am.nil v eff:=by
        intro v eff hve
        refine bh call58 func58 rfl (by kernel_rfl) rfl ?_;intro b0 hb0;have zF:=Ai results58 ntmps58
        repeat' first|simp only[ak,ag,zF,al,hd,htkl,aE,Lm,ai,seval,ah]|exact rfl|refine aa (v:=.any) ?_|(first|(refine ae ?_ (hcf _) ?_)|(refine ab ?_ (fun _=>hcf _) ?_))|((first|apply Ca|apply Cb)<;>intro hb)|refine Ai (by omega) ?_|(apply Ai<;>intro hb)
        (refine ul bM (fun x:PSt=>l.length-x.k) (fun x=>x.inv l) (b0+16) (fun x=>[(4,.ptr b0 0 0),(5,.fnb 101 [.ptr b0 0 0]),(6,.fnb 102 [.ptr b0 0 0]),(7,.fnb 103 [.ptr b0 0 0]),(25,.sl false 4 (l.map bE)),(26,.int .i64 l.length),(27,.int .i64 x.k)]) (fun x=>[(b0,⟨3,[eu (b0+1) (b0+2) x.g x.last]⟩),(b0+1,⟨6,x.g.v.map aV⟩),(b0+2,⟨1,(x.g.opn++x.junk).map cQ⟩)]) (PSt.mk 0 (Gr.mk [] []) [] 0) [some (b0+128),none,none] ?_ ?_ ?_ ?_;rotate_left 1;(focus (show b0<=_;omega));(focus (refine⟨?_,?_⟩<;>(try simp only[aX,iW,eu,aE,ad,aH,aJ,Bool.and_self,Bool.false_and,Lo,List.append_nil,List.length_nil,Lm,ai,seval,ah,ap])<;>(try omega)));rotate_left 1)
        · exact⟨Nat.zero_le _,A1,rfl⟩
        · rintro ⟨k,g,junk,last⟩ hinv
          have hinv':=hinv
          obtain⟨hk,hg,hgo⟩:=hinv'
          simp only at hk hg hgo
          by_cases hlt:k<l.length
          · obtain ⟨t,ht⟩:∃ t,l[k]? = some t:=⟨_,List.getElem?_eq_getElem hlt⟩
            have hat:=EZ ht
            have hd1:decide (k<l.length)=true:=decide_eq_true hlt
            have hwk:IntKind.i64.wrap ((k:Int)+1)=((k+1:Nat):Int):=bd
            obtain⟨hto,h30⟩:=hs t (List.mem_of_getElem? ht)
            have htok:ed t=true:=by
              cases hh:ed t with
              | true=>rfl
              | false=>rw[List.any_eq_true.2 ⟨t,List.mem_of_getElem? ht,by simp[hh]⟩]at hany;cases hany
            have hvl:=hg.len
            have herr:∀ e:Int,(stepG g t (last==4)).2=e->e≠0->cR l=e:=fun e h1 h2=>G2 h512 hany (Nt hinv ht h1 h2) h2
            have hnext:∀(g':Gr) (junk':List Nat),stepG g t (last==4)=(g',0)->PSt.inv l ⟨k+1,g',junk',t.kind⟩:=fun g' junk' h=>Jw hinv ht h junk'
            rcases CQ htok with hk1|hk1|hk1|hk1
            · have q4:((t.kind:Int)==4)=false:=beq_false_of_ne (by omega)
              have q2:((t.kind:Int)==2)=false:=beq_false_of_ne (by omega)
              have hs0:stepG g t (last==4)=(if (g.opn.isEmpty && !g.v.isEmpty)=true then (g,80) else if 12<=g.opn.length then (g,100) else (⟨ll g (gT t),if t.kind=1 then g.opn++[g.v.length] else g.opn⟩,0)):=by unfold stepG;rw[if_neg (by omega),if_neg (by omega)]
              by_cases c1:(g.opn.isEmpty && !g.v.isEmpty)=true
              · have hst:stepG g t (last==4)=(g,80):=by rw[hs0,if_pos c1]
                have he:=herr 80 (by rw[hst]) (by omega)
                have hsn:=fun (M':am) (a:M' b0=some ⟨3,[eu (b0+1) (b0+2) g last]⟩) (b:M' (b0+1)=some ⟨6,g.v.map aV⟩) (c:M' (b0+2)=some ⟨1,(g.opn++junk).map cQ⟩) (d:∀ w,(M' w).isSome=true->w∈[b0,b0+1,b0+2]) (m:Nat)=>sD g k hg (by omega) junk last b0 (b0+1) (b0+2) t 80 (.inl ⟨c1,rfl⟩) M' m (by omega) (by omega) (by omega) a b c d
                rcases hve with ⟨_,rfl,rfl⟩|⟨h0,_⟩
                · rw[he]
                  repeat' first|simp only[ak,ag,zF,al,ay,bE,eu,hat,hlt,hd1,fc,q4,q2,Lm,ai,seval,ah]|exact rfl|refine aa (v:=.any) ?_|((refine eC (fi:=?_) ?_ ?_ [b0,b0+1,b0+2] (hsn _ ?_ ?_ ?_ aj _) ?_ ?_);rotate_left 1)|((first|apply Ca|apply Cb)<;>intro hb)|refine Ai (by omega) ?_|(apply Ai<;>intro hb)
                  all_goals ((refine Fin.pure ?_ ?_ ?_<;>simp only[al,aE,zF,ai,seval,ah]))
                · omega
              · have c1':(g.opn.isEmpty && !g.v.isEmpty)=false:=by simpa using c1
                by_cases c2:12<=g.opn.length
                · have hst:stepG g t (last==4)=(g,100):=by rw[hs0,if_neg c1,if_pos c2]
                  have he:=herr 100 (by rw[hst]) (by omega)
                  have hsn:=fun (M':am) (a:M' b0=some ⟨3,[eu (b0+1) (b0+2) g last]⟩) (b:M' (b0+1)=some ⟨6,g.v.map aV⟩) (c:M' (b0+2)=some ⟨1,(g.opn++junk).map cQ⟩) (d:∀ w,(M' w).isSome=true->w∈[b0,b0+1,b0+2]) (m:Nat)=>sD g k hg (by omega) junk last b0 (b0+1) (b0+2) t 100 (.inr ⟨c1',c2,rfl⟩) M' m (by omega) (by omega) (by omega) a b c d
                  rcases hve with ⟨_,rfl,rfl⟩|⟨h0,_⟩
                  · rw[he]
                    repeat' first|simp only[ak,ag,zF,al,ay,bE,eu,hat,hlt,hd1,fc,q4,q2,Lm,ai,seval,ah]|exact rfl|refine aa (v:=.any) ?_|((refine eC (fi:=?_) ?_ ?_ [b0,b0+1,b0+2] (hsn _ ?_ ?_ ?_ aj _) ?_ ?_);rotate_left 1)|((first|apply Ca|apply Cb)<;>intro hb)|refine Ai (by omega) ?_|(apply Ai<;>intro hb)
                    all_goals ((refine Fin.pure ?_ ?_ ?_<;>simp only[al,aE,zF,ai,seval,ah]))
                  · omega
                · have hst:stepG g t (last==4)=(⟨ll g (gT t),g.opn++[g.v.length]⟩,0):=by rw[hs0,if_neg c1,if_neg c2,if_pos hk1]
                  have hal:=gg g (gT t)
                  have ham:=sT g (gT t)
                  have hat3:((dh t.attrs).map b9).take t.attrs.length=(dh t.attrs).map b9:=List.take_of_length_le (by simp[dh])
                  have hgl:=jg t.attrs
                  have hsy0:=fun (M':am) (a:M' b0=some ⟨3,[eu (b0+1) (b0+2) g last]⟩) (b:M' (b0+1)=some ⟨6,g.v.map aV⟩) (c:M' (b0+2)=some ⟨1,(g.opn++junk).map cQ⟩) (d:∀ w,(M' w).isSome=true->w∈[b0,b0+1,b0+2]) (m:Nat) (h1:b0<m) (h2:b0+1<m) (h3:b0+2<m)=>zA g k hg (by omega) junk last b0 (b0+1) (b0+2) t (by omega) c1' (by omega) M' m (by omega) (by omega) (by omega) a b c d h1 h2 h3
                  have hsy:=hsy0
                  simp only[Ec,if_pos hk1]at hsy
                  repeat' first|simp only[ak,ag,zF,al,ay,bE,eu,hat,hlt,hd1,fc,q4,q2,Lm,ai,seval,ah]|exact rfl|refine aa (v:=.any) ?_|((refine eC (fi:=?_) ?_ ?_ [b0,b0+1,b0+2] (hsy _ ?_ ?_ ?_ aj _ (by omega) (by omega) (by omega)) ?_ ?_);rotate_left 1)|((first|apply Ca|apply Cb)<;>intro hb)|refine Ai (by omega) ?_|(apply Ai<;>intro hb)
                  all_goals ((refine eO bM (PSt.mk (k+1) (Gr.mk (ll g (gT t)) (g.opn++[g.v.length])) [] t.kind) [some b0,some (b0+256),some (b0+258)] ?_ ?_ ?_ ?_;rotate_left 2;(focus (show b0<=_;omega));(focus (refine⟨?_,?_⟩<;>(try simp only[aX,iW,bE,eu,hwk,hal,ham,hat3,hgl,Q4,AH,aq,je,gn _ _ (ad _),gH,fQ _ _ (ad _),rc,cQ,List.map_append,Lc,Lo,List.append_nil,List.length_append,List.length_cons,List.length_nil,bD,aE,ad,aH,aJ,Bool.and_self,Bool.false_and,Lm,ai,seval,ah,ap])<;>(try omega)))))
                  all_goals (first|(show l.length-(k+1)<l.length-k;omega)|exact hnext _ _ hst|skip)
            · have q4:((t.kind:Int)==4)=false:=beq_false_of_ne (by omega)
              have q2:((t.kind:Int)==2)=false:=beq_false_of_ne (by omega)
              have hs0:stepG g t (last==4)=(if (g.opn.isEmpty && !g.v.isEmpty)=true then (g,80) else if 12<=g.opn.length then (g,100) else (⟨ll g (gT t),if t.kind=1 then g.opn++[g.v.length] else g.opn⟩,0)):=by unfold stepG;rw[if_neg (by omega),if_neg (by omega)]
              by_cases c1:(g.opn.isEmpty && !g.v.isEmpty)=true
              · have hst:stepG g t (last==4)=(g,80):=by rw[hs0,if_pos c1]
                have he:=herr 80 (by rw[hst]) (by omega)
                have hsn:=fun (M':am) (a:M' b0=some ⟨3,[eu (b0+1) (b0+2) g last]⟩) (b:M' (b0+1)=some ⟨6,g.v.map aV⟩) (c:M' (b0+2)=some ⟨1,(g.opn++junk).map cQ⟩) (d:∀ w,(M' w).isSome=true->w∈[b0,b0+1,b0+2]) (m:Nat)=>sD g k hg (by omega) junk last b0 (b0+1) (b0+2) t 80 (.inl ⟨c1,rfl⟩) M' m (by omega) (by omega) (by omega) a b c d
                rcases hve with ⟨_,rfl,rfl⟩|⟨h0,_⟩
                · rw[he]
                  repeat' first|simp only[ak,ag,zF,al,ay,bE,eu,hat,hlt,hd1,fc,q4,q2,Lm,ai,seval,ah]|exact rfl|refine aa (v:=.any) ?_|((refine eC (fi:=?_) ?_ ?_ [b0,b0+1,b0+2] (hsn _ ?_ ?_ ?_ aj _) ?_ ?_);rotate_left 1)|((first|apply Ca|apply Cb)<;>intro hb)|refine Ai (by omega) ?_|(apply Ai<;>intro hb)
                  all_goals ((refine Fin.pure ?_ ?_ ?_<;>simp only[al,aE,zF,ai,seval,ah]))
                · omega
              · have c1':(g.opn.isEmpty && !g.v.isEmpty)=false:=by simpa using c1
                by_cases c2:12<=g.opn.length
                · have hst:stepG g t (last==4)=(g,100):=by rw[hs0,if_neg c1,if_pos c2]
                  have he:=herr 100 (by rw[hst]) (by omega)
                  have hsn:=fun (M':am) (a:M' b0=some ⟨3,[eu (b0+1) (b0+2) g last]⟩) (b:M' (b0+1)=some ⟨6,g.v.map aV⟩) (c:M' (b0+2)=some ⟨1,(g.opn++junk).map cQ⟩) (d:∀ w,(M' w).isSome=true->w∈[b0,b0+1,b0+2]) (m:Nat)=>sD g k hg (by omega) junk last b0 (b0+1) (b0+2) t 100 (.inr ⟨c1',c2,rfl⟩) M' m (by omega) (by omega) (by omega) a b c d
                  rcases hve with ⟨_,rfl,rfl⟩|⟨h0,_⟩
                  · rw[he]
                    repeat' first|simp only[ak,ag,zF,al,ay,bE,eu,hat,hlt,hd1,fc,q4,q2,Lm,ai,seval,ah]|exact rfl|refine aa (v:=.any) ?_|((refine eC (fi:=?_) ?_ ?_ [b0,b0+1,b0+2] (hsn _ ?_ ?_ ?_ aj _) ?_ ?_);rotate_left 1)|((first|apply Ca|apply Cb)<;>intro hb)|refine Ai (by omega) ?_|(apply Ai<;>intro hb)
                    all_goals ((refine Fin.pure ?_ ?_ ?_<;>simp only[al,aE,zF,ai,seval,ah]))
                  · omega
                · have hst:stepG g t (last==4)=(⟨ll g (gT t),g.opn⟩,0):=by rw[hs0,if_neg c1,if_neg c2,if_neg (by omega)]
                  have hal:=gg g (gT t)
                  have ham:=sT g (gT t)
                  have hat3:((dh t.attrs).map b9).take t.attrs.length=(dh t.attrs).map b9:=List.take_of_length_le (by simp[dh])
                  have hgl:=jg t.attrs
                  have hsy0:=fun (M':am) (a:M' b0=some ⟨3,[eu (b0+1) (b0+2) g last]⟩) (b:M' (b0+1)=some ⟨6,g.v.map aV⟩) (c:M' (b0+2)=some ⟨1,(g.opn++junk).map cQ⟩) (d:∀ w,(M' w).isSome=true->w∈[b0,b0+1,b0+2]) (m:Nat) (h1:b0<m) (h2:b0+1<m) (h3:b0+2<m)=>zA g k hg (by omega) junk last b0 (b0+1) (b0+2) t (by omega) c1' (by omega) M' m (by omega) (by omega) (by omega) a b c d h1 h2 h3
                  have hsy:=hsy0
                  simp only[Ec,if_neg (show ¬ t.kind=1 by omega)]at hsy
                  repeat' first|simp only[ak,ag,zF,al,ay,bE,eu,hat,hlt,hd1,fc,q4,q2,Lm,ai,seval,ah]|exact rfl|refine aa (v:=.any) ?_|((refine eC (fi:=?_) ?_ ?_ [b0,b0+1,b0+2] (hsy _ ?_ ?_ ?_ aj _ (by omega) (by omega) (by omega)) ?_ ?_);rotate_left 1)|((first|apply Ca|apply Cb)<;>intro hb)|refine Ai (by omega) ?_|(apply Ai<;>intro hb)
                  all_goals ((refine eO bM (PSt.mk (k+1) (Gr.mk (ll g (gT t)) (g.opn)) junk t.kind) [some b0,some (b0+256),some (b0+2)] ?_ ?_ ?_ ?_;rotate_left 2;(focus (show b0<=_;omega));(focus (refine⟨?_,?_⟩<;>(try simp only[aX,iW,bE,eu,hwk,hal,ham,hat3,hgl,Q4,AH,aq,je,gn _ _ (ad _),gH,fQ _ _ (ad _),rc,cQ,List.map_append,Lc,Lo,List.append_nil,List.length_append,List.length_cons,List.length_nil,bD,aE,ad,aH,aJ,Bool.and_self,Bool.false_and,Lm,ai,seval,ah,ap])<;>(try omega)))))
                  all_goals (first|(show l.length-(k+1)<l.length-k;omega)|exact hnext _ _ hst|skip)
            · have q4:((t.kind:Int)==4)=false:=beq_false_of_ne (by omega)
              have q2:((t.kind:Int)==2)=true:=by rw[hk1];rfl
              by_cases hln:mZ g=some t.name
              · have hst:stepG g t (last==4)=(⟨g.v,g.opn.dropLast⟩,0):=by unfold stepG;rw[if_neg (by omega),if_pos hk1,if_pos hln]
                obtain⟨kl,hkl,_⟩:=Option.bind_eq_some_iff.1 hln
                have hne:=(m7 hkl).1
                have hdl:g.opn.dropLast.length=g.opn.length-1:=by simp
                have hjk:g.opn.dropLast++(kl::junk)=g.opn++junk:=by
                  have:g.opn=g.opn.dropLast++[kl]:=by
                    rw[List.getLast?_eq_some_getLast hne]at hkl
                    cases hkl
                    exact(List.dropLast_concat_getLast hne).symm
                  conv=>rhs;rw[this]
                  simp
                have hsy:=fun (M':am) (a:M' b0=some ⟨3,[eu (b0+1) (b0+2) g last]⟩) (b:M' (b0+1)=some ⟨6,g.v.map aV⟩) (c:M' (b0+2)=some ⟨1,(g.opn++junk).map cQ⟩) (d:∀ w,(M' w).isSome=true->w∈[b0,b0+1,b0+2]) (m:Nat)=>Ld g k hg (by omega) junk last b0 (b0+1) (b0+2) t hln M' m (by omega) (by omega) (by omega) a b c d
                repeat' first|simp only[ak,ag,zF,al,ay,bE,eu,hat,hlt,hd1,q4,q2,Lm,ai,seval,ah]|exact rfl|refine aa (v:=.any) ?_|((refine eC (fi:=?_) ?_ ?_ [b0,b0+1,b0+2] (hsy _ ?_ ?_ ?_ aj _) ?_ ?_);rotate_left 1)|((first|apply Ca|apply Cb)<;>intro hb)|refine Ai (by omega) ?_|(apply Ai<;>intro hb)
                all_goals ((refine eO bM (PSt.mk (k+1) (Gr.mk g.v g.opn.dropLast) (kl::junk) t.kind) [some b0,some (b0+1),some (b0+2)] ?_ ?_ ?_ ?_;rotate_left 2;(focus (show b0<=_;omega));(focus (refine⟨?_,?_⟩<;>(try simp only[aX,iW,bE,eu,hwk,hdl,hjk,aE,ad,aH,aJ,Bool.and_self,Bool.false_and,Lm,ai,seval,ah,ap])<;>(try omega)))))
                all_goals (first|(show l.length-(k+1)<l.length-k;omega)|exact hnext _ _ hst|skip)
              · have hst:stepG g t (last==4)=(g,80):=by unfold stepG;rw[if_neg (by omega),if_pos hk1,if_neg hln]
                have he:=herr 80 (by rw[hst]) (by omega)
                have hsn:=fun (M':am) (a:M' b0=some ⟨3,[eu (b0+1) (b0+2) g last]⟩) (b:M' (b0+1)=some ⟨6,g.v.map aV⟩) (c:M' (b0+2)=some ⟨1,(g.opn++junk).map cQ⟩) (d:∀ w,(M' w).isSome=true->w∈[b0,b0+1,b0+2]) (m:Nat)=>Oj g k hg (by omega) junk last b0 (b0+1) (b0+2) t hln M' m (by omega) (by omega) (by omega) a b c d
                rcases hve with ⟨_,rfl,rfl⟩|⟨h0,_⟩
                · rw[he]
                  repeat' first|simp only[ak,ag,zF,al,ay,bE,eu,hat,hlt,hd1,fc,q4,q2,Lm,ai,seval,ah]|exact rfl|refine aa (v:=.any) ?_|((refine eC (fi:=?_) ?_ ?_ [b0,b0+1,b0+2] (hsn _ ?_ ?_ ?_ aj _) ?_ ?_);rotate_left 1)|((first|apply Ca|apply Cb)<;>intro hb)|refine Ai (by omega) ?_|(apply Ai<;>intro hb)
                  all_goals ((refine Fin.pure ?_ ?_ ?_<;>simp only[al,aE,zF,ai,seval,ah]))
                · omega
            · have q4:((t.kind:Int)==4)=true:=by rw[hk1];rfl
              have htl:t.text.length<=bc:=by have:=hto.2.2.1;unfold bc;omega
              have hs0:stepG g t (last==4)=(if ((last==4)||(g.opn.isEmpty && !oH t.text))=true then (g,80) else if g.opn.isEmpty=true then (g,0) else (⟨ll g (jU t.text),g.opn⟩,0)):=by unfold stepG;rw[if_pos hk1]
              by_cases c1:li g t last=true
              · have hst:stepG g t (last==4)=(g,80):=by exact hs0.trans (if_pos c1)
                have he:=herr 80 (by rw[hst]) (by omega)
                have hsn:=fun (M':am) (a:M' b0=some ⟨3,[eu (b0+1) (b0+2) g last]⟩) (b:M' (b0+1)=some ⟨6,g.v.map aV⟩) (c:M' (b0+2)=some ⟨1,(g.opn++junk).map cQ⟩) (d:∀ w,(M' w).isSome=true->w∈[b0,b0+1,b0+2]) (m:Nat)=>Bm g k hg (by omega) junk last b0 (b0+1) (b0+2) t htl 80 (.inl ⟨c1,rfl⟩) M' m (by omega) (by omega) (by omega) a b c d
                rcases hve with ⟨_,rfl,rfl⟩|⟨h0,_⟩
                · rw[he]
                  repeat' first|simp only[ak,ag,zF,al,ay,bE,eu,hat,hlt,hd1,fc,q4,Lm,ai,seval,ah]|exact rfl|refine aa (v:=.any) ?_|((refine eC (fi:=?_) ?_ ?_ [b0,b0+1,b0+2] (hsn _ ?_ ?_ ?_ aj _) ?_ ?_);rotate_left 1)|((first|apply Ca|apply Cb)<;>intro hb)|refine Ai (by omega) ?_|(apply Ai<;>intro hb)
                  all_goals ((refine Fin.pure ?_ ?_ ?_<;>simp only[al,aE,zF,ai,seval,ah]))
                · omega
              · have c1':li g t last=false:=by simpa using c1
                by_cases c2:g.opn=[]
                · have hst:stepG g t (last==4)=(g,0):=by exact hs0.trans ((if_neg c1).trans (if_pos (by rw[c2];rfl)))
                  have hsy:=fun (M':am) (a:M' b0=some ⟨3,[eu (b0+1) (b0+2) g last]⟩) (b:M' (b0+1)=some ⟨6,g.v.map aV⟩) (c:M' (b0+2)=some ⟨1,(g.opn++junk).map cQ⟩) (d:∀ w,(M' w).isSome=true->w∈[b0,b0+1,b0+2]) (m:Nat)=>Bm g k hg (by omega) junk last b0 (b0+1) (b0+2) t htl 0 (.inr ⟨c1',c2,rfl⟩) M' m (by omega) (by omega) (by omega) a b c d
                  repeat' first|simp only[ak,ag,zF,al,ay,bE,eu,hat,hlt,hd1,fc,q4,Lm,ai,seval,ah]|exact rfl|refine aa (v:=.any) ?_|((refine eC (fi:=?_) ?_ ?_ [b0,b0+1,b0+2] (hsy _ ?_ ?_ ?_ aj _) ?_ ?_);rotate_left 1)|((first|apply Ca|apply Cb)<;>intro hb)|refine Ai (by omega) ?_|(apply Ai<;>intro hb)
                  all_goals ((refine eO bM (PSt.mk (k+1) g junk t.kind) [some b0,some (b0+1),some (b0+2)] ?_ ?_ ?_ ?_;rotate_left 2;(focus (show b0<=_;omega));(focus (refine⟨?_,?_⟩<;>(try simp only[aX,iW,bE,eu,hwk,aE,ad,aH,aJ,Bool.and_self,Bool.false_and,Lm,ai,seval,ah,ap])<;>(try omega)))))
                  all_goals (first|(show l.length-(k+1)<l.length-k;omega)|exact hnext _ _ hst|skip)
                · have c3:g.opn.isEmpty=false:=by simpa using c2
                  have c4:(last==4)=false:=by unfold li at c1';simp only[Bool.or_eq_false_iff]at c1';exact c1'.1
                  have hst:stepG g t (last==4)=(⟨ll g (jU t.text),g.opn⟩,0):=by exact hs0.trans ((if_neg c1).trans (if_neg (by simp[c3])))
                  have hal:=gg g (jU t.text)
                  have ham:=sT g (jU t.text)
                  have hsy:=fun (M':am) (a:M' b0=some ⟨3,[eu (b0+1) (b0+2) g last]⟩) (b:M' (b0+1)=some ⟨6,g.v.map aV⟩) (c:M' (b0+2)=some ⟨1,(g.opn++junk).map cQ⟩) (d:∀ w,(M' w).isSome=true->w∈[b0,b0+1,b0+2]) (m:Nat) (h1:b0<m) (h2:b0+1<m) (h3:b0+2<m)=>HT g k hg (by omega) junk last b0 (b0+1) (b0+2) t c4 c3 M' m (by omega) (by omega) (by omega) a b c d h1 h2 h3
                  repeat' first|simp only[ak,ag,zF,al,ay,bE,eu,hat,hlt,hd1,fc,q4,Lm,ai,seval,ah]|exact rfl|refine aa (v:=.any) ?_|((refine eC (fi:=?_) ?_ ?_ [b0,b0+1,b0+2] (hsy _ ?_ ?_ ?_ aj _ (by omega) (by omega) (by omega)) ?_ ?_);rotate_left 1)|((first|apply Ca|apply Cb)<;>intro hb)|refine Ai (by omega) ?_|(apply Ai<;>intro hb)
                  all_goals ((refine eO bM (PSt.mk (k+1) (Gr.mk (ll g (jU t.text)) g.opn) junk t.kind) [some b0,some (b0+256),some (b0+2)] ?_ ?_ ?_ ?_;rotate_left 2;(focus (show b0<=_;omega));(focus (refine⟨?_,?_⟩<;>(try simp only[aX,iW,bE,eu,hwk,hal,ham,JW,je,gn _ _ (ad _),gH,fQ _ _ (ad _),rc,Lo,bD,aE,ad,aH,aJ,Bool.and_self,Bool.false_and,Lm,ai,seval,ah,ap])<;>(try omega)))))
                  all_goals (first|(show l.length-(k+1)<l.length-k;omega)|exact hnext _ _ hst|skip)
          · have hke:k=l.length:=by omega
            subst hke
            have hd1:decide (l.length<l.length)=false:=bm
            rw[List.drop_length,Nk]at hgo
            have hvl:=hg.len
            have hv0:((g.v.length:Int)==0)=g.v.isEmpty:=na _
            have ho0:decide ((0:Int)<(g.opn.length:Int)) = !g.opn.isEmpty:=by
              cases h:g.opn with
              | nil=>rfl
              | cons a b=>simp
            have htn:=fM g.v
            by_cases hx:g.v.isEmpty=true\/g.opn.isEmpty=false
            · have he:=G3 h512 hany hgo hx
              rcases hve with ⟨_,rfl,rfl⟩|⟨h0,_⟩
              · rw[he]
                generalize hA:g.v.isEmpty=bA at hx hv0
                generalize hB:g.opn.isEmpty=bB at hx ho0
                cases bA<;>cases bB
                all_goals (try (exfalso;simp at hx;done))
                all_goals (
                  repeat' first|simp only[ak,ag,zF,al,eu,hd1,hv0,ho0,Bt,Bf,Lm,ai,seval,ah]|exact rfl|refine aa (v:=.any) ?_|((first|apply Ca|apply Cb)<;>intro hb)|refine Ai (by omega) ?_|(apply Ai<;>intro hb)
                  all_goals ((refine Fin.pure ?_ ?_ ?_<;>simp only[al,aE,zF,ai,seval,ah])))
              · omega
            · obtain⟨he,hpt⟩:=KL h512 hany hgo hx
              rcases hve with ⟨h0,_⟩|⟨_,rfl,rfl⟩
              · omega
              · rw[hpt]
                generalize hA:g.v.isEmpty=bA at hx hv0
                generalize hB:g.opn.isEmpty=bB at hx ho0
                cases bA<;>cases bB
                all_goals (try (exfalso;simp at hx;done))
                all_goals (
                  repeat' first|simp only[ak,ag,zF,al,eu,hd1,hv0,ho0,Bt,Bf,Lm,ai,seval,ah]|exact rfl|refine aa (v:=.any) ?_|((first|apply Ca|apply Cb)<;>intro hb)|refine Ai (by omega) ?_|(apply Ai<;>intro hb)
                  all_goals ((refine Fin.give [(b0+1,some 0)] [] ?_ ?_ ?_ ?_ ?_ (aL gM (by simp[aP,tgt]))<;>(try simp only[zF,al,aE,ad,dx,ai,seval,ah])<;>(try simp only[ap])<;>(try omega))))
      exact⟨fun h=>main _ _ (.inl ⟨h,rfl,rfl⟩),fun h=>main _ _ (.inr ⟨h,rfl,rfl⟩)⟩
def iO (L:List Nd)(e:Int):V:=.tup [.sl false 6 (L.map aV),.int .i64 e]
def KK (l:List Tk)(hl:l.length<=600)(hs:∀ t∈l,t.okTo 1000000/\t.attrs.length<=30)(nm:Nat):Ev cx 58 nm [.sl false 4 (l.map bE)] am.nil (iO (dJ l) (cR l)) []:=by
 obtain⟨h1,h2⟩:=KM l hl hs nm
 by_cases h:cR l=0
 ·have h3:=h2 h
  rw[h]
  have hpl:=ad (dJ l)
  have htk:((dJ l).map aV).take (dJ l).length=(dJ l).map aV:=bz _ _
  refine Ev.freeze h3 ?_ ?_
  ·simp only[ak,ag,al,hpl,htk,Lm,ai,seval,ah]<;>omega
  ·unfold iO
   simp only[ak,ag,al,hpl,htk,Lm,ai,seval,ah]
 ·have h3:=h1 h
  have hT:dJ l=[]:=by unfold dJ;rw[if_neg h]
  rw[hT]
  refine Ev.res_le h3 ?_
  unfold iO
  simp only[lI,dZ,fj,bL,jG,Lo,and_self]
def Mj (a:At):Nat:=min a.name.length 20000+min a.space.length 20000+min a.value.length 20000
def mq (l:List At):Nat:=(l.map Mj).sum
def vd (x:Nd):Nat:=min x.name.length 20000+min x.space.length 20000+min x.text.length 20000
def Cq (bytes:Nat):List Nd->Nat->Bool×Nat
 | [],n=>(false,n)
 | x::r,n=>if 30<x.attrs.length\/bytes<n+vd x then (true,n) else Cq bytes r (n+vd x+mq x.attrs)
def mW (v:List Nd)(most bytes:Nat):Bool:=(Cq bytes (v.take 600) 0).1||decide (most<v.length)||decide (bytes<(Cq bytes (v.take 600) 0).2)
def H9 (a:At):Mj a<=60000:=by unfold Mj;omega
def Qj (x:Nd):vd x<=60000:=by unfold vd;omega
def D4 (l:List At):mq l<=60000*l.length:=by
 unfold mq
 induction l with
 | nil=>simp
 | cons a l ih=>have:=H9 a;simp only[Lc,List.sum_cons,List.length_cons];omega
def Fh {l:List At}{k:Nat}{a:At}(h:l[k]? = some a):mq (l.take (k+1))=mq (l.take k)+Mj a:=by
 obtain⟨hk,rfl⟩:=List.getElem?_eq_some_iff.1 h
 unfold mq
 rw[List.take_succ_eq_append_getElem hk,List.map_append,List.sum_append];simp
def Ic {l:List At}{a:At}(h:a∈l):Mj a<=mq l:=by
 unfold mq
 induction l with
 | nil=>cases h
 | cons b l ih =>
  simp only[Lc,List.sum_cons]
  rcases List.mem_cons.1 h with rfl|h
  ·omega
  ·have:=ih h;omega
def wg {bytes:Nat} : ∀(v:List Nd) (n:Nat),(Cq bytes v n).1=false->n<=(Cq bytes v n).2 /\ ∀ x∈v,x.attrs.length<=30/\vd x+mq x.attrs<=(Cq bytes v n).2
 | [],n,_=>⟨Nat.le_refl _,fun x hx=>by cases hx⟩
 | x::r,n,h=>by
  simp only[Cq]at h ⊢
  split at h
  ·cases h
  ·rename_i hc
   rw[if_neg hc]
   obtain⟨h1,h2⟩:=wg r _ h
   refine⟨by omega,fun y hy=>?_⟩
   rcases List.mem_cons.1 hy with rfl|hy
   ·exact⟨by omega,by omega⟩
   ·exact h2 y hy
def vE {v:List Nd}{most bytes:Nat}(hm:most<=600)(hb:bytes<20000)(h:mW v most bytes=false):v.length<=most /\ ∀ x∈v,x.attrs.length<=30/\x.okTo 20000/\x.name.length+x.space.length+x.text.length<=bytes:=by
 unfold mW at h
 simp only[Bool.or_eq_false_iff,decide_eq_false_iff_not,Nat.not_lt]at h
 obtain⟨⟨h1,h2⟩,h3⟩:=h
 refine⟨h2,fun x hx=>?_⟩
 have ht:v.take 600=v:=List.take_of_length_le (by omega)
 rw[ht]at h1 h3
 obtain⟨_,h5⟩:=wg v 0 h1
 obtain⟨h6,h7⟩:=h5 x hx
 have hn:vd x<=bytes:=by omega
 have ha:mq x.attrs<=bytes:=by omega
 unfold vd at hn
 refine⟨h6,⟨?_,?_,?_,?_,fun a ha2=>?_⟩,by omega⟩
 ·omega
 ·omega
 ·omega
 ·omega
 ·have:=Ic ha2
  unfold Mj at this
  exact⟨by omega,by omega,by omega⟩
def L9:mq []=0:=rfl
structure GSt where
 k:Nat
 n:Nat
def CE (v:List Nd)(most bytes:Nat)(hm:most<=1000)(hb:bytes<=1000000)(hv:v.length<=bc)(hok:∀ n∈v,n.okTo bc)(nm:Nat):Ev cx 9 nm [.sl false 6 (v.map aV),.int .i64 most,.int .i64 bytes] am.nil (.bool (mW v most bytes)) []:=by
  have hv':=hv
  unfold bc at hv'
  refine bh call9 func9 rfl (by kernel_rfl) rfl ?_;intro b0 hb0;have zF:=Ai results9 ntmps9
  repeat' first|simp only[ak,ag,zF,al,ai,seval,ah]|exact rfl|refine aa (v:=.any) ?_|refine az (by decide +kernel) ?_|((first|apply Ca|apply Cb)<;>intro hb)|refine Ai (by omega) ?_|(apply Ai<;>intro hb)
  (refine aQ bM (fun s:GSt=>v.length-s.k) (fun s=>s.k<=v.length/\s.k<=600/\Cq bytes (v.take 600) 0=Cq bytes ((v.take 600).drop s.k) s.n/\s.n<=bytes+1800000) (b0+16) (fun s=>[(0,.sl false 6 (v.map aV)),(1,.int .i64 most),(2,.int .i64 bytes),(7,.int .i64 s.n),(8,.int .i64 s.k)]) (fun s=>[]) (⟨0,0⟩) [] ?_ ?_ ?_ ?_;rotate_left 1;(focus (show b0<=_;omega));(focus (refine⟨?_,?_⟩<;>(try simp only[aX,ad,Lm,ai,seval,ah,ap])<;>(try omega)));rotate_left 1)
  · exact⟨Nat.zero_le _,Nat.zero_le _,rfl,Nat.zero_le _⟩
  · rintro ⟨k,n⟩ ⟨hk,hk6,hinv,hn⟩
    dsimp only at hk hk6 hinv hn ⊢
    by_cases hlt:k<v.length/\k<600
    · obtain⟨h1,h2⟩:=hlt
      obtain⟨x,hx⟩:∃ x,v[k]? = some x:=⟨_,List.getElem?_eq_getElem h1⟩
      obtain⟨o1,o2,o3,o4,o5⟩:=hok x (List.mem_of_getElem? hx)
      unfold bc at o1 o2 o3 o4
      have hat:=iL hx
      have hki:(k:Int)<(v.length:Int):=by omega
      have d1:decide ((k:Int)<(v.length:Int))=true:=bR
      have d2:decide (k<v.length)=true:=decide_eq_true h1
      have d3:decide ((k:Int)<600)=true:=bR
      have d4:decide (k<600)=true:=decide_eq_true h2
      have hdr:(v.take 600).drop k=x::(v.take 600).drop (k+1):=by
        have:(v.take 600)[k]? = some x:=by rw[List.getElem?_take,if_pos h2];exact hx
        obtain⟨hp,rfl⟩:=List.getElem?_eq_some_iff.1 this
        exact List.drop_eq_getElem_cons hp
      rw[hdr]at hinv
      have hnx:=Qj x
      have m1:min (x.name.length:Int) 20000=((min x.name.length 20000:Nat):Int):=by omega
      have m2:min (x.space.length:Int) 20000=((min x.space.length 20000:Nat):Int):=by omega
      have m3:min (x.text.length:Int) 20000=((min x.text.length 20000:Nat):Int):=by omega
      have hnd:vd x=min x.name.length 20000+min x.space.length 20000+min x.text.length 20000:=rfl
      generalize min x.name.length 20000=n1 at m1 hnd
      generalize min x.space.length 20000=n2 at m2 hnd
      generalize min x.text.length 20000=n3 at m3 hnd
      have w1:IntKind.i64.wrap ((n:Int)+n1)=((n+n1:Nat):Int):=by rw[bd];omega
      have w2:IntKind.i64.wrap (((n+n1:Nat):Int)+n2)=((n+(n1+n2):Nat):Int):=by rw[bd];omega
      have w3:IntKind.i64.wrap (((n+(n1+n2):Nat):Int)+n3)=((n+vd x:Nat):Int):=by rw[bd];omega
      have hwk:IntKind.i64.wrap ((k:Int)+1)=((k+1:Nat):Int):=bd
      by_cases hc:30<x.attrs.length\/bytes<n+vd x
      · have hg:Cq bytes (v.take 600) 0=(true,n):=by rw[hinv];simp only[Cq];rw[if_pos hc]
        have hr:mW v most bytes=true:=by unfold mW;rw[hg];rfl
        rw[hr]
        have e1:decide ((30:Int)<(x.attrs.length:Int))=decide (30<x.attrs.length):=by rw[Bool.eq_iff_iff];simp;omega
        have e2:decide ((bytes:Int)<((n+vd x:Nat):Int))=decide (bytes<n+vd x):=by rw[Bool.eq_iff_iff];simp;omega
        by_cases hc1:30<x.attrs.length
        · have q1:decide (30<x.attrs.length)=true:=decide_eq_true hc1
          rw[q1]at e1
          (repeat' first|simp only[ak,ag,zF,al,hat,aV,h1,hki,d1,d2,d3,d4,m1,m2,m3,w1,w2,w3,e1,q1,Bt,Bf,Lm,ai,seval,ah]|exact rfl|refine aa (v:=.any) ?_|refine az (by decide +kernel) ?_|((first|apply Ca|apply Cb)<;>intro hb)|refine Ai (by omega) ?_|(apply Ai<;>intro hb)|refine Fin.pure ?_ ?_ ?_|simp only[ap])
        · have q1:decide (30<x.attrs.length)=false:=decide_eq_false hc1
          have q2:decide (bytes<n+vd x)=true:=bR
          rw[q1]at e1
          rw[q2]at e2
          (repeat' first|simp only[ak,ag,zF,al,hat,aV,h1,hki,d1,d2,d3,d4,m1,m2,m3,w1,w2,w3,e1,e2,q1,q2,Bt,Bf,Lm,ai,seval,ah]|exact rfl|refine aa (v:=.any) ?_|refine az (by decide +kernel) ?_|((first|apply Ca|apply Cb)<;>intro hb)|refine Ai (by omega) ?_|(apply Ai<;>intro hb)|refine Fin.pure ?_ ?_ ?_|simp only[ap])
      · have e1:decide ((30:Int)<(x.attrs.length:Int))=false:=bm
        have e2:decide ((bytes:Int)<((n+vd x:Nat):Int))=false:=bm
        have q1:decide (30<x.attrs.length)=false:=bm
        have q2:decide (bytes<n+vd x)=false:=bm
        have hg:Cq bytes (x::(v.take 600).drop (k+1)) n=Cq bytes ((v.take 600).drop (k+1)) (n+vd x+mq x.attrs):=by simp only[Cq];rw[if_neg hc]
        rw[hg]at hinv
        have hn1:n+vd x<=bytes:=by omega
        repeat' first|simp only[ak,ag,zF,al,hat,aV,h1,hki,d1,d2,d3,d4,m1,m2,m3,w1,w2,w3,e1,e2,q1,q2,Bt,Bf,Lm,ai,seval,ah]|exact rfl|refine aa (v:=.any) ?_|refine az (by decide +kernel) ?_|((first|apply Ca|apply Cb)<;>intro hb)|refine Ai (by omega) ?_|(apply Ai<;>intro hb)
        (refine aQ bM (fun j:Nat=>x.attrs.length-j) (fun j=>j<=x.attrs.length) (b0+16) (fun j=>[(0,.sl false 6 (v.map aV)),(1,.int .i64 most),(2,.int .i64 bytes),(7,.int .i64 ((n+vd x+mq (x.attrs.take j):Nat):Int)),(8,.int .i64 k),(9,.int .i64 j)]) (fun j=>[]) (0) [] ?_ ?_ ?_ ?_;rotate_left 1;(focus (show b0<=_;omega));(focus (refine⟨?_,?_⟩<;>(try simp only[aX,ad,L9,List.take_zero,Nat.add_zero,Lm,ai,seval,ah,ap])<;>(try omega)));rotate_left 1)
        · exact Nat.zero_le _
        · intro j hj
          by_cases hja:j<x.attrs.length
          · obtain⟨a,ha⟩:∃ a,x.attrs[j]? = some a:=⟨_,List.getElem?_eq_getElem hja⟩
            obtain⟨p1,p2,p3⟩:=o5 a (List.mem_of_getElem? ha)
            unfold bc at p1 p2 p3
            have haa:=vS ha
            have f1:decide ((j:Int)<(x.attrs.length:Int))=true:=bR
            have f2:decide (j<x.attrs.length)=true:=decide_eq_true hja
            have hji:(j:Int)<(x.attrs.length:Int):=by omega
            have hsum:=D4 (x.attrs.take j)
            have hjl:(x.attrs.take j).length<=30:=by rw[List.length_take];omega
            have hts:=Fh ha
            have haN:=H9 a
            generalize hN:n+vd x+mq (x.attrs.take j)=N
            have hN1:n+vd x+mq (x.attrs.take (j+1))=N+Mj a:=by omega
            have hNb:N<=bytes+1800000:=by omega
            have m4:min (a.name.length:Int) 20000=((min a.name.length 20000:Nat):Int):=by omega
            have m5:min (a.space.length:Int) 20000=((min a.space.length 20000:Nat):Int):=by omega
            have m6:min (a.value.length:Int) 20000=((min a.value.length 20000:Nat):Int):=by omega
            have had:Mj a=min a.name.length 20000+min a.space.length 20000+min a.value.length 20000:=rfl
            generalize min a.name.length 20000=n4 at m4 had
            generalize min a.space.length 20000=n5 at m5 had
            generalize min a.value.length 20000=n6 at m6 had
            have v1:IntKind.i64.wrap ((N:Int)+n4)=((N+n4:Nat):Int):=by rw[bd];omega
            have v2:IntKind.i64.wrap (((N+n4:Nat):Int)+n5)=((N+(n4+n5):Nat):Int):=by rw[bd];omega
            have v3:IntKind.i64.wrap (((N+(n4+n5):Nat):Int)+n6)=((N+Mj a:Nat):Int):=by rw[bd];omega
            have hwj:IntKind.i64.wrap ((j:Int)+1)=((j+1:Nat):Int):=bd
            repeat' first|simp only[ak,ag,zF,al,hat,aV,haa,b9,h1,hki,hja,hji,f1,f2,m4,m5,m6,v1,v2,v3,hwj,Lm,ai,seval,ah]|exact rfl|refine aa (v:=.any) ?_|refine az (by decide +kernel) ?_|((first|apply Ca|apply Cb)<;>intro hb)|refine Ai (by omega) ?_|(apply Ai<;>intro hb)
            all_goals ((refine aC bM (j+1) [] ?_ ?_ ?_ ?_;rotate_left 2;(focus (show b0<=_;omega));(focus (refine⟨?_,?_⟩<;>(try simp only[aX,ad,hwj,hN1,Lm,ai,seval,ah,ap])<;>(try omega)))))
            all_goals (first|(show x.attrs.length-(j+1)<x.attrs.length-j;omega)|exact hja|skip)
          · have hje:j=x.attrs.length:=by omega
            subst hje
            have f1:decide ((x.attrs.length:Int)<(x.attrs.length:Int))=false:=bm
            have f2:decide (x.attrs.length<x.attrs.length)=false:=bm
            have hsum:=D4 x.attrs
            have htl:x.attrs.take x.attrs.length=x.attrs:=List.take_length
            rw[htl]
            repeat' first|simp only[ak,ag,zF,al,hat,aV,h1,hki,f1,f2,hwk,Lm,ai,seval,ah]|exact rfl|refine aa (v:=.any) ?_|refine az (by decide +kernel) ?_|((first|apply Ca|apply Cb)<;>intro hb)|refine Ai (by omega) ?_|(apply Ai<;>intro hb)
            all_goals ((refine aC bM (⟨k+1,n+vd x+mq x.attrs⟩) [] ?_ ?_ ?_ ?_;rotate_left 2;(focus (show b0<=_;omega));(focus (refine⟨?_,?_⟩<;>(try simp only[aX,ad,hwk,Lm,ai,seval,ah,ap])<;>(try omega)))))
            all_goals (first|(show v.length-(k+1)<v.length-k;omega)|exact⟨h1,h2,hinv,by show n+vd x+mq x.attrs<=_;omega⟩|skip)
    · have hdr:(v.take 600).drop k=[]:=List.drop_of_length_le (by rw[List.length_take];omega)
      rw[hdr]at hinv
      have hg:Cq bytes (v.take 600) 0=(false,n):=hinv
      have hr:mW v most bytes=(decide (most<v.length)||decide (bytes<n)):=by unfold mW;rw[hg];rfl
      rw[hr]
      have e1:decide ((most:Int)<(v.length:Int))=decide (most<v.length):=by rw[Bool.eq_iff_iff];simp
      have e2:decide ((bytes:Int)<(n:Int))=decide (bytes<n):=by rw[Bool.eq_iff_iff];simp
      by_cases h1:k<v.length
      · have d1:decide ((k:Int)<(v.length:Int))=true:=bR
        have d2:decide (k<v.length)=true:=decide_eq_true h1
        have d3:decide ((k:Int)<600)=false:=bm
        have d4:decide (k<600)=false:=bm
        (repeat' first|simp only[ak,ag,zF,al,d1,d2,d3,d4,e1,e2,Lm,ai,seval,ah]|exact rfl|refine aa (v:=.any) ?_|refine az (by decide +kernel) ?_|((first|apply Ca|apply Cb)<;>intro hb)|refine Ai (by omega) ?_|(apply Ai<;>intro hb)|refine Fin.pure ?_ ?_ ?_|simp only[ap])
      · have d1:decide ((k:Int)<(v.length:Int))=false:=bm
        have d2:decide (k<v.length)=false:=decide_eq_false h1
        (repeat' first|simp only[ak,ag,zF,al,d1,d2,e1,e2,Lm,ai,seval,ah]|exact rfl|refine aa (v:=.any) ?_|refine az (by decide +kernel) ?_|((first|apply Ca|apply Cb)<;>intro hb)|refine Ai (by omega) ?_|(apply Ai<;>intro hb)|refine Fin.pure ?_ ?_ ?_|simp only[ap])
end Go.Proofs.YtlnlopnpcmahgaaGreatDoor
