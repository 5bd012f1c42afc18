/-
 Texts joined: XSp,XSq.
-/
import Derived.Test.YtlnlopnpcmahgaaGreatDoorQq
import Derived.Test.YtlnlopnpcmahgaaGreatDoorQs
import Derived.Test.YtlnlopnpcmahgaaGreatDoorQp
import Derived.Test.YtlnlopnpcmahgaaGreatDoorQr
set_option linter.all false
namespace Go.Proofs.YtlnlopnpcmahgaaGreatDoor
set_option maxRecDepth 100000
set_option maxHeartbeats 32000000
open Go Go.RowKit Vm Go.Lib Tryz
open Vm renaming ba->Ca,bh->Cb
open And renaming intro->Ai
open List renaming length_map->Lm,not_mem_nil->Ln,map_nil->Lo,map_cons->Lc,mem_cons->Lk
open Bool renaming not_false->Bf,not_true->Bt
def KZ (l:List Tk)(hl:l.length<=600)(hs:∀ t∈l,t.okTo 1000000/\t.attrs.length<=30)(nm:Nat) :
    (cB l≠0->Ev cx 58 nm [.sl false 4 (l.map bE)] ap.nil (.tup [.nils,.int .i64 (cB l)]) []) /\
    (cB l=0->Ev cx 58 nm [.sl false 4 (l.map bE)] ap.nil (.tup [.own nm 0 (dy l).length,.int .i64 0]) [(nm,some ⟨6,(dy l).map aZ⟩)]):=by
  have hlim:∀ t∈l,t.okTo be:=fun t ht=>by
    obtain⟨⟨h1,h2,h3,h4⟩,_⟩:=hs t ht
    unfold be
    exact⟨by omega,by omega,by omega,fun a ha=>by have:=h4 a ha;omega⟩
  have hcf:=nZ l 100 [] (fun t=>!cR t) (fun t ht nm=>Hg t (hlim t ht) nm) (by unfold be;omega) rfl
  have htkl:(l.map bE).take l.length=l.map bE:=List.take_of_length_le (by simp)
  by_cases h512:512<l.length
  · have he:=Dq h512
    have hd:decide ((512:Int)<(l.length:Int))=true:=cn
    refine⟨fun _=>?_,fun h=>by omega⟩
    rw[he]
    refine bi call58 func58 rfl (by kernel_rfl) rfl ?_;intro b0 hb0;have zF:=Ai results58 ntmps58
    repeat' first|simp only[ak,aj,zF,al,hd,Lm,ai,seval,ah]|exact rfl|refine aa (v:=.any) ?_|((first|apply Ca|apply Cb)<;>intro hb)|refine Ai (by omega) ?_|(apply Ai<;>intro hb)
    all_goals ((refine Fin.pure ?_ ?_ ?_<;>simp only[al,aF,zF,ai,seval,ah]))
  · have hd:decide ((512:Int)<(l.length:Int))=false:=bo
    cases hany:(l.any fun t=>!cR t) with
    | true =>
      rw[hany]at hcf
      have he:=Hh h512 hany
      refine⟨fun _=>?_,fun h=>by omega⟩
      rw[he]
      refine bi call58 func58 rfl (by kernel_rfl) rfl ?_;intro b0 hb0;have zF:=Ai results58 ntmps58
      repeat' first|simp only[ak,aj,zF,al,hd,htkl,aF,Lm,ai,seval,ah]|exact rfl|refine aa (v:=.any) ?_|(first|(refine ad ?_ (hcf _) ?_)|(refine ab ?_ (fun _=>hcf _) ?_))|((first|apply Ca|apply Cb)<;>intro hb)|refine Ai (by omega) ?_|(apply Ai<;>intro hb)
      all_goals ((refine Fin.pure ?_ ?_ ?_<;>simp only[al,aF,zF,ai,seval,ah]))
    | false =>
      rw[hany]at hcf
      have main:∀(v:V) (eff:List (Nat×Option Blk)),((cB l≠0/\v = .tup [.nils,.int .i64 (cB l)]/\eff=[])\/(cB l=0/\v = .tup [.own nm 0 (dy l).length,.int .i64 0]/\eff=[(nm,some ⟨6,(dy l).map aZ⟩)]))->Ev cx 58 nm [.sl false 4 (l.map bE)] ap.nil v eff:=by
        intro v eff hve
        refine bi call58 func58 rfl (by kernel_rfl) rfl ?_;intro b0 hb0;have zF:=Ai results58 ntmps58
        repeat' first|simp only[ak,aj,zF,al,hd,htkl,aF,Lm,ai,seval,ah]|exact rfl|refine aa (v:=.any) ?_|(first|(refine ad ?_ (hcf _) ?_)|(refine ab ?_ (fun _=>hcf _) ?_))|((first|apply Ca|apply Cb)<;>intro hb)|refine Ai (by omega) ?_|(apply Ai<;>intro hb)
        (refine C7 bR (fun x:PSt=>l.length-x.k) (fun x=>x.inv l) (b0+16) (fun x=>[(4,.ptr b0 0 0),(5,.fnb 101 [.ptr b0 0 0]),(6,.fnb 102 [.ptr b0 0 0]),(7,.fnb 103 [.ptr b0 0 0]),(25,.sl false 4 (l.map bE)),(26,.int .i64 l.length),(27,.int .i64 x.k)]) (fun x=>[(b0,⟨3,[eu (b0+1) (b0+2) x.g x.last]⟩),(b0+1,⟨6,x.g.v.map aZ⟩),(b0+2,⟨1,(x.g.opn++x.junk).map ed⟩)]) (PSt.mk 0 (Gr.mk [] []) [] 0) [some (b0+128),none,none] ?_ ?_ ?_ ?_;rotate_left 1;(focus (show b0<=_;omega));(focus (refine⟨?_,?_⟩<;>(try simp only[aX,kf,eu,aF,ae,aQ,aL,Bool.and_self,Bool.false_and,Lo,List.append_nil,List.length_nil,Lm,ai,seval,ah,ao])<;>(try omega)));rotate_left 1)
        · exact⟨Nat.zero_le _,Bn,rfl⟩
        · rintro ⟨k,g,junk,last⟩ hinv
          have hinv':=hinv
          obtain⟨hk,hg,hgo⟩:=hinv'
          simp only at hk hg hgo
          by_cases hlt:k<l.length
          · obtain ⟨t,ht⟩:∃ t,l[k]? = some t:=⟨_,List.getElem?_eq_getElem hlt⟩
            have hat:=Fg ht
            have hd1:decide (k<l.length)=true:=decide_eq_true hlt
            have hwk:IntKind.i64.wrap ((k:Int)+1)=((k+1:Nat):Int):=bf
            obtain⟨hto,h30⟩:=hs t (List.mem_of_getElem? ht)
            have htok:cR t=true:=by
              cases hh:cR t with
              | true=>rfl
              | false=>rw[List.any_eq_true.2 ⟨t,List.mem_of_getElem? ht,by simp[hh]⟩]at hany;cases hany
            have hvl:=hg.len
            have herr:∀ e:Int,(stepG g t (last==4)).2=e->e≠0->cB l=e:=fun e h1 h2=>Hi h512 hany (NJ hinv ht h1 h2) h2
            have hnext:∀(g':Gr) (junk':List Nat),stepG g t (last==4)=(g',0)->PSt.inv l ⟨k+1,g',junk',t.kind⟩:=fun g' junk' h=>JL hinv ht h junk'
            rcases C3 htok with hk1|hk1|hk1|hk1
            · have q4:((t.kind:Int)==4)=false:=beq_false_of_ne (by omega)
              have q2:((t.kind:Int)==2)=false:=beq_false_of_ne (by omega)
              have hs0:stepG g t (last==4)=(if (g.opn.isEmpty && !g.v.isEmpty)=true then (g,80) else if 12<=g.opn.length then (g,100) else (⟨jj g (fP t),if t.kind=1 then g.opn++[g.v.length] else g.opn⟩,0)):=by unfold stepG;rw[if_neg (by omega),if_neg (by omega)]
              by_cases c1:(g.opn.isEmpty && !g.v.isEmpty)=true
              · have hst:stepG g t (last==4)=(g,80):=by rw[hs0,if_pos c1]
                have he:=herr 80 (by rw[hst]) (by omega)
                have hsn:=fun (M':ap) (a:M' b0=some ⟨3,[eu (b0+1) (b0+2) g last]⟩) (b:M' (b0+1)=some ⟨6,g.v.map aZ⟩) (c:M' (b0+2)=some ⟨1,(g.opn++junk).map ed⟩) (d:∀ w,(M' w).isSome=true->w∈[b0,b0+1,b0+2]) (m:Nat)=>sH g k hg (by omega) junk last b0 (b0+1) (b0+2) t 80 (.inl ⟨c1,rfl⟩) M' m (by omega) (by omega) (by omega) a b c d
                rcases hve with ⟨_,rfl,rfl⟩|⟨h0,_⟩
                · rw[he]
                  repeat' first|simp only[ak,aj,zF,al,ay,bE,eu,hat,hlt,hd1,fh,q4,q2,Lm,ai,seval,ah]|exact rfl|refine aa (v:=.any) ?_|((refine eF (fi:=?_) ?_ ?_ [b0,b0+1,b0+2] (hsn _ ?_ ?_ ?_ ag _) ?_ ?_);rotate_left 1)|((first|apply Ca|apply Cb)<;>intro hb)|refine Ai (by omega) ?_|(apply Ai<;>intro hb)
                  all_goals ((refine Fin.pure ?_ ?_ ?_<;>simp only[al,aF,zF,ai,seval,ah]))
                · omega
              · have c1':(g.opn.isEmpty && !g.v.isEmpty)=false:=by simpa using c1
                by_cases c2:12<=g.opn.length
                · have hst:stepG g t (last==4)=(g,100):=by rw[hs0,if_neg c1,if_pos c2]
                  have he:=herr 100 (by rw[hst]) (by omega)
                  have hsn:=fun (M':ap) (a:M' b0=some ⟨3,[eu (b0+1) (b0+2) g last]⟩) (b:M' (b0+1)=some ⟨6,g.v.map aZ⟩) (c:M' (b0+2)=some ⟨1,(g.opn++junk).map ed⟩) (d:∀ w,(M' w).isSome=true->w∈[b0,b0+1,b0+2]) (m:Nat)=>sH g k hg (by omega) junk last b0 (b0+1) (b0+2) t 100 (.inr ⟨c1',c2,rfl⟩) M' m (by omega) (by omega) (by omega) a b c d
                  rcases hve with ⟨_,rfl,rfl⟩|⟨h0,_⟩
                  · rw[he]
                    repeat' first|simp only[ak,aj,zF,al,ay,bE,eu,hat,hlt,hd1,fh,q4,q2,Lm,ai,seval,ah]|exact rfl|refine aa (v:=.any) ?_|((refine eF (fi:=?_) ?_ ?_ [b0,b0+1,b0+2] (hsn _ ?_ ?_ ?_ ag _) ?_ ?_);rotate_left 1)|((first|apply Ca|apply Cb)<;>intro hb)|refine Ai (by omega) ?_|(apply Ai<;>intro hb)
                    all_goals ((refine Fin.pure ?_ ?_ ?_<;>simp only[al,aF,zF,ai,seval,ah]))
                  · omega
                · have hst:stepG g t (last==4)=(⟨jj g (fP t),g.opn++[g.v.length]⟩,0):=by rw[hs0,if_neg c1,if_neg c2,if_pos hk1]
                  have hal:=gw g (fP t)
                  have ham:=sW g (fP t)
                  have hat3:((co t.attrs).map bN).take t.attrs.length=(co t.attrs).map bN:=List.take_of_length_le (by simp[co])
                  have hgl:=jp t.attrs
                  have hsy0:=fun (M':ap) (a:M' b0=some ⟨3,[eu (b0+1) (b0+2) g last]⟩) (b:M' (b0+1)=some ⟨6,g.v.map aZ⟩) (c:M' (b0+2)=some ⟨1,(g.opn++junk).map ed⟩) (d:∀ w,(M' w).isSome=true->w∈[b0,b0+1,b0+2]) (m:Nat) (h1:b0<m) (h2:b0+1<m) (h3:b0+2<m)=>zR g k hg (by omega) junk last b0 (b0+1) (b0+2) t (by omega) c1' (by omega) M' m (by omega) (by omega) (by omega) a b c d h1 h2 h3
                  have hsy:=hsy0
                  simp only[Et,if_pos hk1]at hsy
                  repeat' first|simp only[ak,aj,zF,al,ay,bE,eu,hat,hlt,hd1,fh,q4,q2,Lm,ai,seval,ah]|exact rfl|refine aa (v:=.any) ?_|((refine eF (fi:=?_) ?_ ?_ [b0,b0+1,b0+2] (hsy _ ?_ ?_ ?_ ag _ (by omega) (by omega) (by omega)) ?_ ?_);rotate_left 1)|((first|apply Ca|apply Cb)<;>intro hb)|refine Ai (by omega) ?_|(apply Ai<;>intro hb)
                  all_goals ((refine fx bR (PSt.mk (k+1) (Gr.mk (jj g (fP t)) (g.opn++[g.v.length])) [] t.kind) [some b0,some (b0+256),some (b0+258)] ?_ ?_ ?_ ?_;rotate_left 2;(focus (show b0<=_;omega));(focus (refine⟨?_,?_⟩<;>(try simp only[aX,kf,bE,eu,hwk,hal,ham,hat3,hgl,Q8,A2,aq,jn,iK _ _ (ae _),gN,fY _ _ (ae _),rf,ed,List.map_append,Lc,Lo,List.append_nil,List.length_append,List.length_cons,List.length_nil,bz,aF,ae,aQ,aL,Bool.and_self,Bool.false_and,Lm,ai,seval,ah,ao])<;>(try omega)))))
                  all_goals (first|(show l.length-(k+1)<l.length-k;omega)|exact hnext _ _ hst|skip)
            · have q4:((t.kind:Int)==4)=false:=beq_false_of_ne (by omega)
              have q2:((t.kind:Int)==2)=false:=beq_false_of_ne (by omega)
              have hs0:stepG g t (last==4)=(if (g.opn.isEmpty && !g.v.isEmpty)=true then (g,80) else if 12<=g.opn.length then (g,100) else (⟨jj g (fP t),if t.kind=1 then g.opn++[g.v.length] else g.opn⟩,0)):=by unfold stepG;rw[if_neg (by omega),if_neg (by omega)]
              by_cases c1:(g.opn.isEmpty && !g.v.isEmpty)=true
              · have hst:stepG g t (last==4)=(g,80):=by rw[hs0,if_pos c1]
                have he:=herr 80 (by rw[hst]) (by omega)
                have hsn:=fun (M':ap) (a:M' b0=some ⟨3,[eu (b0+1) (b0+2) g last]⟩) (b:M' (b0+1)=some ⟨6,g.v.map aZ⟩) (c:M' (b0+2)=some ⟨1,(g.opn++junk).map ed⟩) (d:∀ w,(M' w).isSome=true->w∈[b0,b0+1,b0+2]) (m:Nat)=>sH g k hg (by omega) junk last b0 (b0+1) (b0+2) t 80 (.inl ⟨c1,rfl⟩) M' m (by omega) (by omega) (by omega) a b c d
                rcases hve with ⟨_,rfl,rfl⟩|⟨h0,_⟩
                · rw[he]
                  repeat' first|simp only[ak,aj,zF,al,ay,bE,eu,hat,hlt,hd1,fh,q4,q2,Lm,ai,seval,ah]|exact rfl|refine aa (v:=.any) ?_|((refine eF (fi:=?_) ?_ ?_ [b0,b0+1,b0+2] (hsn _ ?_ ?_ ?_ ag _) ?_ ?_);rotate_left 1)|((first|apply Ca|apply Cb)<;>intro hb)|refine Ai (by omega) ?_|(apply Ai<;>intro hb)
                  all_goals ((refine Fin.pure ?_ ?_ ?_<;>simp only[al,aF,zF,ai,seval,ah]))
                · omega
              · have c1':(g.opn.isEmpty && !g.v.isEmpty)=false:=by simpa using c1
                by_cases c2:12<=g.opn.length
                · have hst:stepG g t (last==4)=(g,100):=by rw[hs0,if_neg c1,if_pos c2]
                  have he:=herr 100 (by rw[hst]) (by omega)
                  have hsn:=fun (M':ap) (a:M' b0=some ⟨3,[eu (b0+1) (b0+2) g last]⟩) (b:M' (b0+1)=some ⟨6,g.v.map aZ⟩) (c:M' (b0+2)=some ⟨1,(g.opn++junk).map ed⟩) (d:∀ w,(M' w).isSome=true->w∈[b0,b0+1,b0+2]) (m:Nat)=>sH g k hg (by omega) junk last b0 (b0+1) (b0+2) t 100 (.inr ⟨c1',c2,rfl⟩) M' m (by omega) (by omega) (by omega) a b c d
                  rcases hve with ⟨_,rfl,rfl⟩|⟨h0,_⟩
                  · rw[he]
                    repeat' first|simp only[ak,aj,zF,al,ay,bE,eu,hat,hlt,hd1,fh,q4,q2,Lm,ai,seval,ah]|exact rfl|refine aa (v:=.any) ?_|((refine eF (fi:=?_) ?_ ?_ [b0,b0+1,b0+2] (hsn _ ?_ ?_ ?_ ag _) ?_ ?_);rotate_left 1)|((first|apply Ca|apply Cb)<;>intro hb)|refine Ai (by omega) ?_|(apply Ai<;>intro hb)
                    all_goals ((refine Fin.pure ?_ ?_ ?_<;>simp only[al,aF,zF,ai,seval,ah]))
                  · omega
                · have hst:stepG g t (last==4)=(⟨jj g (fP t),g.opn⟩,0):=by rw[hs0,if_neg c1,if_neg c2,if_neg (by omega)]
                  have hal:=gw g (fP t)
                  have ham:=sW g (fP t)
                  have hat3:((co t.attrs).map bN).take t.attrs.length=(co t.attrs).map bN:=List.take_of_length_le (by simp[co])
                  have hgl:=jp t.attrs
                  have hsy0:=fun (M':ap) (a:M' b0=some ⟨3,[eu (b0+1) (b0+2) g last]⟩) (b:M' (b0+1)=some ⟨6,g.v.map aZ⟩) (c:M' (b0+2)=some ⟨1,(g.opn++junk).map ed⟩) (d:∀ w,(M' w).isSome=true->w∈[b0,b0+1,b0+2]) (m:Nat) (h1:b0<m) (h2:b0+1<m) (h3:b0+2<m)=>zR g k hg (by omega) junk last b0 (b0+1) (b0+2) t (by omega) c1' (by omega) M' m (by omega) (by omega) (by omega) a b c d h1 h2 h3
                  have hsy:=hsy0
                  simp only[Et,if_neg (show ¬ t.kind=1 by omega)]at hsy
                  repeat' first|simp only[ak,aj,zF,al,ay,bE,eu,hat,hlt,hd1,fh,q4,q2,Lm,ai,seval,ah]|exact rfl|refine aa (v:=.any) ?_|((refine eF (fi:=?_) ?_ ?_ [b0,b0+1,b0+2] (hsy _ ?_ ?_ ?_ ag _ (by omega) (by omega) (by omega)) ?_ ?_);rotate_left 1)|((first|apply Ca|apply Cb)<;>intro hb)|refine Ai (by omega) ?_|(apply Ai<;>intro hb)
                  all_goals ((refine fx bR (PSt.mk (k+1) (Gr.mk (jj g (fP t)) (g.opn)) junk t.kind) [some b0,some (b0+256),some (b0+2)] ?_ ?_ ?_ ?_;rotate_left 2;(focus (show b0<=_;omega));(focus (refine⟨?_,?_⟩<;>(try simp only[aX,kf,bE,eu,hwk,hal,ham,hat3,hgl,Q8,A2,aq,jn,iK _ _ (ae _),gN,fY _ _ (ae _),rf,ed,List.map_append,Lc,Lo,List.append_nil,List.length_append,List.length_cons,List.length_nil,bz,aF,ae,aQ,aL,Bool.and_self,Bool.false_and,Lm,ai,seval,ah,ao])<;>(try omega)))))
                  all_goals (first|(show l.length-(k+1)<l.length-k;omega)|exact hnext _ _ hst|skip)
            · have q4:((t.kind:Int)==4)=false:=beq_false_of_ne (by omega)
              have q2:((t.kind:Int)==2)=true:=by rw[hk1];rfl
              by_cases hln:iS g=some t.name
              · have hst:stepG g t (last==4)=(⟨g.v,g.opn.dropLast⟩,0):=by unfold stepG;rw[if_neg (by omega),if_pos hk1,if_pos hln]
                obtain⟨kl,hkl,_⟩:=Option.bind_eq_some_iff.1 hln
                have hne:=(mX hkl).1
                have hdl:g.opn.dropLast.length=g.opn.length-1:=by simp
                have hjk:g.opn.dropLast++(kl::junk)=g.opn++junk:=by
                  have:g.opn=g.opn.dropLast++[kl]:=by
                    rw[List.getLast?_eq_some_getLast hne]at hkl
                    cases hkl
                    exact(List.dropLast_concat_getLast hne).symm
                  conv=>rhs;rw[this]
                  simp
                have hsy:=fun (M':ap) (a:M' b0=some ⟨3,[eu (b0+1) (b0+2) g last]⟩) (b:M' (b0+1)=some ⟨6,g.v.map aZ⟩) (c:M' (b0+2)=some ⟨1,(g.opn++junk).map ed⟩) (d:∀ w,(M' w).isSome=true->w∈[b0,b0+1,b0+2]) (m:Nat)=>Ly g k hg (by omega) junk last b0 (b0+1) (b0+2) t hln M' m (by omega) (by omega) (by omega) a b c d
                repeat' first|simp only[ak,aj,zF,al,ay,bE,eu,hat,hlt,hd1,q4,q2,Lm,ai,seval,ah]|exact rfl|refine aa (v:=.any) ?_|((refine eF (fi:=?_) ?_ ?_ [b0,b0+1,b0+2] (hsy _ ?_ ?_ ?_ ag _) ?_ ?_);rotate_left 1)|((first|apply Ca|apply Cb)<;>intro hb)|refine Ai (by omega) ?_|(apply Ai<;>intro hb)
                all_goals ((refine fx bR (PSt.mk (k+1) (Gr.mk g.v g.opn.dropLast) (kl::junk) t.kind) [some b0,some (b0+1),some (b0+2)] ?_ ?_ ?_ ?_;rotate_left 2;(focus (show b0<=_;omega));(focus (refine⟨?_,?_⟩<;>(try simp only[aX,kf,bE,eu,hwk,hdl,hjk,aF,ae,aQ,aL,Bool.and_self,Bool.false_and,Lm,ai,seval,ah,ao])<;>(try omega)))))
                all_goals (first|(show l.length-(k+1)<l.length-k;omega)|exact hnext _ _ hst|skip)
              · have hst:stepG g t (last==4)=(g,80):=by unfold stepG;rw[if_neg (by omega),if_pos hk1,if_neg hln]
                have he:=herr 80 (by rw[hst]) (by omega)
                have hsn:=fun (M':ap) (a:M' b0=some ⟨3,[eu (b0+1) (b0+2) g last]⟩) (b:M' (b0+1)=some ⟨6,g.v.map aZ⟩) (c:M' (b0+2)=some ⟨1,(g.opn++junk).map ed⟩) (d:∀ w,(M' w).isSome=true->w∈[b0,b0+1,b0+2]) (m:Nat)=>Oz g k hg (by omega) junk last b0 (b0+1) (b0+2) t hln M' m (by omega) (by omega) (by omega) a b c d
                rcases hve with ⟨_,rfl,rfl⟩|⟨h0,_⟩
                · rw[he]
                  repeat' first|simp only[ak,aj,zF,al,ay,bE,eu,hat,hlt,hd1,fh,q4,q2,Lm,ai,seval,ah]|exact rfl|refine aa (v:=.any) ?_|((refine eF (fi:=?_) ?_ ?_ [b0,b0+1,b0+2] (hsn _ ?_ ?_ ?_ ag _) ?_ ?_);rotate_left 1)|((first|apply Ca|apply Cb)<;>intro hb)|refine Ai (by omega) ?_|(apply Ai<;>intro hb)
                  all_goals ((refine Fin.pure ?_ ?_ ?_<;>simp only[al,aF,zF,ai,seval,ah]))
                · omega
            · have q4:((t.kind:Int)==4)=true:=by rw[hk1];rfl
              have htl:t.text.length<=be:=by have:=hto.2.2.1;unfold be;omega
              have hs0:stepG g t (last==4)=(if ((last==4)||(g.opn.isEmpty && !oz t.text))=true then (g,80) else if g.opn.isEmpty=true then (g,0) else (⟨jj g (iY t.text),g.opn⟩,0)):=by unfold stepG;rw[if_pos hk1]
              by_cases c1:lm g t last=true
              · have hst:stepG g t (last==4)=(g,80):=by exact hs0.trans (if_pos c1)
                have he:=herr 80 (by rw[hst]) (by omega)
                have hsn:=fun (M':ap) (a:M' b0=some ⟨3,[eu (b0+1) (b0+2) g last]⟩) (b:M' (b0+1)=some ⟨6,g.v.map aZ⟩) (c:M' (b0+2)=some ⟨1,(g.opn++junk).map ed⟩) (d:∀ w,(M' w).isSome=true->w∈[b0,b0+1,b0+2]) (m:Nat)=>BI g k hg (by omega) junk last b0 (b0+1) (b0+2) t htl 80 (.inl ⟨c1,rfl⟩) M' m (by omega) (by omega) (by omega) a b c d
                rcases hve with ⟨_,rfl,rfl⟩|⟨h0,_⟩
                · rw[he]
                  repeat' first|simp only[ak,aj,zF,al,ay,bE,eu,hat,hlt,hd1,fh,q4,Lm,ai,seval,ah]|exact rfl|refine aa (v:=.any) ?_|((refine eF (fi:=?_) ?_ ?_ [b0,b0+1,b0+2] (hsn _ ?_ ?_ ?_ ag _) ?_ ?_);rotate_left 1)|((first|apply Ca|apply Cb)<;>intro hb)|refine Ai (by omega) ?_|(apply Ai<;>intro hb)
                  all_goals ((refine Fin.pure ?_ ?_ ?_<;>simp only[al,aF,zF,ai,seval,ah]))
                · omega
              · have c1':lm g t last=false:=by simpa using c1
                by_cases c2:g.opn=[]
                · have hst:stepG g t (last==4)=(g,0):=by exact hs0.trans ((if_neg c1).trans (if_pos (by rw[c2];rfl)))
                  have hsy:=fun (M':ap) (a:M' b0=some ⟨3,[eu (b0+1) (b0+2) g last]⟩) (b:M' (b0+1)=some ⟨6,g.v.map aZ⟩) (c:M' (b0+2)=some ⟨1,(g.opn++junk).map ed⟩) (d:∀ w,(M' w).isSome=true->w∈[b0,b0+1,b0+2]) (m:Nat)=>BI g k hg (by omega) junk last b0 (b0+1) (b0+2) t htl 0 (.inr ⟨c1',c2,rfl⟩) M' m (by omega) (by omega) (by omega) a b c d
                  repeat' first|simp only[ak,aj,zF,al,ay,bE,eu,hat,hlt,hd1,fh,q4,Lm,ai,seval,ah]|exact rfl|refine aa (v:=.any) ?_|((refine eF (fi:=?_) ?_ ?_ [b0,b0+1,b0+2] (hsy _ ?_ ?_ ?_ ag _) ?_ ?_);rotate_left 1)|((first|apply Ca|apply Cb)<;>intro hb)|refine Ai (by omega) ?_|(apply Ai<;>intro hb)
                  all_goals ((refine fx bR (PSt.mk (k+1) g junk t.kind) [some b0,some (b0+1),some (b0+2)] ?_ ?_ ?_ ?_;rotate_left 2;(focus (show b0<=_;omega));(focus (refine⟨?_,?_⟩<;>(try simp only[aX,kf,bE,eu,hwk,aF,ae,aQ,aL,Bool.and_self,Bool.false_and,Lm,ai,seval,ah,ao])<;>(try omega)))))
                  all_goals (first|(show l.length-(k+1)<l.length-k;omega)|exact hnext _ _ hst|skip)
                · have c3:g.opn.isEmpty=false:=by simpa using c2
                  have c4:(last==4)=false:=by unfold lm at c1';simp only[Bool.or_eq_false_iff]at c1';exact c1'.1
                  have hst:stepG g t (last==4)=(⟨jj g (iY t.text),g.opn⟩,0):=by exact hs0.trans ((if_neg c1).trans (if_neg (by simp[c3])))
                  have hal:=gw g (iY t.text)
                  have ham:=sW g (iY t.text)
                  have hsy:=fun (M':ap) (a:M' b0=some ⟨3,[eu (b0+1) (b0+2) g last]⟩) (b:M' (b0+1)=some ⟨6,g.v.map aZ⟩) (c:M' (b0+2)=some ⟨1,(g.opn++junk).map ed⟩) (d:∀ w,(M' w).isSome=true->w∈[b0,b0+1,b0+2]) (m:Nat) (h1:b0<m) (h2:b0+1<m) (h3:b0+2<m)=>Ib g k hg (by omega) junk last b0 (b0+1) (b0+2) t c4 c3 M' m (by omega) (by omega) (by omega) a b c d h1 h2 h3
                  repeat' first|simp only[ak,aj,zF,al,ay,bE,eu,hat,hlt,hd1,fh,q4,Lm,ai,seval,ah]|exact rfl|refine aa (v:=.any) ?_|((refine eF (fi:=?_) ?_ ?_ [b0,b0+1,b0+2] (hsy _ ?_ ?_ ?_ ag _ (by omega) (by omega) (by omega)) ?_ ?_);rotate_left 1)|((first|apply Ca|apply Cb)<;>intro hb)|refine Ai (by omega) ?_|(apply Ai<;>intro hb)
                  all_goals ((refine fx bR (PSt.mk (k+1) (Gr.mk (jj g (iY t.text)) g.opn) junk t.kind) [some b0,some (b0+256),some (b0+2)] ?_ ?_ ?_ ?_;rotate_left 2;(focus (show b0<=_;omega));(focus (refine⟨?_,?_⟩<;>(try simp only[aX,kf,bE,eu,hwk,hal,ham,Kv,jn,iK _ _ (ae _),gN,fY _ _ (ae _),rf,Lo,bz,aF,ae,aQ,aL,Bool.and_self,Bool.false_and,Lm,ai,seval,ah,ao])<;>(try omega)))))
                  all_goals (first|(show l.length-(k+1)<l.length-k;omega)|exact hnext _ _ hst|skip)
          · have hke:k=l.length:=by omega
            subst hke
            have hd1:decide (l.length<l.length)=false:=bo
            rw[List.drop_length,x8]at hgo
            have hvl:=hg.len
            have hv0:((g.v.length:Int)==0)=g.v.isEmpty:=m7 _
            have ho0:decide ((0:Int)<(g.opn.length:Int)) = !g.opn.isEmpty:=by
              cases h:g.opn with
              | nil=>rfl
              | cons a b=>simp
            have htn:=fV g.v
            by_cases hx:g.v.isEmpty=true\/g.opn.isEmpty=false
            · have he:=Hj h512 hany hgo hx
              rcases hve with ⟨_,rfl,rfl⟩|⟨h0,_⟩
              · rw[he]
                generalize hA:g.v.isEmpty=bA at hx hv0
                generalize hB:g.opn.isEmpty=bB at hx ho0
                cases bA<;>cases bB
                all_goals (try (exfalso;simp at hx;done))
                all_goals (
                  repeat' first|simp only[ak,aj,zF,al,eu,hd1,hv0,ho0,Bt,Bf,Lm,ai,seval,ah]|exact rfl|refine aa (v:=.any) ?_|((first|apply Ca|apply Cb)<;>intro hb)|refine Ai (by omega) ?_|(apply Ai<;>intro hb)
                  all_goals ((refine Fin.pure ?_ ?_ ?_<;>simp only[al,aF,zF,ai,seval,ah])))
              · omega
            · obtain⟨he,hpt⟩:=KY h512 hany hgo hx
              rcases hve with ⟨h0,_⟩|⟨_,rfl,rfl⟩
              · omega
              · rw[hpt]
                generalize hA:g.v.isEmpty=bA at hx hv0
                generalize hB:g.opn.isEmpty=bB at hx ho0
                cases bA<;>cases bB
                all_goals (try (exfalso;simp at hx;done))
                all_goals (
                  repeat' first|simp only[ak,aj,zF,al,eu,hd1,hv0,ho0,Bt,Bf,Lm,ai,seval,ah]|exact rfl|refine aa (v:=.any) ?_|((first|apply Ca|apply Cb)<;>intro hb)|refine Ai (by omega) ?_|(apply Ai<;>intro hb)
                  all_goals ((refine Fin.give [(b0+1,some 0)] [] ?_ ?_ ?_ ?_ ?_ (aO qb (by simp[aS,tgt]))<;>(try simp only[zF,al,aF,ae,dM,ai,seval,ah])<;>(try simp only[ao])<;>(try omega))))
      exact⟨fun h=>main _ _ (.inl ⟨h,rfl,rfl⟩),fun h=>main _ _ (.inr ⟨h,rfl,rfl⟩)⟩
def g8 (L:List Nd)(e:Int):V:=.tup [.sl false 6 (L.map aZ),.int .i64 e]
def KX (l:List Tk)(hl:l.length<=600)(hs:∀ t∈l,t.okTo 1000000/\t.attrs.length<=30)(nm:Nat):Ev cx 58 nm [.sl false 4 (l.map bE)] ap.nil (g8 (dy l) (cB l)) []:=by
 obtain⟨h1,h2⟩:=KZ l hl hs nm
 by_cases h:cB l=0
 ·have h3:=h2 h
  rw[h]
  have hpl:=ae (dy l)
  have htk:((dy l).map aZ).take (dy l).length=(dy l).map aZ:=ct _ _
  refine Ev.freeze h3 ?_ ?_
  ·simp only[ak,aj,al,hpl,htk,Lm,ai,seval,ah]<;>omega
  ·unfold g8
   simp only[ak,aj,al,hpl,htk,Lm,ai,seval,ah]
 ·have h3:=h1 h
  have hT:dy l=[]:=by unfold dy;rw[if_neg h]
  rw[hT]
  refine Ev.res_le h3 ?_
  unfold g8
  simp only[mZ,eJ,fK,b9,kI,Lo,and_self]
def MA (a:At):Nat:=min a.name.length 20000+min a.space.length 20000+min a.value.length 20000
def ml (l:List At):Nat:=(l.map MA).sum
def vp (x:Nd):Nat:=min x.name.length 20000+min x.space.length 20000+min x.text.length 20000
def CE (bytes:Nat):List Nd->Nat->Bool×Nat
 | [],n=>(false,n)
 | x::r,n=>if 30<x.attrs.length\/bytes<n+vp x then (true,n) else CE bytes r (n+vp x+ml x.attrs)
def mU (v:List Nd)(most bytes:Nat):Bool:=(CE bytes (v.take 600) 0).1||decide (most<v.length)||decide (bytes<(CE bytes (v.take 600) 0).2)
def Iv (a:At):MA a<=60000:=by unfold MA;omega
def Qr (x:Nd):vp x<=60000:=by unfold vp;omega
def Ei (l:List At):ml l<=60000*l.length:=by
 unfold ml
 induction l with
 | nil=>simp
 | cons a l ih=>have:=Iv a;simp only[Lc,List.sum_cons,List.length_cons];omega
def FB {l:List At}{k:Nat}{a:At}(h:l[k]? = some a):ml (l.take (k+1))=ml (l.take k)+MA a:=by
 obtain⟨hk,rfl⟩:=List.getElem?_eq_some_iff.1 h
 unfold ml
 rw[List.take_succ_eq_append_getElem hk,List.map_append,List.sum_append];simp
def Iy {l:List At}{a:At}(h:a∈l):MA a<=ml l:=by
 unfold ml
 induction l with
 | nil=>cases h
 | cons b l ih =>
  simp only[Lc,List.sum_cons]
  rcases List.mem_cons.1 h with rfl|h
  ·omega
  ·have:=ih h;omega
def wr {bytes:Nat} : ∀(v:List Nd) (n:Nat),(CE bytes v n).1=false->n<=(CE bytes v n).2 /\ ∀ x∈v,x.attrs.length<=30/\vp x+ml x.attrs<=(CE bytes v n).2
 | [],n,_=>⟨Nat.le_refl _,fun x hx=>by cases hx⟩
 | x::r,n,h=>by
  simp only[CE]at h ⊢
  split at h
  ·cases h
  ·rename_i hc
   rw[if_neg hc]
   obtain⟨h1,h2⟩:=wr r _ h
   refine⟨by omega,fun y hy=>?_⟩
   rcases List.mem_cons.1 hy with rfl|hy
   ·exact⟨by omega,by omega⟩
   ·exact h2 y hy
def vN {v:List Nd}{most bytes:Nat}(hm:most<=600)(hb:bytes<20000)(h:mU v most bytes=false):v.length<=most /\ ∀ x∈v,x.attrs.length<=30/\x.okTo 20000/\x.name.length+x.space.length+x.text.length<=bytes:=by
 unfold mU at h
 simp only[Bool.or_eq_false_iff,decide_eq_false_iff_not,Nat.not_lt]at h
 obtain⟨⟨h1,h2⟩,h3⟩:=h
 refine⟨h2,fun x hx=>?_⟩
 have ht:v.take 600=v:=List.take_of_length_le (by omega)
 rw[ht]at h1 h3
 obtain⟨_,h5⟩:=wr v 0 h1
 obtain⟨h6,h7⟩:=h5 x hx
 have hn:vp x<=bytes:=by omega
 have ha:ml x.attrs<=bytes:=by omega
 unfold vp at hn
 refine⟨h6,⟨?_,?_,?_,?_,fun a ha2=>?_⟩,by omega⟩
 ·omega
 ·omega
 ·omega
 ·omega
 ·have:=Iy ha2
  unfold MA at this
  exact⟨by omega,by omega,by omega⟩
def Mp:ml []=0:=rfl
structure GSt where
 k:Nat
 n:Nat
def CR (v:List Nd)(most bytes:Nat)(hm:most<=1000)(hb:bytes<=1000000)(hv:v.length<=be)(hok:∀ n∈v,n.okTo be)(nm:Nat):Ev cx 9 nm [.sl false 6 (v.map aZ),.int .i64 most,.int .i64 bytes] ap.nil (.bool (mU v most bytes)) []:=by
  have hv':=hv
  unfold be at hv'
  refine bi call9 func9 rfl (by kernel_rfl) rfl ?_;intro b0 hb0;have zF:=Ai results9 ntmps9
  repeat' first|simp only[ak,aj,zF,al,ai,seval,ah]|exact rfl|refine aa (v:=.any) ?_|refine aA (by decide +kernel) ?_|((first|apply Ca|apply Cb)<;>intro hb)|refine Ai (by omega) ?_|(apply Ai<;>intro hb)
  (refine aR bR (fun s:GSt=>v.length-s.k) (fun s=>s.k<=v.length/\s.k<=600/\CE bytes (v.take 600) 0=CE bytes ((v.take 600).drop s.k) s.n/\s.n<=bytes+1800000) (b0+16) (fun s=>[(0,.sl false 6 (v.map aZ)),(1,.int .i64 most),(2,.int .i64 bytes),(7,.int .i64 s.n),(8,.int .i64 s.k)]) (fun s=>[]) (⟨0,0⟩) [] ?_ ?_ ?_ ?_;rotate_left 1;(focus (show b0<=_;omega));(focus (refine⟨?_,?_⟩<;>(try simp only[aX,ae,Lm,ai,seval,ah,ao])<;>(try omega)));rotate_left 1)
  · exact⟨Nat.zero_le _,Nat.zero_le _,rfl,Nat.zero_le _⟩
  · rintro ⟨k,n⟩ ⟨hk,hk6,hinv,hn⟩
    dsimp only at hk hk6 hinv hn ⊢
    by_cases hlt:k<v.length/\k<600
    · obtain⟨h1,h2⟩:=hlt
      obtain⟨x,hx⟩:∃ x,v[k]? = some x:=⟨_,List.getElem?_eq_getElem h1⟩
      obtain⟨o1,o2,o3,o4,o5⟩:=hok x (List.mem_of_getElem? hx)
      unfold be at o1 o2 o3 o4
      have hat:=jg hx
      have hki:(k:Int)<(v.length:Int):=by omega
      have d1:decide ((k:Int)<(v.length:Int))=true:=cn
      have d2:decide (k<v.length)=true:=decide_eq_true h1
      have d3:decide ((k:Int)<600)=true:=cn
      have d4:decide (k<600)=true:=decide_eq_true h2
      have hdr:(v.take 600).drop k=x::(v.take 600).drop (k+1):=by
        have:(v.take 600)[k]? = some x:=by rw[List.getElem?_take,if_pos h2];exact hx
        obtain⟨hp,rfl⟩:=List.getElem?_eq_some_iff.1 this
        exact List.drop_eq_getElem_cons hp
      rw[hdr]at hinv
      have hnx:=Qr x
      have m1:min (x.name.length:Int) 20000=((min x.name.length 20000:Nat):Int):=by omega
      have m2:min (x.space.length:Int) 20000=((min x.space.length 20000:Nat):Int):=by omega
      have m3:min (x.text.length:Int) 20000=((min x.text.length 20000:Nat):Int):=by omega
      have hnd:vp x=min x.name.length 20000+min x.space.length 20000+min x.text.length 20000:=rfl
      generalize min x.name.length 20000=n1 at m1 hnd
      generalize min x.space.length 20000=n2 at m2 hnd
      generalize min x.text.length 20000=n3 at m3 hnd
      have w1:IntKind.i64.wrap ((n:Int)+n1)=((n+n1:Nat):Int):=by rw[bf];omega
      have w2:IntKind.i64.wrap (((n+n1:Nat):Int)+n2)=((n+(n1+n2):Nat):Int):=by rw[bf];omega
      have w3:IntKind.i64.wrap (((n+(n1+n2):Nat):Int)+n3)=((n+vp x:Nat):Int):=by rw[bf];omega
      have hwk:IntKind.i64.wrap ((k:Int)+1)=((k+1:Nat):Int):=bf
      by_cases hc:30<x.attrs.length\/bytes<n+vp x
      · have hg:CE bytes (v.take 600) 0=(true,n):=by rw[hinv];simp only[CE];rw[if_pos hc]
        have hr:mU v most bytes=true:=by unfold mU;rw[hg];rfl
        rw[hr]
        have e1:decide ((30:Int)<(x.attrs.length:Int))=decide (30<x.attrs.length):=by rw[Bool.eq_iff_iff];simp;omega
        have e2:decide ((bytes:Int)<((n+vp x:Nat):Int))=decide (bytes<n+vp x):=by rw[Bool.eq_iff_iff];simp;omega
        by_cases hc1:30<x.attrs.length
        · have q1:decide (30<x.attrs.length)=true:=decide_eq_true hc1
          rw[q1]at e1
          (repeat' first|simp only[ak,aj,zF,al,hat,aZ,h1,hki,d1,d2,d3,d4,m1,m2,m3,w1,w2,w3,e1,q1,Bt,Bf,Lm,ai,seval,ah]|exact rfl|refine aa (v:=.any) ?_|refine aA (by decide +kernel) ?_|((first|apply Ca|apply Cb)<;>intro hb)|refine Ai (by omega) ?_|(apply Ai<;>intro hb)|refine Fin.pure ?_ ?_ ?_|simp only[ao])
        · have q1:decide (30<x.attrs.length)=false:=decide_eq_false hc1
          have q2:decide (bytes<n+vp x)=true:=cn
          rw[q1]at e1
          rw[q2]at e2
          (repeat' first|simp only[ak,aj,zF,al,hat,aZ,h1,hki,d1,d2,d3,d4,m1,m2,m3,w1,w2,w3,e1,e2,q1,q2,Bt,Bf,Lm,ai,seval,ah]|exact rfl|refine aa (v:=.any) ?_|refine aA (by decide +kernel) ?_|((first|apply Ca|apply Cb)<;>intro hb)|refine Ai (by omega) ?_|(apply Ai<;>intro hb)|refine Fin.pure ?_ ?_ ?_|simp only[ao])
      · have e1:decide ((30:Int)<(x.attrs.length:Int))=false:=bo
        have e2:decide ((bytes:Int)<((n+vp x:Nat):Int))=false:=bo
        have q1:decide (30<x.attrs.length)=false:=bo
        have q2:decide (bytes<n+vp x)=false:=bo
        have hg:CE bytes (x::(v.take 600).drop (k+1)) n=CE bytes ((v.take 600).drop (k+1)) (n+vp x+ml x.attrs):=by simp only[CE];rw[if_neg hc]
        rw[hg]at hinv
        have hn1:n+vp x<=bytes:=by omega
        repeat' first|simp only[ak,aj,zF,al,hat,aZ,h1,hki,d1,d2,d3,d4,m1,m2,m3,w1,w2,w3,e1,e2,q1,q2,Bt,Bf,Lm,ai,seval,ah]|exact rfl|refine aa (v:=.any) ?_|refine aA (by decide +kernel) ?_|((first|apply Ca|apply Cb)<;>intro hb)|refine Ai (by omega) ?_|(apply Ai<;>intro hb)
        (refine aR bR (fun j:Nat=>x.attrs.length-j) (fun j=>j<=x.attrs.length) (b0+16) (fun j=>[(0,.sl false 6 (v.map aZ)),(1,.int .i64 most),(2,.int .i64 bytes),(7,.int .i64 ((n+vp x+ml (x.attrs.take j):Nat):Int)),(8,.int .i64 k),(9,.int .i64 j)]) (fun j=>[]) (0) [] ?_ ?_ ?_ ?_;rotate_left 1;(focus (show b0<=_;omega));(focus (refine⟨?_,?_⟩<;>(try simp only[aX,ae,Mp,List.take_zero,Nat.add_zero,Lm,ai,seval,ah,ao])<;>(try omega)));rotate_left 1)
        · exact Nat.zero_le _
        · intro j hj
          by_cases hja:j<x.attrs.length
          · obtain⟨a,ha⟩:∃ a,x.attrs[j]? = some a:=⟨_,List.getElem?_eq_getElem hja⟩
            obtain⟨p1,p2,p3⟩:=o5 a (List.mem_of_getElem? ha)
            unfold be at p1 p2 p3
            have haa:=rO ha
            have f1:decide ((j:Int)<(x.attrs.length:Int))=true:=cn
            have f2:decide (j<x.attrs.length)=true:=decide_eq_true hja
            have hji:(j:Int)<(x.attrs.length:Int):=by omega
            have hsum:=Ei (x.attrs.take j)
            have hjl:(x.attrs.take j).length<=30:=by rw[List.length_take];omega
            have hts:=FB ha
            have haN:=Iv a
            generalize hN:n+vp x+ml (x.attrs.take j)=N
            have hN1:n+vp x+ml (x.attrs.take (j+1))=N+MA a:=by omega
            have hNb:N<=bytes+1800000:=by omega
            have m4:min (a.name.length:Int) 20000=((min a.name.length 20000:Nat):Int):=by omega
            have m5:min (a.space.length:Int) 20000=((min a.space.length 20000:Nat):Int):=by omega
            have m6:min (a.value.length:Int) 20000=((min a.value.length 20000:Nat):Int):=by omega
            have had:MA a=min a.name.length 20000+min a.space.length 20000+min a.value.length 20000:=rfl
            generalize min a.name.length 20000=n4 at m4 had
            generalize min a.space.length 20000=n5 at m5 had
            generalize min a.value.length 20000=n6 at m6 had
            have v1:IntKind.i64.wrap ((N:Int)+n4)=((N+n4:Nat):Int):=by rw[bf];omega
            have v2:IntKind.i64.wrap (((N+n4:Nat):Int)+n5)=((N+(n4+n5):Nat):Int):=by rw[bf];omega
            have v3:IntKind.i64.wrap (((N+(n4+n5):Nat):Int)+n6)=((N+MA a:Nat):Int):=by rw[bf];omega
            have hwj:IntKind.i64.wrap ((j:Int)+1)=((j+1:Nat):Int):=bf
            repeat' first|simp only[ak,aj,zF,al,hat,aZ,haa,bN,h1,hki,hja,hji,f1,f2,m4,m5,m6,v1,v2,v3,hwj,Lm,ai,seval,ah]|exact rfl|refine aa (v:=.any) ?_|refine aA (by decide +kernel) ?_|((first|apply Ca|apply Cb)<;>intro hb)|refine Ai (by omega) ?_|(apply Ai<;>intro hb)
            all_goals ((refine aD bR (j+1) [] ?_ ?_ ?_ ?_;rotate_left 2;(focus (show b0<=_;omega));(focus (refine⟨?_,?_⟩<;>(try simp only[aX,ae,hwj,hN1,Lm,ai,seval,ah,ao])<;>(try omega)))))
            all_goals (first|(show x.attrs.length-(j+1)<x.attrs.length-j;omega)|exact hja|skip)
          · have hje:j=x.attrs.length:=by omega
            subst hje
            have f1:decide ((x.attrs.length:Int)<(x.attrs.length:Int))=false:=bo
            have f2:decide (x.attrs.length<x.attrs.length)=false:=bo
            have hsum:=Ei x.attrs
            have htl:x.attrs.take x.attrs.length=x.attrs:=List.take_length
            rw[htl]
            repeat' first|simp only[ak,aj,zF,al,hat,aZ,h1,hki,f1,f2,hwk,Lm,ai,seval,ah]|exact rfl|refine aa (v:=.any) ?_|refine aA (by decide +kernel) ?_|((first|apply Ca|apply Cb)<;>intro hb)|refine Ai (by omega) ?_|(apply Ai<;>intro hb)
            all_goals ((refine aD bR (⟨k+1,n+vp x+ml x.attrs⟩) [] ?_ ?_ ?_ ?_;rotate_left 2;(focus (show b0<=_;omega));(focus (refine⟨?_,?_⟩<;>(try simp only[aX,ae,hwk,Lm,ai,seval,ah,ao])<;>(try omega)))))
            all_goals (first|(show v.length-(k+1)<v.length-k;omega)|exact⟨h1,h2,hinv,by show n+vp x+ml x.attrs<=_;omega⟩|skip)
    · have hdr:(v.take 600).drop k=[]:=List.drop_of_length_le (by rw[List.length_take];omega)
      rw[hdr]at hinv
      have hg:CE bytes (v.take 600) 0=(false,n):=hinv
      have hr:mU v most bytes=(decide (most<v.length)||decide (bytes<n)):=by unfold mU;rw[hg];rfl
      rw[hr]
      have e1:decide ((most:Int)<(v.length:Int))=decide (most<v.length):=by rw[Bool.eq_iff_iff];simp
      have e2:decide ((bytes:Int)<(n:Int))=decide (bytes<n):=by rw[Bool.eq_iff_iff];simp
      by_cases h1:k<v.length
      · have d1:decide ((k:Int)<(v.length:Int))=true:=cn
        have d2:decide (k<v.length)=true:=decide_eq_true h1
        have d3:decide ((k:Int)<600)=false:=bo
        have d4:decide (k<600)=false:=bo
        (repeat' first|simp only[ak,aj,zF,al,d1,d2,d3,d4,e1,e2,Lm,ai,seval,ah]|exact rfl|refine aa (v:=.any) ?_|refine aA (by decide +kernel) ?_|((first|apply Ca|apply Cb)<;>intro hb)|refine Ai (by omega) ?_|(apply Ai<;>intro hb)|refine Fin.pure ?_ ?_ ?_|simp only[ao])
      · have d1:decide ((k:Int)<(v.length:Int))=false:=bo
        have d2:decide (k<v.length)=false:=decide_eq_false h1
        (repeat' first|simp only[ak,aj,zF,al,d1,d2,e1,e2,Lm,ai,seval,ah]|exact rfl|refine aa (v:=.any) ?_|refine aA (by decide +kernel) ?_|((first|apply Ca|apply Cb)<;>intro hb)|refine Ai (by omega) ?_|(apply Ai<;>intro hb)|refine Fin.pure ?_ ?_ ?_|simp only[ao])
end Go.Proofs.YtlnlopnpcmahgaaGreatDoor
