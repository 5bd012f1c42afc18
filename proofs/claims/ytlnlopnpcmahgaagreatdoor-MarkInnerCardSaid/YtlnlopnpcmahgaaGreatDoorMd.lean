/-
 Texts joined: XIb,XId.
-/
import Derived.Test.YtlnlopnpcmahgaaGreatDoorMc
import Derived.Test.YtlnlopnpcmahgaaGreatDoorR2
import Derived.Test.YtlnlopnpcmahgaaGreatDoorR7
import Derived.Test.YtlnlopnpcmahgaaGreatDoorQm
set_option linter.all false
namespace Go.Proofs.YtlnlopnpcmahgaaGreatDoor
open Go Go.RowKit Vm Go.Lib Tryz
open Vm renaming aW->Ca,bf->Cb
open And renaming intro->Ai
open List renaming length_map->Lm,not_mem_nil->Ln,map_nil->Lo,map_cons->Lc,mem_cons->Lk
open Bool renaming not_false->Bf,not_true->Bt
def dn (v:List Nd):List Tk×Int:=if eF v≠0 then ([],8) else if cU v=true then ([],8) else if 512<(kB v).toks.length then ([],4) else ((kB v).toks,0)
def dy (s:List UInt8):List Nd×Int:=if (gN s).2≠0 then ([],(gN s).2) else cJ (gN s).1
def cD (v:List Nd)(sp:List UInt8):List UInt8×Int:=if (ck v sp).2≠0 then ([],(ck v sp).2) else if (dn (ck v sp).1).2≠0 then ([],(dn (ck v sp).1).2) else (kf (dn (ck v sp).1).1,eP (dn (ck v sp).1).1)
def cF (s:List UInt8):List UInt8×Int:=if (dy s).2≠0 then ([],(dy s).2) else cD (dy s).1 []
def lY {n:Nd}{k:Fo}(hk:n.kind=1)(hg:(Fo.cons n k .nil).good 12 0=true)(hl:k.size+1<=512):dn (n::k.flat)=(qo n k,lg n k):=by
 unfold dn qo lg
 rw[if_neg (by simp[qB hk hg hl]),pO hg]
 split
 ·rfl
 ·split<;>simp
def A9 {v:List Nd}(h:(dn v).2=0):∃ n k,n.kind=1/\v=n::k.flat/\(Fo.cons n k .nil).good 12 0=true/\k.size+1<=512/\cU v=false/\(Fo.cons n k .nil).toks.length<=512/\(dn v).1=(Fo.cons n k .nil).toks:=by
 have hc:eF v=0:=by
  by_cases hc:eF v=0
  ·exact hc
  ·unfold dn at h;rw[if_pos hc]at h;cases h
 obtain⟨n,k,hk,hv,hg,hl⟩:=qp hc
 have ht:=lY hk hg hl
 rw[<- hv]at ht
 rw[ht]at h ⊢
 simp only at h ⊢
 have hT:qo n k=(Fo.cons n k .nil).toks:=by unfold qo;rw[if_pos h]
 refine⟨n,k,hk,hv,hg,hl,?_⟩
 unfold lg at h
 rw[<- hv]at h
 split at h
 ·cases h
 ·rename_i h1
  split at h
  ·cases h
  ·rename_i h2
   exact⟨by simpa using h1,by omega,hT⟩
def E2 {v:List Nd}(h:(dn v).2≠0):(dn v).1=[]:=by
 unfold dn at h ⊢
 split
 ·rfl
 ·rename_i h1
  rw[if_neg h1]at h
  split
  ·rfl
  ·rename_i h2
   rw[if_neg h2]at h
   split
   ·rfl
   ·rename_i h3
    rw[if_neg h3]at h;exact absurd rfl h
def LH (v:List Nd)(hv:v.length<=bc)(hok:∀ n∈v,n.okTo bc/\n.i64)(nm:Nat):Ev cx 47 nm [.sl false 6 (v.map aV)] am.nil (DM (dn v).1 (dn v).2) []:=by
 cases hbo:bu v with
 | none =>
  have:dn v=([],8):=by unfold dn eF;rw[hbo];rfl
  rw[this]
  exact A8 v hv hok hbo nm
 | some en =>
  obtain⟨n,k,h1,h2,h3,h4,h5⟩:=Ox hbo
  subst h2
  rw[lY h1 h3 h4]
  exact HI n k h1 h3 h4 hok nm
def HL (v:List Nd):(dn v).1.length<=512:=by
 by_cases h:(dn v).2=0
 ·obtain⟨n,k,_,_,_,_,_,h6,h7⟩:=A9 h
  rw[h7];exact h6
 ·rw[E2 h];simp
def HK {v:List Nd}{K:Nat}(hok:∀ x∈v,x.okTo K):∀ t∈(dn v).1,t.okTo K/\t.attrs.length<=30:=by
 by_cases h:(dn v).2=0
 ·obtain⟨n,k,h1,h2,h3,h4,h5,h6,h7⟩:=A9 h
  rw[h7]
  have hfl:(Fo.cons n k .nil).flat=v:=by rw[h2];simp[Fo.flat]
  refine Fo.toks_fit _ (by
   rw[hfl]
   intro x hx
   have hm:=(Fo.good_all h3 x (by rw[hfl];exact hx)).1
   exact⟨hok x hx,by have:=(jK hm).1;omega⟩)
 ·rw[E2 h];intro t ht;cases ht
def JE (l:List Tk):(kf l).length<=16384:=by
 by_cases h:eP l=0
 ·obtain⟨_,_,_,h4,h5⟩:=yc h
  rw[h5];exact h4
 ·unfold kf;rw[if_neg h];simp
def xb (v:List Nd)(sp:List UInt8):(cD v sp).1.length<=16384:=by
 unfold cD
 split
 ·simp
 ·split
  ·simp
  ·exact JE _
def AK {s:List UInt8}(hs:s.length<=16384):(gN s).1.length<=600 /\ ∀ x∈(gN s).1,x.okTo 100000/\x.i64:=by
 unfold gN
 split
 ·exact⟨by simp,fun x hx=>by cases hx⟩
 ·rename_i h
  have h0:(dS s).2.2=0:=Decidable.not_not.1 h
  exact wG (toks_fit hs h0).1 (fun t ht=>EM (Ay h0 t ht) (by omega))
def KW {s:List UInt8}(hs:s.length<=16384):(dy s).1.length<=600 /\ ∀ x∈(dy s).1,x.okTo 100000/\x.i64:=by
 obtain⟨h1,h2⟩:=AK hs
 unfold dy
 split
 ·exact⟨by simp,fun x hx=>by cases hx⟩
 ·exact⟨Nat.le_trans (Du _) h1,res_fit (by decide) h2⟩
def Oe {s:List UInt8}(h:(dy s).2≠0):(dy s).1=[]:=by
 unfold dy at h ⊢
 split
 ·rfl
 ·rename_i h1
  rw[if_neg h1]at h
  unfold cJ at h ⊢
  split
  ·rfl
  ·rename_i h2
   rw[if_neg h2]at h
   split
   ·rfl
   ·rename_i h3
    rw[if_neg h3]at h
    split
    ·rename_i h4;rw[if_pos h4]at h;exact absurd rfl h
    ·rfl
def u6 {v:List Nd}{sp:List UInt8}(h:(cD v sp).2≠0):(cD v sp).1=[]:=by
 unfold cD at h ⊢
 split
 ·rfl
 ·rename_i h1
  rw[if_neg h1]at h
  split
  ·rfl
  ·rename_i h2
   rw[if_neg h2]at h
   simp only at h ⊢
   unfold kf;rw[if_neg h]
def Iw {s:List UInt8}(h:(cF s).2≠0):(cF s).1=[]:=by
 unfold cF at h ⊢
 split
 ·rfl
 ·rename_i h1
  rw[if_neg h1]at h
  exact u6 h
def LR {v:List Nd}{sp:List UInt8}(h:(cD v sp).2=0):(ck v sp).2=0/\(dn (ck v sp).1).2=0/\eP (dn (ck v sp).1).1=0/\(cD v sp).1=kf (dn (ck v sp).1).1:=by
 unfold cD at h ⊢
 by_cases h1:(ck v sp).2=0
 ·rw[if_neg (by simpa using h1)]at h ⊢
  by_cases h2:(dn (ck v sp).1).2=0
  ·rw[if_neg (by simpa using h2)]at h ⊢
   exact⟨h1,h2,h,rfl⟩
  ·rw[if_pos h2]at h;exact absurd h h2
 ·rw[if_pos h1]at h;exact absurd h h1
def LQ {v:List Nd}{sp:List UInt8}{b:List Nd}{l:List Tk}(h1:ck v sp=(b,0))(h2:dn b=(l,0))(h3:eP l=0):cD v sp=(bk l,0):=by
 unfold cD
 rw[h1]
 simp only[ne_eq,not_true_eq_false,if_false,h2,h3]
 rw[(yc h3).2.2.2.2]
def Ix {s:List UInt8}(h:(cF s).2=0):(dy s).2=0/\cF s=cD (dy s).1 []:=by
 unfold cF at h ⊢
 by_cases h1:(dy s).2=0
 ·rw[if_neg (by simpa using h1)]
  exact⟨h1,rfl⟩
 ·rw[if_pos h1]at h;exact absurd h h1
def D3 {a b:List Tk}(h:iZ (a++b)=false):iZ a=false/\iZ b=false:=by
 rw[jm]at h
 constructor
 ·rw[jm]
  intro i x y hi hx hy
  refine h i x y (by rw[List.length_append];omega) ?_ ?_
  ·rw[List.getElem?_append_left (by omega)];exact hx
  ·rw[List.getElem?_append_left (by omega)];exact hy
 ·rw[jm]
  intro i x y hi hx hy
  refine h (a.length+i) x y (by rw[List.length_append];omega) ?_ ?_
  ·rw[List.getElem?_append_right (by omega),Nat.add_sub_cancel_left];exact hx
  ·rw[List.getElem?_append_right (by omega),show a.length+i+1-a.length=i+1 by omega];exact hy
def nW (a b:List Tk):bk (a++b)=bk a++bk b:=by unfold bk;rw[List.flatMap_append]
def Fo.tell_app:∀(F G:Fo) (sp:List UInt8),(F.app G).tell sp=(F.tell sp).app (G.tell sp)
 | .nil,_,_=>rfl
 | .cons n k r,G,sp=>by simp only[Fo.app,Fo.tell,r.tell_app G sp]
def Ml {v:List Nd}{sp:List UInt8}(h:(ck v sp).2=0):dV v=0/\aN sp=0/\eG sp=false/\mg ((kB v).bare sp)=false/\ck v sp=((kB v).bare sp,0):=by
 unfold ck at h ⊢
 split at h
 ·rename_i h1;exact absurd h h1
 ·rename_i h1
  rw[if_neg h1]
  split at h
  ·cases h
  ·rename_i h2
   rw[if_neg h2]
   split at h
   ·cases h
   ·rename_i h3
    rw[if_neg h3]
    rw[not_or]at h2
    exact⟨Decidable.not_not.1 h1,Decidable.not_not.1 h2.1,by simpa using h2.2,by simpa using h3,rfl⟩
def Mk {v:List Nd}{sp:List UInt8}(h1:dV v=0)(h2:aN sp=0)(h3:eG sp=false)(h4:mg ((kB v).bare sp)=false):ck v sp=((kB v).bare sp,0):=by
 unfold ck
 rw[if_neg (by simp[h1]),if_neg (by simp[h2,h3]),if_neg (by simp[h4])]
def Nw {l:List Tk}(h1:∀ t∈l,ed t=true)(h2:iZ l=false)(h3:l.length<=512)(h4:(bk l).length<=16384):eP l=0:=by
 unfold eP
 rw[if_neg,if_neg (by omega)]
 rw[not_or]
 exact⟨by simp only[Bool.not_eq_true,List.any_eq_false];intro t ht;simp[h1 t ht],by simp[h2]⟩
def Bo {v:List Nd}(h:(cD v []).2=0):∃(n:Nd) (k:Fo) (P:List UInt8),n.kind=1/\v=n::k.flat/\(Fo.cons n k .nil).good 12 0=true/\k.size+1<=512/\n.space.length<=16384 /\
  (cD v []).1=P++(if k.count=0 then [47,62] else bk (k.tell n.space).toks++([60,47]++n.name++[62])) /\
  ∀(D:Fo) (m:Nd) (c r:Fo),D.app (.cons m c r)=k->m.kind≠2->cD (m::c.flat) n.space=(bk ((Fo.cons m c .nil).tell n.space).toks,0):=by
 obtain⟨h1,h2,h3,h4⟩:=LR h
 obtain⟨c1,_,_,c4,c5⟩:=Ml h1
 obtain⟨hbad,hcb⟩:=vV c1
 obtain⟨n,k,hk,hv,hg,hl⟩:=qp hcb
 have hk2:¬ n.kind=2:=by omega
 have hvf:v=(Fo.cons n k .nil).flat:=by rw[hv];simp[Fo.flat]
 have hf:kB v = .cons n k .nil:=by rw[hv];exact pO hg
 rw[hf]at c4 c5
 have hfl:=Fo.tell_flat [] hg
 have hw:∀ x∈((Fo.cons n k .nil).tell []).flat,x.attrs.length<=16:=fun x hx=>by
  rw[hfl]at hx
  have:=List.any_eq_false.1 c4 x hx
  simpa using this
 obtain⟨g1,_⟩:=Fo.tell_good [] Ar hg (fun x hx=>hbad x (by rw[hvf];exact hx)) hw ⟨rfl,rfl⟩
 have hT:(Fo.cons n k .nil).tell [] = .cons (bp n []) (k.tell n.space) .nil:=by simp[Fo.tell,hk2]
 rw[hT]at hw g1 hfl
 rw[c5,<- hfl]at h2 h3 h4
 have hbf:(Fo.cons (bp n []) (k.tell n.space) .nil).flat=bp n []::(k.tell n.space).flat:=by simp[Fo.flat]
 simp only at h2 h3 h4
 rw[hbf]at h2 h3 h4
 have htk1:(bp n []).kind=1:=hk
 have ht:=lY htk1 g1 (by rw[Fo.tell_size];exact hl)
 rw[ht]at h2 h3 h4
 simp only at h2 h3 h4
 have hTT:qo (bp n []) (k.tell n.space)=(Fo.cons (bp n []) (k.tell n.space) .nil).toks:=by unfold qo;rw[if_pos h2]
 rw[hTT]at h3 h4
 unfold lg at h2
 have hsp:cU (bp n []::(k.tell n.space).flat)=false:=by
  split at h2
  ·cases h2
  ·rename_i h5;simpa using h5
 rw[if_neg (by simp[hsp])]at h2
 obtain⟨j1,j2,j3,j4,j5⟩:=yc h3
 obtain⟨q1,q2,q3,q4,q5,q6⟩:=Fo.good_cons.1 hg
 have hnm:(bp n []).many=(k.count:Int):=q2
 have hnn:(bp n []).name=n.name:=rfl
 obtain⟨_,_,e3,_⟩:=rj q1 hk
 have hgv:eG n.space=false:=by
  have:=hbad n (by rw[hv];simp)
  unfold mu at this
  simp only[Bool.or_eq_false_iff]at this
  exact this.1.2
 -- the tokens of a part are among all
 have htoks:(Fo.cons (bp n []) (k.tell n.space) .nil).toks=if k.count=0 then [⟨3,n.name,br (bp n []).attrs,[]⟩] else ⟨1,n.name,br (bp n []).attrs,[]⟩::((k.tell n.space).toks++[⟨2,n.name,[],[]⟩]):=by
  simp only[Fo.toks,List.append_nil]
  rw[if_neg (by omega),hnm,hnn]
  by_cases hc:k.count=0
  ·rw[if_pos (by omega),if_pos hc]
  ·rw[if_neg (by omega),if_neg hc]
 refine⟨n,k,if k.count=0 then [60]++n.name++ef (br (bp n []).attrs) else fJ ⟨1,n.name,br (bp n []).attrs,[]⟩,hk,hv,hg,hl,?_,?_,?_⟩
 ·have:=c6.1 e3
  exact this.1
 ·rw[h4,j5,htoks]
  by_cases hc:k.count=0
  ·rw[if_pos hc,if_pos hc,if_pos hc]
   simp[bk,fJ]
  ·rw[if_neg hc,if_neg hc,if_neg hc]
   show fJ _++bk _=_
   have hend:bk [(⟨2,n.name,[],[]⟩:Tk)]=[60,47]++n.name++[62]:=by simp[bk,fJ]
   rw[nW,hend]
 ·intro D m c r hD hm
  have hc0:¬ k.count=0:=by rw[<- hD,Fo.app_count];simp only[Fo.count];omega
  rw[if_neg hc0]at htoks
  have hgk:(D.app (.cons m c r)).good 11 1=true:=by rw[hD];exact q5
  rw[Fo.app_good,Bool.and_eq_true]at hgk
  obtain⟨p1,p2,p3,p4,p5,p6⟩:=Fo.good_cons.1 hgk.2
  have hm1:m.kind=1:=by rcases kS p1 with e|e;exact e;exact absurd e hm
  have hgm:(Fo.cons m c .nil).good 12 0=true:=Fo.good_mono (show 11<=12 by omega) (Fo.good_cons.2 ⟨p1,p2,by omega,p4,p5,rfl⟩)
  have hks:k.size=D.size+(c.size+r.size+1):=by rw[<- hD,Fo.app_size];rfl
  have hsub:∀ x∈m::c.flat,x∈v:=fun x hx=>by
   rw[hv,<- hD,Fo.app_flat]
   simp only[Fo.flat,Lk,List.mem_append]at hx ⊢
   rcases hx with hx|hx
   ·exact .inr (.inr (.inl hx))
   ·exact .inr (.inr (.inr (.inl hx)))
  have hcu:dV (m::c.flat)=0:=by
   unfold dV
   rw[if_neg,qB hm1 hgm (by omega)]
   simp only[Bool.not_eq_true,List.any_eq_false]
   intro x hx
   simp[hbad x (hsub x hx)]
  have hfm:kB (m::c.flat) = .cons m c .nil:=pO hgm
  have hGf:=Fo.tell_flat n.space hgm
  have hkt:(k.tell n.space)=(D.tell n.space).app (((Fo.cons m c .nil).tell n.space).app (r.tell n.space)):=by
   rw[<- hD,Fo.tell_app];rfl
  have hGs:∀ x∈((Fo.cons m c .nil).tell n.space).flat,x∈(k.tell n.space).flat:=fun x hx=>by
   rw[hkt,Fo.app_flat,Fo.app_flat]
   exact List.mem_append_right _ (List.mem_append_left _ hx)
  have hGw:∀ x∈((Fo.cons m c .nil).tell n.space).flat,x.attrs.length<=16:=fun x hx=>hw x (by rw[hbf];exact List.mem_cons_of_mem _ (hGs x hx))
  have hwd:mg ((kB (m::c.flat)).bare n.space)=false:=by
   rw[hfm,<- hGf]
   unfold mg
   rw[List.any_eq_false]
   intro x hx
   have:=hGw x hx
   simpa using this
  have hB:=Mk hcu e3 hgv hwd
  rw[hfm,<- hGf]at hB
  obtain⟨G1,_⟩:=Fo.tell_good n.space [([],n.space),([120,109,108],lj)] hgm (fun x hx=>hbad x (hsub x (by simpa [Fo.flat] using hx))) hGw ⟨rfl,rfl⟩
  have hGe:(Fo.cons m c .nil).tell n.space = .cons (bp m n.space) (c.tell m.space) .nil:=by simp[Fo.tell,hm]
  have hGt:∃ A B,(Fo.cons (bp n []) (k.tell n.space) .nil).toks=A++(((Fo.cons m c .nil).tell n.space).toks++B):=by
   refine⟨⟨1,n.name,br (bp n []).attrs,[]⟩::(D.tell n.space).toks,(r.tell n.space).toks++[⟨2,n.name,[],[]⟩],?_⟩
   rw[htoks,hkt,Fo.toks_app,Fo.toks_app]
   simp
  obtain⟨A,B,hAB⟩:=hGt
  rw[hAB]at h2 j1 j2 j3 j4
  have hadj:=(D3 (D3 j2).2).1
  rw[nW,nW]at j4
  simp only[List.length_append]at j3 j4
  have hj:=Nw (l:=((Fo.cons m c .nil).tell n.space).toks) (fun t ht=>j1 t (List.mem_append_right _ (List.mem_append_left _ ht))) hadj (by omega) (by omega)
  have htk:dn ((Fo.cons m c .nil).tell n.space).flat=(((Fo.cons m c .nil).tell n.space).toks,0):=by
   rw[hGe]at G1 hGs ⊢
   have hx:=lY (show(bp m n.space).kind=1 from hm1) G1 (by rw[Fo.tell_size];omega)
   have hff:(Fo.cons (bp m n.space) (c.tell m.space) .nil).flat=bp m n.space::(c.tell m.space).flat:=by simp[Fo.flat]
   have hE:lg (bp m n.space) (c.tell m.space)=0:=by
    unfold lg
    have hns:cU (bp m n.space::(c.tell m.space).flat)=false:=by
     unfold cU at hsp ⊢
     rw[List.any_eq_false]at hsp ⊢
     intro x hx
     exact hsp x (List.mem_cons_of_mem _ (hGs x (by rw[hff];exact hx)))
    rw[if_neg (by simp[hns]),if_neg]
    rw[hGe]at j3
    omega
   rw[hff,hx]
   unfold qo
   rw[if_pos hE,hE]
  exact LQ hB htk hj
end Go.Proofs.YtlnlopnpcmahgaaGreatDoor
