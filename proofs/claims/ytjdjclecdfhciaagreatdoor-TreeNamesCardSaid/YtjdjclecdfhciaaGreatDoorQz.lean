/-
 Texts joined: XSx,XSy.
-/
import Derived.Test.YtjdjclecdfhciaaGreatDoorQy
import Derived.Test.YtjdjclecdfhciaaGreatDoorQt
namespace Go.Proofs.YtjdjclecdfhciaaGreatDoor
set_option maxRecDepth 100000
set_option maxHeartbeats 32000000
set_option linter.unusedSimpArgs false
set_option linter.unusedVariables false
open Go Go.RowKit Vm Go.Lib Go.Proofs.Tryz
open Vm renaming cond_bool→Ca,cond_bit→Cb
open And renaming intro→Ai
open List renaming length_map→Lm,not_mem_nil→Ln,map_nil→Lo,map_cons→Lc,mem_cons→Lk
open Bool renaming not_false→Bf,not_true→Bt
def deepL (k:Nat):List UInt8:=(List.replicate k [60,97,62]).flatten
def shutL (k:Nat):List UInt8:=(List.replicate k [60,47,97,62]).flatten
theorem deepL_succ (k:Nat):deepL k++[60,97,62]=deepL (k+1):=by unfold deepL;rw[List.replicate_succ',List.flatten_append];rfl
theorem shutL_succ (k:Nat):shutL k++[60,47,97,62]=shutL (k+1):=by unfold shutL;rw[List.replicate_succ',List.flatten_append];rfl
theorem deepL_zero:deepL 0=[]:=rfl
theorem shutL_zero:shutL 0=[]:=rfl
theorem deepL_len (k:Nat):(deepL k).length=3*k:=by unfold deepL;simp[Nat.mul_comm]
theorem shutL_len (k:Nat):(shutL k).length=4*k:=by unfold shutL;simp[Nat.mul_comm]
theorem odd_is (s:List UInt8)(e:Int)(hs:s.length≤16384)(h:noTree s e=true)(nm:Nat):Ev cx 28 nm [.str s,.int .i64 e] Mem.nil (.bool true) []:=by
 have:=odd10_ev s e hs nm
 rwa[h]at this
theorem no1:noTree [60,97,62,60,47,98,62] 80=true:=by unfold noTree parseA;rw[lexW_eq];decide +kernel
theorem no2:noTree [60,97,62] 80=true:=by unfold noTree parseA;rw[lexW_eq];decide +kernel
theorem no3:noTree [60,97,47,62,60,98,47,62] 80=true:=by unfold noTree parseA;rw[lexW_eq];decide +kernel
theorem no4:noTree [116,60,97,47,62] 80=true:=by unfold noTree parseA;rw[lexW_eq];decide +kernel
theorem no5:noTree [] 80=true:=by unfold noTree parseA;rw[lexW_eq];decide +kernel
theorem no6:noTree [60,47,97,62] 80=true:=by unfold noTree parseA;rw[lexW_eq];decide +kernel
theorem no7:noTree [32,10] 80=true:=by unfold noTree parseA;rw[lexW_eq];decide +kernel
theorem no8:noTree ((deepL 12++[60,97,47,62])++shutL 12) 100=true:=by unfold noTree parseA;rw[lexW_eq];decide +kernel
theorem deep_is:(parseA ((([32]++deepL 12)++shutL 12)++[10])).2=0∧(parseA ((([32]++deepL 12)++shutL 12)++[10])).1.length=12:=by unfold parseA;rw[lexW_eq];decide +kernel
def tex3:List UInt8:=[60,97,62,120,60,98,62,121,60,47,98,62,122,60,47,97,62]
def tev3:List Nd:=[⟨1,[],[97],[],[],3⟩,⟨2,[],[],[],[120],0⟩,⟨1,[],[98],[],[],1⟩,⟨2,[],[],[],[121],0⟩,⟨2,[],[],[],[122],0⟩]
def tev4:List Nd:=[⟨1,[],[98],[],[],1⟩,⟨2,[],[],[],[121],0⟩]
theorem tex3_is:parseA tex3=(tev3,0):=by unfold parseA;rw[lexW_eq];decide +kernel
theorem tev3_ends:behindO tev3=some [5,2,4,4,5]:=by decide +kernel
theorem tev3_ok:∀ n∈tev3,n.okTo lim∧n.i64:=fun n hn=>by
 simp only[tev3,Lk,Ln,or_false]at hn
 rcases hn with rfl|rfl|rfl|rfl|rfl<;>simp[Nd.okTo,Nd.i64,lim]
theorem tev3_hop:hopL [5,2,4,4,5] 5 1=[1,2,4]:=by decide +kernel
theorem tev3_words:wrdL tev3 [5,2,4,4,5] 0 5=[120,122]:=by decide +kernel
theorem tev3_asked:askedE tev3 ((5:Nat):Int)=2:=by unfold askedE;rw[tev3_ends];decide
theorem bad_is (v:List Nd)(h:behindO v=none)(hv:v.length≤lim)(hok:∀ n∈v,n.okTo lim∧n.i64)(nm:Nat):Ev cx 26 nm [.sl false 6 (v.map ndC)] Mem.nil (.int .i64 8) []:=by
 have hc:=checkT_ev v hv hok nm
 unfold checkB at hc
 rw[h]at hc
 exact hc
theorem treeNames_main (nm:Nat):Ev cx 6 nm [] Mem.nil (.bool true) []:=by
 have ho1:=odd_is _ _ (by decide) no1
 have ho2:=odd_is _ _ (by decide) no2
 have ho3:=odd_is _ _ (by decide) no3
 have ho4:=odd_is _ _ (by decide) no4
 have ho5:=odd_is _ _ (by decide) no5
 have ho6:=odd_is _ _ (by decide) no6
 have ho7:=odd_is _ _ (by decide) no7
 have hod:=odd_is _ _ (by decide +kernel) no8
 have hp1:=parse10_ev ((([32]++deepL 12)++shutL 12)++[10]) (by decide +kernel)
 obtain⟨hd1,hd2⟩:=deep_is
 rw[hd1]at hp1
 unfold treeV at hp1
 generalize (parseA ((([32]++deepL 12)++shutL 12)++[10])).1=dv at hp1 hd2
 have hal:=alive10_ev
 refine ev_go rfl (fun cargs w=>call6 cargs w) func6 rfl mixed (by kernel_rfl) rfl ?_;intro b0 hb0
 repeat' first|simp only[fins,mems,results6,ntmps6,wks,Bt,vcs,seval,tys]|exact rfl|refine call_off (v:=.any) ?_|((first|(refine call_fn ?_ (ho1 _) ?_)|(refine call_fn_g ?_ (fun _=>ho1 _) ?_));(focus (simp only[results6,ntmps6,wks,Bt,vcs,seval,tys]<;>exact rfl)))|((first|(refine call_fn ?_ (ho2 _) ?_)|(refine call_fn_g ?_ (fun _=>ho2 _) ?_));(focus (simp only[results6,ntmps6,wks,Bt,vcs,seval,tys]<;>exact rfl)))|((first|(refine call_fn ?_ (ho3 _) ?_)|(refine call_fn_g ?_ (fun _=>ho3 _) ?_));(focus (simp only[results6,ntmps6,wks,Bt,vcs,seval,tys]<;>exact rfl)))|((first|(refine call_fn ?_ (ho4 _) ?_)|(refine call_fn_g ?_ (fun _=>ho4 _) ?_));(focus (simp only[results6,ntmps6,wks,Bt,vcs,seval,tys]<;>exact rfl)))|((first|(refine call_fn ?_ (ho5 _) ?_)|(refine call_fn_g ?_ (fun _=>ho5 _) ?_));(focus (simp only[results6,ntmps6,wks,Bt,vcs,seval,tys]<;>exact rfl)))|((first|(refine call_fn ?_ (ho6 _) ?_)|(refine call_fn_g ?_ (fun _=>ho6 _) ?_));(focus (simp only[results6,ntmps6,wks,Bt,vcs,seval,tys]<;>exact rfl)))|((first|(refine call_fn ?_ (ho7 _) ?_)|(refine call_fn_g ?_ (fun _=>ho7 _) ?_));(focus (simp only[results6,ntmps6,wks,Bt,vcs,seval,tys]<;>exact rfl)))|((first|apply Ca|apply Cb)<;>intro hb)|refine Ai (by omega) ?_|(apply Ai<;>intro hb)
 (refine loop_can2 cxG (fun x:Nat=>12-x) (fun x=>x≤12) (b0+16) (fun x=>[(1,.bool true),(2,.str (deepL x)),(3,.str (shutL x)),(4,.int .i64 x)]) (fun x=>[]) (0) [] ?_ ?_ ?_ ?_;rotate_left 1;(focus (show b0≤_;omega));(focus (refine⟨?_,?_⟩<;>(try simp only[cans,deepL_zero,shutL_zero,vcs,seval,tys,injs])<;>(try omega)));rotate_left 1)
 ·exact Nat.zero_le _
 ·intro k hk
  by_cases hlt:k<12
  ·have d1:decide ((k:Int)<12)=true:=decide_eq_true (by omega)
   have d2:decide (k<12)=true:=decide_eq_true hlt
   have hwk:IntKind.i64.wrap ((k:Int)+1)=((k+1:Nat):Int):=wrap_in (by omega) (by omega)
   have hl1:=deepL_len k
   have hl2:=shutL_len k
   repeat' first|simp only[fins,mems,results6,ntmps6,wks,d1,d2,deepL_succ,shutL_succ,hwk,vcs,seval,tys]|exact rfl|refine call_off (v:=.any) ?_|((first|apply Ca|apply Cb)<;>intro hb)|refine Ai (by omega) ?_|(apply Ai<;>intro hb)
   all_goals ((refine again_can2 cxG (k+1) [] ?_ ?_ ?_ ?_;rotate_left 2;(focus (show b0≤_;omega));(focus (refine⟨?_,?_⟩<;>(try simp only[cans,hwk,vcs,seval,tys,injs])<;>(try omega)))))
   all_goals (first|(show 12-(k+1)<12-k;omega)|exact hlt|skip)
  ·have hke:k=12:=by omega
   subst hke
   have hl1:=deepL_len 12
   have hl2:=shutL_len 12
   generalize deepL 12=dp at hod hp1 hl1 ⊢
   generalize shutL 12=sh at hod hp1 hl2 ⊢
   have hl3:(dp++sh).length≤100:=by rw[List.length_append];omega
   have hl4:(dp++[60,97,47,62]).length≤100:=by rw[List.length_append];simp only[List.length_cons,List.length_nil];omega
   have hp2:=parse10_ev tex3 (by decide)
   rw[tex3_is]at hp2
   unfold treeV tex3 at hp2
   simp only at hp2
   have hWl:(tev3.map ndC).length=5:=rfl
   have hpl:=plain_nd tev3
   have hb3:=tev3_ends
   have hk1:=kids_fz tev3 (by decide) tev3_ok hb3 0 5 (by decide) rfl
   rw[show hopL [5,2,4,4,5] 5 (0+1)=[1,2,4] from tev3_hop,show [1,2,4].map noC=[[.int .i64 1],[.int .i64 2],[.int .i64 4]] from rfl]at hk1
   have hk2:=kids_no tev3 (by decide) tev3_ok ((5:Nat):Int) (by rw[tev3_asked];decide)
   rw[tev3_asked]at hk2
   have hw:=wrd_yes tev3 (by decide) tev3_ok hb3 0 5 (by decide) rfl
   rw[tev3_words]at hw
   have hs1:=sub_fz tev3 (by decide) tev3_ok hb3 2 4 (x:=⟨1,[],[98],[],[],1⟩) rfl (by decide) rfl (X:=tev4) rfl
   have hs2:=sub_text tev3 (by decide) tev3_ok hb3 1 (x:=⟨2,[],[],[],[120],0⟩) rfl rfl
   have hsm:=sameNd_ev tev4 tev4 (by decide) (by decide) (by decide +kernel) (by decide +kernel)
   rw[decide_eq_true rfl]at hsm
   have hpl4:=plain_nd tev4
   have hT':tev4.map ndC=[[.int .u8 1,.str [],.str [98],.sl false 3 [],.str [],.int .i64 1],[.int .u8 2,.str [],.str [],.sl false 3 [],.str [121],.int .i64 0]]:=rfl
   have hel1:=elem_ev [98] 1
   have hel2:=elem_ev [97] 1
   have hel3:=elem_ev [97] 0
   have hel4:=elem_ev [98] 0
   have hc0:∀ nm,Ev cx 26 nm [.nils] Mem.nil (.int .i64 8) []:=fun nm=>Ev.args_le (bad_is [] rfl (by decide) (fun n hn=>by cases hn) nm) (by simp only[leL_cons,leL_nil,le_nils_sl,Lo,and_self])
   have hc1:=bad_is [⟨1,[],[97],[],[],1⟩] (by decide +kernel) (by decide) (fun n hn=>by rw[List.mem_singleton.1 hn];simp[Nd.okTo,Nd.i64,lim])
   have hc2:=bad_is [⟨1,[],[97],[],[],0⟩,⟨1,[],[98],[],[],0⟩] (by decide +kernel) (by decide) (fun n hn=>by
    simp only[Lk,Ln,or_false]at hn
    rcases hn with rfl|rfl<;>simp[Nd.okTo,Nd.i64,lim])
   generalize hT:tev4.map ndC=T at hs1 hsm hpl4 hT'
   generalize hW:tev3.map ndC=W at hp2 hk1 hk2 hw hs1 hs2 hpl hWl
   repeat' first|simp only[results6,ntmps6,wks,hd2,hWl,hpl,hpl4,plain_nd,Lm,List.length_cons,List.length_nil,vcs,seval,tys]|exact rfl|((first|(refine call_fn ?_ (hp1 _) ?_)|(refine call_fn_g ?_ (fun _=>hp1 _) ?_)|(refine call_fn ?_ (hod _) ?_)|(refine call_fn_g ?_ (fun _=>hod _) ?_)|(refine call_fn ?_ (hk1 _) ?_)|(refine call_fn_g ?_ (fun _=>hk1 _) ?_)|(refine call_fn ?_ (hw _) ?_)|(refine call_fn_g ?_ (fun _=>hw _) ?_)|(refine call_fn ?_ (hs1 _) ?_)|(refine call_fn_g ?_ (fun _=>hs1 _) ?_)|(refine call_fn ?_ (hel1 _) ?_)|(refine call_fn_g ?_ (fun _=>hel1 _) ?_));(focus (simp only[results6,ntmps6,wks,hd2,hWl,hpl,hpl4,plain_nd,Lm,List.length_cons,List.length_nil,vcs,seval,tys]<;>exact rfl)))|((first|(refine call_fn ?_ (hp2 _) ?_)|(refine call_fn_g ?_ (fun _=>hp2 _) ?_)|(refine call_fn ?_ (hk2 _) ?_)|(refine call_fn_g ?_ (fun _=>hk2 _) ?_)|(refine call_fn ?_ (hs2 _) ?_)|(refine call_fn_g ?_ (fun _=>hs2 _) ?_)|(refine call_fn ?_ (hel2 _) ?_)|(refine call_fn_g ?_ (fun _=>hel2 _) ?_));(focus (simp only[results6,ntmps6,wks,hd2,hWl,hpl,hpl4,plain_nd,Lm,List.length_cons,List.length_nil,vcs,seval,tys]<;>exact rfl)))|((first|(refine call_fn ?_ (hel3 _) ?_)|(refine call_fn_g ?_ (fun _=>hel3 _) ?_));(focus (simp only[results6,ntmps6,wks,hd2,hWl,hpl,hpl4,plain_nd,Lm,List.length_cons,List.length_nil,vcs,seval,tys]<;>exact rfl)))|((first|(refine call_fn ?_ (hel4 _) ?_)|(refine call_fn_g ?_ (fun _=>hel4 _) ?_));(focus (simp only[results6,ntmps6,wks,hd2,hWl,hpl,hpl4,plain_nd,Lm,List.length_cons,List.length_nil,vcs,seval,tys]<;>exact rfl)))|((first|apply Ca|apply Cb)<;>intro hb)|refine Ai (by omega) ?_|(apply Ai<;>intro hb)
   refine call_fn_gvd (xs:=?_) [b0+1888] ?_ (fun _=>hsm _) (fun _=>?_) (fun _=>?_) rfl ?_
   rotate_left 1
   ·simp only[mems,wks,vcs,seval,tys]<;>exact rfl
   ·simp only[dps,dps2,fins,mems,wks,finLL_cons,finLL_nil,finLLOk_cons,finLLOk_nil,leLL_cons,hT',plainL,V.plain,hpl4,le_nils_sl,Lc,Lo,Bool.and_self,Bool.true_and,vcs,seval,tys]
   ·simp only[dps,dps2,fins,mems,wks,finLL_cons,finLL_nil,finLLOk_cons,finLLOk_nil,leLL_cons,hT'.symm,plainL,V.plain,hpl4,Lc,Lo,Bool.and_self,Bool.true_and,vcs,seval,tys]
   repeat' first|simp only[results6,ntmps6,wks,hd2,hWl,hpl,hpl4,plain_nd,Lm,List.length_cons,List.length_nil,vcs,seval,tys]|exact rfl|((first|(refine call_fn ?_ (hal _) ?_)|(refine call_fn_g ?_ (fun _=>hal _) ?_)|(refine call_fn ?_ (hc0 _) ?_)|(refine call_fn_g ?_ (fun _=>hc0 _) ?_)|(refine call_fn ?_ (hel2 _) ?_)|(refine call_fn_g ?_ (fun _=>hel2 _) ?_));(focus (simp only[results6,ntmps6,wks,hd2,hWl,hpl,hpl4,plain_nd,Lm,List.length_cons,List.length_nil,vcs,seval,tys]<;>exact rfl)))|((first|(refine call_fn ?_ (hel3 _) ?_)|(refine call_fn_g ?_ (fun _=>hel3 _) ?_));(focus (simp only[results6,ntmps6,wks,hd2,hWl,hpl,hpl4,plain_nd,Lm,List.length_cons,List.length_nil,vcs,seval,tys]<;>exact rfl)))|((first|(refine call_fn ?_ (hel4 _) ?_)|(refine call_fn_g ?_ (fun _=>hel4 _) ?_));(focus (simp only[results6,ntmps6,wks,hd2,hWl,hpl,hpl4,plain_nd,Lm,List.length_cons,List.length_nil,vcs,seval,tys]<;>exact rfl)))|((first|apply Ca|apply Cb)<;>intro hb)|refine Ai (by omega) ?_|(apply Ai<;>intro hb)
   refine call_fn_gvd (xs:=?_) [b0+2368] ?_ (fun _=>hc1 _) (fun _=>?_) (fun _=>?_) rfl ?_
   rotate_left 1
   ·simp only[mems,wks,vcs,seval,tys]<;>exact rfl
   ·simp only[dps,dps2,fins,mems,wks,finLL_cons,finLL_nil,finLLOk_cons,finLLOk_nil,leLL_cons,plainL,V.plain,ndC,le_nils_sl,Lc,Lo,Bool.and_self,Bool.true_and,vcs,seval,tys]
   ·simp only[dps,dps2,fins,mems,wks,finLL_cons,finLL_nil,finLLOk_cons,finLLOk_nil,leLL_cons,plainL,V.plain,ndC,Lc,Lo,Bool.and_self,Bool.true_and,vcs,seval,tys]
   repeat' first|simp only[results6,ntmps6,wks,hd2,hWl,hpl,hpl4,plain_nd,Lm,List.length_cons,List.length_nil,vcs,seval,tys]|exact rfl|((first|(refine call_fn ?_ (hel2 _) ?_)|(refine call_fn_g ?_ (fun _=>hel2 _) ?_));(focus (simp only[results6,ntmps6,wks,hd2,hWl,hpl,hpl4,plain_nd,Lm,List.length_cons,List.length_nil,vcs,seval,tys]<;>exact rfl)))|((first|(refine call_fn ?_ (hel3 _) ?_)|(refine call_fn_g ?_ (fun _=>hel3 _) ?_));(focus (simp only[results6,ntmps6,wks,hd2,hWl,hpl,hpl4,plain_nd,Lm,List.length_cons,List.length_nil,vcs,seval,tys]<;>exact rfl)))|((first|(refine call_fn ?_ (hel4 _) ?_)|(refine call_fn_g ?_ (fun _=>hel4 _) ?_));(focus (simp only[results6,ntmps6,wks,hd2,hWl,hpl,hpl4,plain_nd,Lm,List.length_cons,List.length_nil,vcs,seval,tys]<;>exact rfl)))|((first|apply Ca|apply Cb)<;>intro hb)|refine Ai (by omega) ?_|(apply Ai<;>intro hb)
   refine call_fn_gvd (xs:=?_) [b0+2480] ?_ (fun _=>hc2 _) (fun _=>?_) (fun _=>?_) rfl ?_
   rotate_left 1
   ·simp only[mems,wks,vcs,seval,tys]<;>exact rfl
   ·simp only[dps,dps2,fins,mems,wks,finLL_cons,finLL_nil,finLLOk_cons,finLLOk_nil,leLL_cons,plainL,V.plain,ndC,le_nils_sl,Lc,Lo,Bool.and_self,Bool.true_and,vcs,seval,tys]
   ·simp only[dps,dps2,fins,mems,wks,finLL_cons,finLL_nil,finLLOk_cons,finLLOk_nil,leLL_cons,plainL,V.plain,ndC,Lc,Lo,Bool.and_self,Bool.true_and,vcs,seval,tys]
   (repeat' first|simp only[results6,ntmps6,wks,hd2,hWl,hpl,hpl4,plain_nd,Lm,List.length_cons,List.length_nil,vcs,seval,tys]|exact rfl|((first|apply Ca|apply Cb)<;>intro hb)|refine Ai (by omega) ?_|(apply Ai<;>intro hb)|refine Fin.pure ?_ ?_ ?_|simp only[injs])
theorem treeNames_args (xs:List V)(h:ShapeArgs cx.P Tryz.f6.params.toList xs):Ev cx 6 0 xs Mem.nil (.bool true) []:=by
 rw[Tryz.params6]at h
 obtain rfl:=args_nil h
 exact treeNames_main 0
end Go.Proofs.YtjdjclecdfhciaaGreatDoor
