/- impl.Advance, in every case. -/
import Derived.Test.YtdoeoojjabnboaaGreatKAC
import Derived.Test.YtdoeoojjabnboaaGreatKAAB
import Derived.Test.YtdoeoojjabnboaaGreatKVSI
import Derived.Test.YtdoeoojjabnboaaGreatKBL
set_option maxRecDepth 100000
set_option linter.unusedVariables false
namespace Go.Proofs.YtdoeoojjabnboaaGreat
open Go.RowKit Go.Fin1
theorem implAdvance_any (p:Pl) (v:Value) (w:World) (h:ePool w v p) (hf:p.fits 1048576) :
  Calls Tryz.prog 15 #[v] w fun e w'=>∃ cv jv fc fj,e=.returned (poV (advR p).1 (advR p).2.1 (advR p).2.2 cv jv)∧Ext w w'∧OwnP w.heap.size w' fc fj cv jv (advR p).1:=by
 cases hq:poolR p
 ·rw[advR_form hq];exact implAdvance_form p v w h hq
 ·by_cases hn:p.now=999900
  ·rw[advR_full hq hn];exact implAdvance_full p v w h hq hn
  ·rw[advR_yes hq hn];exact implAdvance_yes p v w h hf (tH hq) hn
end Go.Proofs.YtdoeoojjabnboaaGreat
set_option maxRecDepth 100000
set_option linter.unusedVariables false
namespace Go.Proofs.YtdoeoojjabnboaaGreat
open Go.RowKit Go.Fin1
set_option maxHeartbeats 800000 in
theorem idxJob0_any (f:Value) (w:World):Calls Tryz.prog 102 #[.slice none 0 0,f] w fun e w'=>e=.returned (.int .i64 (-1))∧Ext w w':=by
 go_enter Tryz.func102,Tryz.ntmps102
 go_wp2
 go_loopw [8,5] (fun i _ wr=>i=(.int .i64 0)∧Ext w wr) (fun _ _ _=>0)
 case atStart=>exact⟨rfl,xE⟩
 case round =>
  obtain⟨rfl,⟨X,rfl⟩⟩:=hrel
  go_wp2
  go_ret
  exact⟨rfl,xE⟩
set_option maxHeartbeats 800000 in
theorem delJob0_any (f:Value) (w:World):Calls Tryz.prog 117 #[.slice none 0 0,f] w fun e w'=>e=.returned (.slice none 0 0)∧Ext w w':=by
 go_enter Tryz.func117,Tryz.ntmps117
 go_wp2_with ((go_at_call 102;refine(idxJob0_any _ _).mono ?_;rintro e _ ⟨rfl,X,rfl⟩))
 go_ret
 exact⟨rfl,xE⟩
set_option maxHeartbeats 800000 in
theorem seen0_any (cv:Value) (d:Nat) (now:Int) (x:Lab) (w:World) :
  Calls Tryz.prog 66 #[.agg #[cv,.slice none 0 d,(.int .i64 now)],.agg #[(.int .i64 x.lv),(.int .i64 x.st)]] w fun e w'=>e=.returned (.slice none 0 0)∧Ext w w':=by
 go_enter Tryz.func66,Tryz.ntmps66
 go_wp2_with (first | (go_at_call 104;refine(inOrder0_any _ _).mono ?_;rintro e _ ⟨rfl,X,rfl⟩) | (go_at_call 117;refine(delJob0_any _ _).mono ?_;rintro e _ ⟨rfl,X,rfl⟩))
 go_ret
 exact⟨rfl,xE⟩
theorem sorted0:sortedJ []=[]:=rfl
set_option maxHeartbeats 800000 in
theorem seenA_any (l:List Jb) (ca:Option Addr) (cn cc:Nat) (ja:Option Addr) (jc:Nat) (now:Int) (x:Lab) (w:World) (h:SlR w 9 rJob (.slice ja l.length jc) l) (hl:l.length≤1000) (hn:l.Pairwise NeJ) :
  Calls Tryz.prog 66 #[.agg #[.slice ca cn cc,.slice ja l.length jc,(.int .i64 now)],.agg #[(.int .i64 x.lv),(.int .i64 x.st)]] w fun e w'=>∃ a cp,e=.returned (.slice a (seesL l x).length cp)∧Ext w w'∧SlR w' 9 rJob (.slice a (seesL l x).length cp) (seesL l x):=by
 cases ja with
 | none =>
  have h0:l=[]:=by
   cases l with
   | nil=>rfl
   | cons y l=>obtain⟨b,off,he⟩:=slr_some h (Nat.zero_lt_succ _);cases he
  subst h0
  have hs:seesL [] x=[]:=by unfold seesL;rw[sorted0];rfl
  rw[hs]
  refine(seen0_any _ _ _ x w).mono ?_
  rintro e w' ⟨rfl,hx⟩
  exact⟨none,0,rfl,hx,none,0,rfl,Nat.le_refl _,Nat.zero_le _,fun i hi=>absurd hi (Nat.not_lt_zero _)⟩
 | some ja =>
  refine(seen_any l ca cn cc ja jc now x w h hl hn).mono ?_
  rintro e w' ⟨g,k,cp,rs,rfl,hx,hR,hm,hk⟩
  have hkl:k=rs.length:=by
   rcases hR.2 with ⟨h1,_⟩ | ⟨_,_,_,h1,_⟩
   ·cases h1
   ·cases h1;rfl
  subst hkl
  have hS:=row_jobs hR hk
  have hM:rs.map Prod.fst=seesL l x:=by unfold seesL;exact hm
  have hml:rs.length=(seesL l x).length:=by rw[← hM,List.length_map]
  rw[hM] at hS
  rw[hml] at hS ⊢
  exact⟨some ⟨g,0,none⟩,cp,rfl,hx,hS⟩
end Go.Proofs.YtdoeoojjabnboaaGreat
set_option maxRecDepth 100000
set_option linter.unusedVariables false
namespace Go.Proofs.YtdoeoojjabnboaaGreat
open Go.RowKit Go.Fin1
set_option maxHeartbeats 3200000 in
theorem implView_any (p:Pl) (x:Lab) (ca:Option Addr) (cc:Nat) (ja:Option Addr) (jc:Nat) (w:World) (h:ePool w (p.val (.slice ca p.clear.length cc) (.slice ja p.jobs.length jc)) p) :
  Calls Tryz.prog 19 #[p.val (.slice ca p.clear.length cc) (.slice ja p.jobs.length jc),x.val] w fun e w'=>e=.returned (.string (viewS p x))∧Ext w w':=by
 have HP:=tH h
 obtain⟨_,_,_,_,hv,hnow,h1,h2⟩:=h
 have hj:SlR w 9 rJob (.slice ja p.jobs.length jc) p.jobs:=by
  unfold Pl.val at hv
  simp only[Value.agg.injEq,Array.mk.injEq,List.cons.injEq] at hv
  rw[hv.2.1];exact h2
 have HJ:=tH hj
 have HNW:=tH hnow
 clear hv h1 h2 hj hnow
 cases hp:poolR p
 ·have HV:Hid (viewS p x=⟨#[]⟩):=tH (by unfold viewS;rw[hp];rfl)
  go_enter Tryz.func19,Tryz.ntmps19
  unfold Pl.val Lab.val
  go_wp2_with fail
  refine(implPoolRight_any p _ _ (HP.out.ext xE)).mono ?_
  rintro e _ ⟨rfl,X,rfl⟩
  rw[hp]
  go_wp2
  go_ret
  exact⟨ret_str HV.out.symm,xE⟩
 cases hl:labR x
 ·have HV:Hid (viewS p x=⟨#[]⟩):=tH (by unfold viewS;rw[hp,hl];rfl)
  go_enter Tryz.func19,Tryz.ntmps19
  unfold Pl.val Lab.val
  go_wp2_with fail
  refine(implPoolRight_any p _ _ (HP.out.ext xE)).mono ?_
  rintro e _ ⟨rfl,X,rfl⟩
  rw[hp]
  go_wp2_with fail
  refine(implLabelRight_any _ _ _).mono ?_
  rintro e _ ⟨rfl,X2,rfl⟩
  rw[hl]
  go_wp2
  go_ret
  exact⟨ret_str HV.out.symm,xE⟩
 have HV:Hid (viewS p x=viewL p.now (seesL p.jobs x)):=tH (by unfold viewS;rw[hp,hl];rfl)
 have HJR:=tH (poolR_jobs hp).1
 have hjl:p.jobs.length≤96:=jobsR_len HJR.out
 go_enter Tryz.func19,Tryz.ntmps19
 unfold Pl.val Lab.val
 go_wp2_with fail
 refine(implPoolRight_any p _ _ (HP.out.ext xE)).mono ?_
 rintro e _ ⟨rfl,X,rfl⟩
 rw[hp]
 go_wp2_with fail
 refine(implLabelRight_any _ _ _).mono ?_
 rintro e _ ⟨rfl,X2,rfl⟩
 rw[hl]
 clear hp hl
 go_wp2_with fail
 refine(implPutNum_any _ HNW.out _).mono ?_
 rintro e _ ⟨rfl,X3,rfl⟩
 go_wp2_with fail
 refine(seenA_any p.jobs _ _ _ ja jc _ x _ (HJ.out.ext rJob_stable xE) (by omega) (jobsR_ne HJR.out)).mono ?_
 rintro e _ ⟨g,cp,rfl,⟨X4,rfl⟩,hS⟩
 have HN6:Hid (∀ j∈seesL p.jobs x,j.nodes.length≤6):=tH (fun j hj=>jobR_nodes (jobsR_mem HJR.out (seesL_mem (jobsR_ne HJR.out) hj)))
 have hsl:(seesL p.jobs x).length≤96:=Nat.le_trans (seesL_len _ _) hjl
 have HS:=tH hS
 generalize seesL p.jobs x=l at HV hS HS HN6 hsl ⊢
 clear hS hjl
 go_upto_region 5 with fail
 refine gen_world (fun W hW=>?_)
 have HE0:Hid (Ext w W):=tH (by rw[hW];exact xE)
 rw[← hW] at HS
 clear hW X X2 X3 X4 HP HJ HJR HNW
 go_wp2
 go_loopw [23,5] (fun i t wr=>∃ n:Nat,n≤l.length∧i=.int .i64 n∧t=.string (viewL p.now (l.take n))∧Ext W wr) (fun i _ _=>l.length-(intOf i).toNat)
 case atStart=>exact⟨0,Nat.zero_le _,rfl,by rw[List.take_zero,viewL_nil],xE⟩
 case round =>
  obtain⟨n,hn,rfl,rfl,⟨X,rfl⟩⟩:=hrel
  by_cases hlt:n < l.length
  ·obtain⟨bj,oj,rfl⟩:=slr_some HS.out hlt
   obtain⟨ho,na,nc,hok,hsn,c0,c1,c2,c3,c4,c5,c6,c7,c8⟩:=job_at HS.out hlt
   have HN:=tH hsn
   have HVT:=tH (viewL_take p.now hlt)
   have hz:=viewL_sizeN p.now HN6.out hsl n
   have hn6:=HN6.out _ (List.getElem_mem hlt)
   have hz2:=headJ_size l[n]
   have hz3:=numsS_le l[n].nodes
   have HOK:=tH hok
   clear hsn hok
   go_wp2_with fail
   refine(putNums_any _ (headJ l[n]) _ (sl_nine _ _ (by simp[go_sem]) l[n] HOK.out (by omega)) (by show 9≤1048576;decide)).mono ?_
   rintro e _ ⟨rfl,Y,rfl⟩
   go_wp2_with fail
   refine(putNums_any _ l[n].nodes _ (HN.out.ext rInt_stable xE) (by omega)).mono ?_
   rintro e _ ⟨rfl,Y2,rfl⟩
   go_wp2
   exact⟨⟨n+1,by omega,by go_num,by rw[HVT.out],xE⟩,by simp[intOf];omega⟩
  ·obtain rfl:n=l.length:=by omega
   go_wp2
   go_ret
   exact⟨ret_str (by rw[HV.out,List.take_length]),HE0.out.trans xE⟩
end Go.Proofs.YtdoeoojjabnboaaGreat
