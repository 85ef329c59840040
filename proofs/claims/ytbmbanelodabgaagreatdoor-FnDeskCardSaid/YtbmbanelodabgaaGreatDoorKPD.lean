/- The reference's plan, walked. -/
import Derived.Test.YtbmbanelodabgaaGreatDoorKPAB
import Derived.Test.YtbmbanelodabgaaGreatDoorKPC
import Derived.Test.YtbmbanelodabgaaGreatDoorKTT
import Derived.Test.YtbmbanelodabgaaGreatDoorKZZ1
set_option maxRecDepth 100000
set_option linter.unusedVariables false
namespace Go.Proofs.YtbmbanelodabgaaGreatDoor
open Go.RowKit Go.Fin1
theorem sortedJ_memP {l:List Jb} (hn:l.Pairwise NeJ) {j:Jb} (h:j∈sortedJ l):j∈l:=by
 unfold sortedJ at h
 have h2:=((sortedJ_all (l:=l) (acc:=[]) List.Pairwise.nil hn (fun _ h=>by cases h)).2 j).1 h
 simpa using h2
set_option maxHeartbeats 3200000 in
theorem l05Plan_any (p:Pl) (v:Value) (w:World) (h:ePool w v p) (hn:0≤p.now∧p.now≤999900) (hc6:p.clear.length≤6) (hl:p.jobs.length≤96) (hne:p.jobs.Pairwise NeJ) (hj:∀ j∈p.jobs,JOk p.now p.clear.length j) :
  Calls Tryz.prog 66 #[v] w fun e w'=>∃ v' ss,e=.returned v'∧Ext w w'∧RowS w.heap.size w' v' ss∧ss.map Prod.fst=planL p.clear p.now p.jobs:=by
 obtain⟨a,c,b,d,rfl,hnow,h1,h2⟩:=h
 have HC:=tH h1
 have HJ:=tH h2
 have HFT:=tH (slr_jobs h2)
 have HNE:=tH hne
 have HJK:=tH hj
 have HN:=tH hn
 clear h1 h2 hne hj hnow hn
 go_enter Tryz.func66,Tryz.ntmps66
 unfold Pl.val
 go_upto_region 1 with fail
 refine gen_world (fun W1 hW1=>?_)
 have HE0:Hid (Ext w W1):=tH (by rw[hW1];exact xE)
 have p0:W1.cell? ⟨w.heap.size,0,none⟩=some (.slice a p.clear.length c):=by rw[hW1];simp[go_sem]
 have p1:W1.cell? ⟨w.heap.size,1,none⟩=some (.slice b p.jobs.length d):=by rw[hW1];simp[go_sem]
 have p2:W1.cell? ⟨w.heap.size,2,none⟩=some (.int .i64 p.now):=by rw[hW1];simp[go_sem]
 have po:=World.old_of_cell p0
 have P0:=tH p0
 have P1:=tH p1
 have P2:=tH p2
 clear hW1
 go_upto_region 3 with (at_make;refine make_nils Tryz.underlying122 info_SpnS rfl _ _ rfl (W1.alloc (.cells #[] 104)) (Ext.refl _) p.clear.length rfl rfl ?_ ?_ ?_;omega;(unfold maxLen;omega);intro w2 g hx2 hown;have HX2:=tH hx2;have HOW:=tH hown;clear hx2 hown)
 clear p0 p1 p2 po
 have HX1:Hid (Ext W1 w2):=tH (((Ext.refl W1).alloc _).trans HX2.out)
 have p1:=HX1.out.cell P1.out
 have po:=World.old_of_cell p1
 go_wp2_with fail
 refine(l04Sorted_any _ p.jobs _ (HJ.out.ext rJob_stable ((HE0.out.trans HX1.out).trans xE)) (by omega) (fun j hj=>?_)).mono ?_
 ·have:=(HJK.out j hj).len
  omega
 rintro e _ ⟨jv,rj,rfl,⟨X4,rfl⟩,hRJ,hm⟩
 go_upto_region 4 with fail
 refine gen_world (fun W3 hW3=>?_)
 have hE23:Ext w2 W3:=by rw[hW3];exact xE
 have hlj:=sortedJ_lenV p.jobs
 have HJL:Hid (∀ j∈sortedJ p.jobs,JOk p.now p.clear.length j∧j.fit):=tH (fun j hj=>⟨HJK.out j (sortedJ_memP HNE.out hj),HFT.out j (sortedJ_memP HNE.out hj)⟩)
 have HPL:Hid (planL p.clear p.now p.jobs=(foldP p.clear p.now (sortedJ p.jobs)).1):=tH (by unfold planL;rfl)
 have HRJ:Hid (RowJ W1.heap.size W3 jv rj):=tH ((hRJ.ext (by rw[hW3];exact xE)).mono HX1.out.below.size)
 clear hRJ hW3 X4 p1 po
 generalize sortedJ p.jobs=L at hm hlj HJL HPL
 have hL:L.length≤96:=by omega
 obtain⟨ja,jc,hjv⟩:∃ ja jc,jv=.slice ja L.length jc:=by
  obtain⟨ja,jc,hjv⟩:=HRJ.out.row.shape
  exact⟨ja,jc,by rw[hjv,← hm,List.length_map]⟩
 subst hjv
 have HM:=tH hm
 have HE1:=tH (HX1.out.trans hE23)
 have HR0:Hid (RowR W1.heap.size W3 (.slice (some ⟨g,0,none⟩) p.clear.length p.clear.length) (List.replicate p.clear.length ([],none,0))):=tH (((RowR.nils HOW.out).mono (by simp)).ext hE23)
 have HS0:Hid (RowS W1.heap.size W3 (.slice (some ⟨W1.heap.size,0,none⟩) 0 0) []):=tH ⟨(Row.made W1 _ _ _).ext (HX2.out.trans hE23),fun r hr=>by cases hr⟩
 clear hm hlj hE23
 go_wp2
 go_loopw [6,3] (fun i o wr=>∃ k:Nat,∃ ss:List RS,∃ rsR:List RW,∃ oa:Option Addr,∃ ol oc:Nat,k≤L.length∧i=.int .i64 k∧o=.slice oa ol oc∧Hid (Ext W1 wr)∧Hid (RowS W1.heap.size wr o ss)∧Hid (ss.map Prod.fst=(foldP p.clear p.now (L.take k)).1)∧Hid (RowR W1.heap.size wr (.slice (some ⟨g,0,none⟩) p.clear.length p.clear.length) rsR)∧Hid (rsR.map Prod.fst=(foldP p.clear p.now (L.take k)).2)∧Hid (RowJ W1.heap.size wr (.slice ja L.length jc) rj)) (fun i _ _=>L.length-(intOf i).toNat)
 case atStart=>exact⟨0,[],_,_,_,_,Nat.zero_le _,rfl,rfl,HE1,HS0,tH (by rw[List.take_zero,foldP_nil];rfl),HR0,tH (by rw[List.take_zero,foldP_nil];simp),HRJ⟩
 case round =>
  clear HE1 HS0 HR0 HRJ W3 HX2 HOW
  obtain⟨k,ss,rsR,oa,ol,oc,hk,rfl,rfl,HE,HS,HSM,HR,HRM,HRJ⟩:=hrel
  obtain⟨wo,rfl⟩:∃ wo,wo=wr:=⟨wr,rfl⟩
  by_cases hlt:k < L.length
  ·have hjs:=HRJ.out.jobsS
   rw[HM.out] at hjs
   obtain⟨bj,oj,rfl⟩:=slr_some hjs hlt
   obtain⟨ho,na,nc,hok,hsn,c0,c1,c2,c3,c4,c5,c6,c7,c8⟩:=job_at hjs hlt
   have p0:=HE.out.cell P0.out
   have p1:=HE.out.cell P1.out
   have p2:=HE.out.cell P2.out
   have po:=World.old_of_cell p0
   have HNN:=tH hsn
   have HOK:=tH hok
   have HFO:=tH (foldP_take p.clear p.now hlt)
   have HJO:=tH (HJL.out _ (List.getElem_mem hlt))
   have HRO:=tH (foldP_ok HN.out k hk (fun j hj=>(HJL.out j hj).1))
   have HSL:=tH (foldP_len1 p.clear p.now k hk)
   clear hsn hok hjs
   cases hs2:(L[k].state == 2)
   ·cases hs1:(L[k].state == 1)
    ·have HOF:Hid ((L[k].state == 2 || L[k].state == 1)=false):=tH (by rw[hs2,hs1];rfl)
     have hn2:(L[k].state != 2)=true:=by unfold bne;rw[hs2];rfl
     have hn1:(L[k].state != 1)=true:=by unfold bne;rw[hs1];rfl
     go_wp2
     exact⟨⟨k+1,ss,rsR,oa,ol,oc,by omega,by go_num,rfl,tH (HE.out.trans xE),tH (HS.out.ext xE),tH (by rw[HFO.out,stepP_off HOF.out];exact HSM.out),tH (HR.out.ext xE),tH (by rw[HFO.out,stepP_off HOF.out];exact HRM.out),tH (HRJ.out.ext xE)⟩,by simp[intOf];omega⟩
    ·have HSC:Hid ((L[k].state == 2 || L[k].state == 1)=true):=tH (by rw[hs2,hs1];rfl)
     have hn2:(L[k].state != 2)=true:=by unfold bne;rw[hs2];rfl
     have hn1:(L[k].state != 1)=false:=by unfold bne;rw[hs1];rfl
     have hst:staysP p.now (rsR.map Prod.fst) L[k]=false:=by unfold staysP;rw[hs2];rfl
     obtain⟨t1,t2⟩:=HJO.out.1.st
     obtain⟨t3,t4⟩:=HJO.out.1.long
     have hnw:=HN.out
     go_upto_region 11 with fail
     refine gen_world (fun V hV=>?_)
     have HEV0:Hid (Ext wo V):=tH (by rw[hV];exact xE)
     have HBJ:Hid (Blk V wo.heap.size (L[k].cells (.slice na L[k].nodes.length nc)) 92):=tH (by rw[hV];exact(Blk.new (cs:=(L[k].cells (.slice na L[k].nodes.length nc)).toArray) rfl).ext xE)
     have HB80:Hid (Blk V (wo.heap.size+1) [(.int .i64 L[k].l.lv),(.int .i64 L[k].l.st),(.int .i64 L[k].id),(.int .i64 L[k].start),.slice na L[k].nodes.length nc] 104):=tH (by rw[hV];exact(Blk.new (w:=wo.alloc _) (cs:=#[(.int .i64 L[k].l.lv),(.int .i64 L[k].l.st),(.int .i64 L[k].id),(.int .i64 L[k].start),.slice na L[k].nodes.length nc]) (by simp[go_sem])).ext xE)
     have HB90:Hid (Blk V (wo.heap.size+1+1) [(.int .i64 p.now),(.int .i64 (L[k].start+L[k].long))] 124):=tH (by rw[hV];exact(Blk.new (w:=(wo.alloc _).alloc _) (cs:=#[(.int .i64 p.now),(.int .i64 (L[k].start+L[k].long))]) (by simp[go_sem])).ext xE)
     have HNR:=tH ((HRJ.out.node HM.out hlt c8).ext HEV0.out)
     clear hV ho c0 c1 c2 c3 c4 c5 c6 c7 c8
     have hp0:=HEV0.out.cell p0
     have hp1:=HEV0.out.cell p1
     have hp2:=HEV0.out.cell p2
     have hpo:=World.old_of_cell hp0
     clear p0 p1 p2 po
     have j0:=HBJ.out.cell 0
     have j1:=HBJ.out.cell 1
     have j2:=HBJ.out.cell 2
     have j3:=HBJ.out.cell 3
     have j4:=HBJ.out.cell 4
     have j5:=HBJ.out.cell 5
     have j6:=HBJ.out.cell 6
     have j7:=HBJ.out.cell 7
     have j8:=HBJ.out.cell 8
     have jo:=HBJ.out.old
     simp only[Jb.cells,List.getElem?_cons_zero,List.getElem?_cons_succ] at j0 j1 j2 j3 j4 j5 j6 j7 j8
     have HRLN:Hid ((rsR.map Prod.fst).length=p.clear.length):=tH (by rw[HRM.out];exact HRO.out.2)
     go_wp2_with fail
     refine(l05Stays_any _ _ _ _ (rsR.map Prod.fst) L[k] _ _ ((HR.out.ext HEV0.out).spns.ext rSpnS_stable xE) (row_int (HNR.out.ext xE) HJO.out.2.2) HN.out (by rw[HRLN.out];exact HJO.out.1)).mono ?_
     rintro e _ ⟨rfl,⟨X1,rfl⟩⟩
     rw[hst]
     clear hn1
     have HST:=tH hst
     clear hst
     go_wp2_with fail
     refine(l05Rows_any _ _ p.clear _ _ _ rsR L[k].l _ (((HR.out.ext HEV0.out).ext xE).mono (Nat.zero_le _)) (HC.out.ext rLabS_stable (((HE0.out.trans HE.out).trans HEV0.out).trans xE)) (by have h:=HRLN.out;rw[List.length_map] at h;exact h.symm) (by have h:=HRLN.out;rw[List.length_map] at h;omega)).mono ?_
     rintro e _ ⟨mv,ms,rfl,⟨X2,rfl⟩,hRm,hmm,hqb⟩
     have hmz:wo.heap.size+1+1 < (V.plus X1).heap.size:=by have h:=HB90.out.old;unfold World.old at h;simp;omega
     have HQB:Hid (∀ r∈ms,∀ b∈blkL (RW.nv r),b∉[wo.heap.size+1,wo.heap.size+1+1]):=tH (fun r hr b hb hm=>by
      rcases hqb r hr with h | h
      ·have h2:=((HR.out.nd r h).2.blk b hb).2
       simp at hm;omega
      ·have h2:=h b hb
       simp at hm;omega)
     have HMB:Hid (∀ b∈blkL mv,b∉[wo.heap.size+1,wo.heap.size+1+1]):=tH (fun b hb hm=>by
      have h2:=(hRm.row.blk b hb).1
      simp at hm;omega)
     have HRMM:=tH hRm
     have HMM:=tH hmm
     have hmv:=hRm.spns
     rw[hmm] at hmv
     obtain⟨ma,mc,rfl⟩:=hmv.len
     have HMV:=tH hmv
     have hol:(ownP p.clear (rsR.map Prod.fst) L[k].l).length≤6:=by rw[ownP_len,HRLN.out];exact hc6
     clear hRm hmm hmv hqb hmz
     go_wp2_with fail
     refine(l03First_any _ (ownP p.clear (rsR.map Prod.fst) L[k].l) _ _ _ _ (HMV.out.ext rSpnS_stable xE) (by omega) HJO.out.1.need.1 (by omega) (by omega) (by omega) (by omega)).mono ?_
     rintro e _ ⟨rfl,⟨X3,rfl⟩⟩
     have hrg:=firstL_range (rows:=ownP p.clear (rsR.map Prod.fst) L[k].l) (need:=L[k].need) (length:=L[k].long) (now:=p.now)
     generalize ht:firstL (ownP p.clear (rsR.map Prod.fst) L[k].l) L[k].need L[k].long p.now=t at hrg
     have HT:=tH ht
     clear ht
     by_cases htn:t < 0
     ·have HPN:=tH (placed_none (clear:=p.clear) HST.out (by rw[HT.out];exact htn))
      have HSN:Hid (foldP p.clear p.now (L.take (k+1))=foldP p.clear p.now (L.take k)):=tH (by rw[HFO.out,stepP_none (by rw[← HRM.out];exact HPN.out)])
      go_wp2
      exact⟨⟨k+1,ss,rsR,oa,ol,oc,by omega,by go_num,rfl,tH ((HE.out.trans HEV0.out).trans xE),tH ((HS.out.ext HEV0.out).ext xE),tH (by rw[HSN.out];exact HSM.out),tH ((HR.out.ext HEV0.out).ext xE),tH (by rw[HSN.out];exact HRM.out),tH ((HRJ.out.ext HEV0.out).ext xE)⟩,by simp[intOf];omega⟩
     have hrg2:p.now≤t∧t≤p.now+40:=by omega
     obtain⟨r1,r2⟩:=hrg2
     have HPP:=tH (placed_fit (clear:=p.clear) HST.out HT.out htn)
     clear hrg
     go_upto_region 15 with fail
     refine gen_world (fun V3 hV3=>?_)
     have HVV:Hid (Ext V V3):=tH (by rw[hV3];exact xE)
     have HRM3:=tH (HRMM.out.ext (show Ext _ V3 by rw[hV3];exact xE))
     clear hV3 HMV HRMM hp0 hp1 hp2 hpo j0 j1 j2 j3 j4 j5 j6 j7 j8 jo hn2 HST
     have HB93:=tH (HB90.out.ext HVV.out)
     have HB83:=tH (HB80.out.ext HVV.out)
     have HBJ3:=tH (HBJ.out.ext HVV.out)
     have e0:=HB93.out.cell 0
     have e1:=HB93.out.cell 1
     have o9:=HB93.out.old
     have f90:=HB93.out.fz 0
     have f91:=HB93.out.fz 1
     have j3:=HBJ3.out.cell 3
     have j4:=HBJ3.out.cell 4
     have jo:=HBJ3.out.old
     simp only[Jb.cells,List.getElem?_cons_zero,List.getElem?_cons_succ] at e0 e1 j3 j4
     go_upto_region 16 with fail
     refine gen_world (fun V4 hV4=>?_)
     have HB94:Hid (Blk V4 (wo.heap.size+1+1) [(.int .i64 t),(.int .i64 (t+L[k].long))] 124):=tH (by rw[hV4];exact(HB93.out.set 0 (.int .i64 t)).set 1 (.int .i64 (t+L[k].long)))
     have HC4:Hid (Chg [wo.heap.size+1,wo.heap.size+1+1] V3 V4):=tH (by rw[hV4];exact Chg.setCell (Chg.setCell ((Ext.refl _).chg _) (.inl (by simp)) _) (.inl (by simp)) _)
     have HC4b:Hid (Chg [wo.heap.size+1+1] V3 V4):=tH (by rw[hV4];exact Chg.setCell (Chg.setCell ((Ext.refl _).chg _) (.inl (by simp)) _) (.inl (by simp)) _)
     have HB84:=tH (HB83.out.chg HC4b.out (by simp))
     have HBJ4:=tH (HBJ3.out.chg HC4b.out (by simp;omega))
     clear hV4 e0 e1 o9 f90 f91 j3 j4 jo HC4b HB93 HB83 HBJ3
     have s3:=HB84.out.cell 3
     have o8:=HB84.out.old
     have f83:=HB84.out.fz 3
     simp only[List.getElem?_cons_zero,List.getElem?_cons_succ] at s3
     go_upto_region 17 with fail
     refine gen_world (fun V5 hV5=>?_)
     have HB85:Hid (Blk V5 (wo.heap.size+1) [(.int .i64 L[k].l.lv),(.int .i64 L[k].l.st),(.int .i64 L[k].id),(.int .i64 t),.slice na L[k].nodes.length nc] 104):=tH (by rw[hV5];exact HB84.out.set 3 (.int .i64 t))
     have HC5b:Hid (Chg [wo.heap.size+1] V4 V5):=tH (by rw[hV5];exact Chg.setCell ((Ext.refl _).chg _) (.inl (by simp)) _)
     have HC5:Hid (Chg [wo.heap.size+1,wo.heap.size+1+1] V3 V5):=tH (HC4.out.trans (by rw[hV5];exact Chg.setCell ((Ext.refl _).chg _) (.inl (by simp)) _))
     have HB95:=tH (HB94.out.chg HC5b.out (by simp))
     have HBJ5:=tH (HBJ4.out.chg HC5b.out (by simp))
     clear hV5 s3 o8 f83 HC5b HB84 HB94 HBJ4 HC4
     have HMV5:=tH (HRM3.out.chgB HC5.out HMB.out HQB.out).spns
     rw[HMM.out] at HMV5
     have e0:=HB95.out.cell 0
     have e1:=HB95.out.cell 1
     have o9:=HB95.out.old
     have j3:=HBJ5.out.cell 3
     have jo:=HBJ5.out.old
     simp only[Jb.cells,List.getElem?_cons_zero,List.getElem?_cons_succ] at e0 e1 j3
     go_wp2_with fail
     refine(l03Fit_any _ (ownP p.clear (rsR.map Prod.fst) L[k].l) _ ⟨t,t+L[k].long⟩ _ (HMV5.out.ext rSpnS_stable xE) (by omega) HJO.out.1.need.1).mono ?_
     rintro e _ ⟨nv,rfl,⟨Y,rfl⟩,hO⟩
     generalize fitNeed (ownP p.clear (rsR.map Prod.fst) L[k].l) L[k].need ⟨t,t+L[k].long⟩=NN at HPP hO
     obtain⟨na2,nc2,rfl⟩:=hO.shape
     have HO6:=tH (hO.mono (Nat.zero_le _))
     have HE56:Hid (Ext V5 (V5.plus Y)):=tH xE
     clear hO e0 e1 o9 j3 jo
     generalize V5.plus Y=V6 at HO6 HE56 ⊢
     have HB86:=tH (HB85.out.ext HE56.out)
     have s4:=HB86.out.cell 4
     have o8:=HB86.out.old
     have f84:=HB86.out.fz 4
     simp only[List.getElem?_cons_zero,List.getElem?_cons_succ] at s4
     go_upto_region 18 with fail
     refine gen_world (fun V7 hV7=>?_)
     have hV7':V7=V6.setCell ⟨wo.heap.size+1,4,none⟩ (.slice na2 NN.length nc2):=hV7
     have HB8:Hid (Blk V7 (wo.heap.size+1) [(.int .i64 L[k].l.lv),(.int .i64 L[k].l.st),(.int .i64 L[k].id),(.int .i64 t),.slice na2 NN.length nc2] 104):=tH (by rw[hV7'];exact HB86.out.set 4 (.slice na2 NN.length nc2))
     have HC7:Hid (Chg [wo.heap.size+1] V6 V7):=tH (by rw[hV7'];exact Chg.setCell ((Ext.refl _).chg _) (.inl (by simp)) _)
     have HC8:Hid (Chg [wo.heap.size+1,wo.heap.size+1+1] V3 V7):=tH ((HC5.out.trans (HE56.out.chg _)).trans (by rw[hV7'];exact Chg.setCell ((Ext.refl _).chg _) (.inl (by simp)) _))
     have HB9:=tH ((HB95.out.ext HE56.out).chg HC7.out (by simp))
     have HND:=tH (row_chgT HO6.out HC7.out (Blk.other HB86.out (by decide)))
     have HEV:Hid (Ext wo V7):=tH (HC8.out.ext (HEV0.out.trans HVV.out) (fun b hb=>by simp at hb;omega))
     clear hV7 hV7' s4 o8 f84 HB86 HC7 HC8 HC5 HB85 HB95 HBJ5 HMV5 HB80 HB90 HNR HBJ HRM3 HMM HQB HMB HO6 HE56
     have HFN:Hid (foldP p.clear p.now (L.take (k+1))=((foldP p.clear p.now (L.take k)).1++[⟨L[k].l,L[k].id,t,NN⟩],putAll ⟨t,(t+L[k].long)⟩ (rsR.map Prod.fst) NN)):=tH (by rw[HFO.out,stepP_some HSC.out (by rw[← HRM.out];exact HPP.out),HRM.out])
     have hpg:=placed_good (clear:=p.clear) HN.out (by rw[HRM.out];exact HRO.out.2.symm) HJO.out.1 HPP.out
     have HXO:Hid (spnOk ⟨t,(t+L[k].long)⟩=true):=tH hpg.1
     have HGD:Hid (GoodN (rsR.map Prod.fst) ⟨t,(t+L[k].long)⟩ NN):=tH hpg.2.1
     have HSTT:Hid (0≤t∧t≤1000000):=tH hpg.2.2.2.2
     have HRK:Hid (Rok (rsR.map Prod.fst)):=tH (by rw[HRM.out];exact HRO.out.1)
     have HRL:Hid (rsR.length=p.clear.length):=tH (by rw[← HRO.out.2,← HRM.out,List.length_map])
     have HN6:Hid (List.length NN≤6):=tH (by have h:=HGD.out.len;rw[List.length_map,HRL.out] at h;omega)
     have HGW:Hid (g < wo.heap.size):=tH (HR.out.row.blk g (by simp[blkL])).2
     have HRV:=tH (HR.out.ext HEV.out)
     have HOG1:Hid (Other V7 2 [g]):=tH (by simpa [blkL] using other_row (ty:=2) HRV.out.row (by decide))
     have hn6:=HN6.out
     clear hpg
     go_wp2
     go_loopw [12,13] (fun i _ wr=>∃ m:Nat,∃ rsM:List RW,m≤List.length NN∧i=.int .i64 m∧Hid (Chg [g] V7 wr)∧Hid (RowR W1.heap.size wr (.slice (some ⟨g,0,none⟩) p.clear.length p.clear.length) rsM)∧Hid (Rok (rsM.map Prod.fst)∧GoodN (rsM.map Prod.fst) ⟨t,(t+L[k].long)⟩ (List.drop m NN)∧putAll ⟨t,(t+L[k].long)⟩ (rsM.map Prod.fst) (List.drop m NN)=putAll ⟨t,(t+L[k].long)⟩ (rsR.map Prod.fst) NN)) (fun i _ _=>List.length NN-(intOf i).toNat)
     case atStart=>exact⟨0,rsR,Nat.zero_le _,rfl,tH ((Ext.refl _).chg _),HRV,tH ⟨HRK.out,HGD.out,rfl⟩⟩
     case round =>
      obtain⟨m,rsM,hm,rfl,HCM,HRR,HKK⟩:=hrel
      have hb8:Blk wr (wo.heap.size+1) [(.int .i64 L[k].l.lv),(.int .i64 L[k].l.st),(.int .i64 L[k].id),(.int .i64 t),.slice na2 (List.length NN) nc2] 104:=HB8.out.chg HCM.out (by have:=HGW.out;simp;omega)
      have hb9:Blk wr (wo.heap.size+1+1) [(.int .i64 t),(.int .i64 (t+L[k].long))] 124:=HB9.out.chg HCM.out (by have:=HGW.out;simp;omega)
      have HNQ:=tH (row_chgT HND.out HCM.out HOG1.out)
      have HB8Q:=tH hb8
      have s8:=hb8.cell 4
      have o8:=hb8.old
      have e0:=hb9.cell 0
      have e1:=hb9.cell 1
      have o9:=hb9.old
      simp only[List.getElem?_cons_zero,List.getElem?_cons_succ] at s8 e0 e1
      clear hb8 hb9
      by_cases hlm:m < List.length NN
      ·have hdr:=List.drop_eq_getElem_cons hlm
       have hkk:=HKK.out
       rw[hdr] at hkk
       obtain⟨q1,q2,q3⟩:=hkk.2.1.at_ _ (List.mem_cons_self ..)
       obtain⟨q,hq⟩:=Int.eq_ofNat_of_zero_le q1
       have hqM:q < rsM.length:=by rw[List.length_map] at q2;omega
       obtain⟨f1,f2,f3,f4⟩:=put_fact hkk.1 HXO.out hkk.2.1 hq (by simpa using hqM)
       have HF4:=tH hkk
       rw[List.getElem_map] at f1 f2 f3 f4
       have HF1:=tH f1
       have HF2:=tH f2
       have HF3:=tH f3
       have hqc:q < p.clear.length:=by have h:=HRR.out.len;omega
       have hnl:=HNQ.out
       obtain⟨nb,ncap,hnv⟩:=row_some hnl (Nat.lt_of_le_of_lt (Nat.zero_le _) hlm)
       have hn0:=row_cell (g:=nb) (by rw[← hnv];exact hnl) (j:=m) (u:=(.int .i64 (List.get NN ⟨m,hlm⟩))) (by rw[int_map];simp[hlm])
       have hn0q:wr.cell? ⟨nb,m,none⟩=some (.int .i64 (q:Int)):=by rw[← hq];exact hn0
       have hno:=World.old_of_cell hn0q
       obtain⟨rfl,rfl⟩:na2=some ⟨nb,0,none⟩∧nc2=ncap:=by simpa using hnv
       have hcq:=HRR.out.cell hqM
       obtain⟨hfz,hro,hgB⟩:=HRR.out.fz q
       unfold RW.nv at hcq
       have HQ:=tH hq
       have HF5:=tH f4
       clear hn0 hnv hnl q1 q2 q3 f1 f2 f3 f4 hkk hdr hq hgB
       by_cases h20:rsM[q].1.length < 20
       ·obtain⟨NL,hNL⟩:∃ NL,NL=insL rsM[q].1 (posS rsM[q].1 t) ⟨t,(t+L[k].long)⟩:=⟨_,rfl⟩
        have HNL:=tH hNL
        have hNLl:NL.length≤21:=by rw[hNL,insL_len _ (posS_le _ _)];omega
        clear hNL
        have hd20:decide (((rsM[q].1.length:Nat):Int) < 20)=true:=decide_eq_true (by omega)
        go_upto_region 23 with fail
        (apply wp_region_y (m:=9) (Ks:=[_,_,_,_,_,_,_,kRow 124 2 Spn.cells NL,_]);(case hm=>kernel_rfl);(case hc=>kernel_rfl);(case hd=>kernel_rfl);(case hl=>rfl))
        case h =>
         iterate 7 (apply YReg.step;(case h=>(intro w' hw' hF';obtain⟨X',rfl⟩:=hw';have HF':=tH hF';clear hF';go_wp2_with (fail);exact⟨rfl,xE⟩));(case hv=>kernel_rfl))
         refine YReg.kind (fun w' hw' hF'=>?_) (fun v9 w1 hK=>?_)
         ·obtain⟨X9,rfl⟩:=hw'
          clear hF'
          go_wp2_with fail
          refine(l03Put_any _ rsM[q].1 ⟨t,(t+L[k].long)⟩ _ ((HRR.out.at_ hqM).ext rSpn_stable xE) (by omega)).mono ?_
          rintro e _ ⟨v8,rfl,⟨Y9,rfl⟩,hO9⟩
          rw[← HNL.out] at hO9
          have H9:=tH (kRow_in (hO9.mono (Nat.zero_le _)))
          clear hO9
          go_wp2
          exact⟨xE,H9.out⟩
         obtain⟨a9,c9,rfl,hq9⟩:=hK
         clear hq9 w1
         refine YReg.va (.pointer (some ⟨g,q,none⟩)) ?_
         refine YReg.done1 (fun X3 hF=>?_)
         have hk9:kRow 124 2 Spn.cells NL (.slice a9 NL.length c9) (wr.plus X3):=hF 7 (kRow 124 2 Spn.cells NL,.slice a9 NL.length c9) (by kernel_rfl)
         obtain⟨_,_,hv9,hr9⟩:=hk9
         rw[← hv9] at hr9
         have HR9:=tH hr9
         have HEZ:Hid (Ext wr (wr.plus X3)):=tH ((Ext.refl _).plus _)
         clear hF hv9 hr9 s8 o8 e0 e1 o9 hn0q hno hcq hfz hro
         generalize wr.plus X3=Wz at HR9 HEZ ⊢
         have hcq:=(HRR.out.ext HEZ.out).cell hqM
         obtain⟨hfz,hro,hgB⟩:=(HRR.out.ext HEZ.out).fz q
         unfold RW.nv at hcq
         clear hgB
         go_upto_region 20 with fail
         refine gen_world (fun Z hZ=>?_)
         have hZ':Z=Wz.setCell ⟨g,q,none⟩ (.slice a9 NL.length c9):=hZ
         have HRZ:Hid (RowR W1.heap.size Z (.slice (some ⟨g,0,none⟩) p.clear.length p.clear.length) (rsM.set q (NL,(a9,c9)))):=tH (by rw[hZ'];exact(HRR.out.ext HEZ.out).set hqM (NL,(a9,c9)) ⟨by rw[HNL.out,← HF2.out h20];exact putL_ok (HRR.out.nd _ (List.getElem_mem hqM)).1 (spnOk_ok HXO.out),HR9.out⟩)
         have HCZ:Hid (Chg [g] V7 Z):=tH (by rw[hZ'];exact Chg.setCell (HCM.out.trans (HEZ.out.chg _)) (.inl (by simp)) _)
         clear hZ hZ' hcq hfz hro
         have HM1:Hid ((rsM.set q (NL,(a9,c9))).map Prod.fst=put1 ⟨t,(t+L[k].long)⟩ (rsM.map Prod.fst) (List.get NN ⟨m,hlm⟩)):=tH (by rw[List.map_set];exact(by rw[HNL.out,← HF2.out h20];exact HF1.out.symm))
         go_wp2
         exact⟨⟨m+1,_,by omega,by go_num,HCZ,HRZ,tH (by rw[HM1.out];exact put_step HF4.out HXO.out)⟩,by simp[intOf];omega⟩
        case hg =>
         (repeat' (first | exact trivial | exact XReg.GoodK.same _ default | refine And.intro ?_ ?_))
         exact kRow_good wr (fun _=>rfl) (by unfold maxLen;omega)
       ·have HM1:Hid (rsM.map Prod.fst=put1 ⟨t,(t+L[k].long)⟩ (rsM.map Prod.fst) (List.get NN ⟨m,hlm⟩)):=tH (by
         have h1:=HF1.out
         rw[HF3.out h20] at h1
         refine Eq.trans ?_ h1.symm
         rw[← List.getElem_map (f:=Prod.fst) (h:=by simpa using hqM),List.set_getElem_self])
        go_wp2
        exact⟨⟨m+1,rsM,by omega,by go_num,tH (HCM.out.trans (Ext.chg (show Ext wr _ from xE) _)),tH (HRR.out.ext xE),tH (by rw[HM1.out];exact put_step HF4.out HXO.out)⟩,by simp[intOf];omega⟩
      ·obtain rfl:m=List.length NN:=by omega
       have s0:=HB8Q.out.cell 0
       have s1:=HB8Q.out.cell 1
       have s2:=HB8Q.out.cell 2
       have s3:=HB8Q.out.cell 3
       simp only[List.getElem?_cons_zero,List.getElem?_cons_succ] at s0 s1 s2 s3
       have HKF:Hid (rsM.map Prod.fst=putAll ⟨t,(t+L[k].long)⟩ (rsR.map Prod.fst) NN):=tH (by have h:=HKK.out.2.2;rw[List.drop_length,putAll_nil] at h;exact h)
       have HOV:∀ ty:Nat,¬ 129=ty→Other V7 ty [g]:=fun ty hne=>by simpa [blkL] using other_row (ty:=ty) HRV.out.row hne
       have HSQ:=tH ((HS.out.ext HEV.out).chgT HCM.out (HOV _ (by decide)) (HOV _ (by decide)))
       have HJQ:=tH ((HRJ.out.ext HEV.out).chgT HCM.out (HOV _ (by decide)) (HOV _ (by decide)))
       have HEQ:Hid (Ext W1 wr):=tH (HCM.out.ext (HE.out.trans HEV.out) (fun b hb=>by obtain rfl:=List.mem_singleton.1 hb;exact(HRV.out.row.blk b (by simp[blkL])).1))
       have HSK:Hid (ss.length≤k):=tH (by have h:=HSL.out;rw[← HSM.out,List.length_map] at h;exact h)
       have HSO:Hid (Slt.ok ⟨L[k].l,L[k].id,t,NN⟩):=tH ⟨HJO.out.2.1.1,HJO.out.2.1.2.1,(by have:=HSTT.out;exact⟨by omega,by omega⟩:I64 t),HGD.out.i64 (by rw[List.length_map,HRL.out];omega)⟩
       clear HOV e0 e1 o9
       go_upto_region 24 with fail
       go_wp2_with (at_builtin;go_must (refine Row.appN (f:=RS.cells) el_Slot rfl _ _ rfl W1.heap.size HEQ.out.below.size (.slice oa ol oc) ss rfl HSQ.out.row (⟨L[k].l,L[k].id,t,NN⟩,(na2,nc2)) rfl _ ?_ rfl (fun _=>rfl) ?_ ?_ ?_ ?_);(simp[go_sem]);(intro u hu;exact RS.one (⟨L[k].l,L[k].id,t,NN⟩,(na2,nc2)) u hu);(have:=HSK.out;unfold maxLen;omega);(have:=HSK.out;omega);intro v8 w8 hR8 hc8;have HR8:=tH hR8;have HC8:=tH hc8;clear hR8 hc8;obtain⟨a8,c8,rfl⟩:=HR8.out.shape;simp only[List.length_append,List.length_singleton] at HR8 ⊢)
       refine⟨⟨k+1,ss++[(⟨L[k].l,L[k].id,t,NN⟩,(na2,nc2))],rsM,a8,_,c8,by omega,by go_num,rfl,tH ?_,tH ?_,tH ?_,tH ?_,tH ?_,tH ?_⟩,by simp[intOf];omega⟩
       ·exact HC8.out.ext HEQ.out (fun b hb=>(HSQ.out.row.blk b hb).1)
       ·exact HSQ.out.snoc HR8.out HC8.out ⟨HSO.out,HNQ.out⟩
       ·rw[List.map_append,HSM.out,HFN.out];rfl
       ·exact HRR.out.chgT HC8.out (other_row HSQ.out.row (by decide)) (other_row HSQ.out.row (by decide))
       ·rw[HFN.out];exact HKF.out
       ·exact HJQ.out.chgT HC8.out (other_row HSQ.out.row (by decide)) (other_row HSQ.out.row (by decide))
   ·have HSC:Hid ((L[k].state == 2 || L[k].state == 1)=true):=tH (by rw[hs2];rfl)
    have hn2:(L[k].state != 2)=false:=by unfold bne;rw[hs2];rfl
    obtain⟨t1,t2⟩:=HJO.out.1.st
    obtain⟨t3,t4⟩:=HJO.out.1.long
    have hnw:=HN.out
    go_upto_region 11 with fail
    refine gen_world (fun V hV=>?_)
    have HEV0:Hid (Ext wo V):=tH (by rw[hV];exact xE)
    have HBJ:Hid (Blk V wo.heap.size (L[k].cells (.slice na L[k].nodes.length nc)) 92):=tH (by rw[hV];exact(Blk.new (cs:=(L[k].cells (.slice na L[k].nodes.length nc)).toArray) rfl).ext xE)
    have HB80:Hid (Blk V (wo.heap.size+1) [(.int .i64 L[k].l.lv),(.int .i64 L[k].l.st),(.int .i64 L[k].id),(.int .i64 L[k].start),.slice na L[k].nodes.length nc] 104):=tH (by rw[hV];exact(Blk.new (w:=wo.alloc _) (cs:=#[(.int .i64 L[k].l.lv),(.int .i64 L[k].l.st),(.int .i64 L[k].id),(.int .i64 L[k].start),.slice na L[k].nodes.length nc]) (by simp[go_sem])).ext xE)
    have HB90:Hid (Blk V (wo.heap.size+1+1) [(.int .i64 p.now),(.int .i64 (L[k].start+L[k].long))] 124):=tH (by rw[hV];exact(Blk.new (w:=(wo.alloc _).alloc _) (cs:=#[(.int .i64 p.now),(.int .i64 (L[k].start+L[k].long))]) (by simp[go_sem])).ext xE)
    have HNR:=tH ((HRJ.out.node HM.out hlt c8).ext HEV0.out)
    clear hV ho c0 c1 c2 c3 c4 c5 c6 c7 c8
    have hp0:=HEV0.out.cell p0
    have hp1:=HEV0.out.cell p1
    have hp2:=HEV0.out.cell p2
    have hpo:=World.old_of_cell hp0
    clear p0 p1 p2 po
    have j0:=HBJ.out.cell 0
    have j1:=HBJ.out.cell 1
    have j2:=HBJ.out.cell 2
    have j3:=HBJ.out.cell 3
    have j4:=HBJ.out.cell 4
    have j5:=HBJ.out.cell 5
    have j6:=HBJ.out.cell 6
    have j7:=HBJ.out.cell 7
    have j8:=HBJ.out.cell 8
    have jo:=HBJ.out.old
    simp only[Jb.cells,List.getElem?_cons_zero,List.getElem?_cons_succ] at j0 j1 j2 j3 j4 j5 j6 j7 j8
    have HRLN:Hid ((rsR.map Prod.fst).length=p.clear.length):=tH (by rw[HRM.out];exact HRO.out.2)
    go_wp2_with fail
    refine(l05Stays_any _ _ _ _ (rsR.map Prod.fst) L[k] _ _ ((HR.out.ext HEV0.out).spns.ext rSpnS_stable xE) (row_int (HNR.out.ext xE) HJO.out.2.2) HN.out (by rw[HRLN.out];exact HJO.out.1)).mono ?_
    rintro e _ ⟨rfl,⟨X1,rfl⟩⟩
    cases hst:staysP p.now (rsR.map Prod.fst) L[k]
    ·skip
     have HST:=tH hst
     clear hst
     go_wp2_with fail
     refine(l05Rows_any _ _ p.clear _ _ _ rsR L[k].l _ (((HR.out.ext HEV0.out).ext xE).mono (Nat.zero_le _)) (HC.out.ext rLabS_stable (((HE0.out.trans HE.out).trans HEV0.out).trans xE)) (by have h:=HRLN.out;rw[List.length_map] at h;exact h.symm) (by have h:=HRLN.out;rw[List.length_map] at h;omega)).mono ?_
     rintro e _ ⟨mv,ms,rfl,⟨X2,rfl⟩,hRm,hmm,hqb⟩
     have hmz:wo.heap.size+1+1 < (V.plus X1).heap.size:=by have h:=HB90.out.old;unfold World.old at h;simp;omega
     have HQB:Hid (∀ r∈ms,∀ b∈blkL (RW.nv r),b∉[wo.heap.size+1,wo.heap.size+1+1]):=tH (fun r hr b hb hm=>by
      rcases hqb r hr with h | h
      ·have h2:=((HR.out.nd r h).2.blk b hb).2
       simp at hm;omega
      ·have h2:=h b hb
       simp at hm;omega)
     have HMB:Hid (∀ b∈blkL mv,b∉[wo.heap.size+1,wo.heap.size+1+1]):=tH (fun b hb hm=>by
      have h2:=(hRm.row.blk b hb).1
      simp at hm;omega)
     have HRMM:=tH hRm
     have HMM:=tH hmm
     have hmv:=hRm.spns
     rw[hmm] at hmv
     obtain⟨ma,mc,rfl⟩:=hmv.len
     have HMV:=tH hmv
     have hol:(ownP p.clear (rsR.map Prod.fst) L[k].l).length≤6:=by rw[ownP_len,HRLN.out];exact hc6
     clear hRm hmm hmv hqb hmz
     go_wp2_with fail
     refine(l03First_any _ (ownP p.clear (rsR.map Prod.fst) L[k].l) _ _ _ _ (HMV.out.ext rSpnS_stable xE) (by omega) HJO.out.1.need.1 (by omega) (by omega) (by omega) (by omega)).mono ?_
     rintro e _ ⟨rfl,⟨X3,rfl⟩⟩
     have hrg:=firstL_range (rows:=ownP p.clear (rsR.map Prod.fst) L[k].l) (need:=L[k].need) (length:=L[k].long) (now:=p.now)
     generalize ht:firstL (ownP p.clear (rsR.map Prod.fst) L[k].l) L[k].need L[k].long p.now=t at hrg
     have HT:=tH ht
     clear ht
     by_cases htn:t < 0
     ·have HPN:=tH (placed_none (clear:=p.clear) HST.out (by rw[HT.out];exact htn))
      have HSN:Hid (foldP p.clear p.now (L.take (k+1))=foldP p.clear p.now (L.take k)):=tH (by rw[HFO.out,stepP_none (by rw[← HRM.out];exact HPN.out)])
      go_wp2
      exact⟨⟨k+1,ss,rsR,oa,ol,oc,by omega,by go_num,rfl,tH ((HE.out.trans HEV0.out).trans xE),tH ((HS.out.ext HEV0.out).ext xE),tH (by rw[HSN.out];exact HSM.out),tH ((HR.out.ext HEV0.out).ext xE),tH (by rw[HSN.out];exact HRM.out),tH ((HRJ.out.ext HEV0.out).ext xE)⟩,by simp[intOf];omega⟩
     have hrg2:p.now≤t∧t≤p.now+40:=by omega
     obtain⟨r1,r2⟩:=hrg2
     have HPP:=tH (placed_fit (clear:=p.clear) HST.out HT.out htn)
     clear hrg
     go_upto_region 15 with fail
     refine gen_world (fun V3 hV3=>?_)
     have HVV:Hid (Ext V V3):=tH (by rw[hV3];exact xE)
     have HRM3:=tH (HRMM.out.ext (show Ext _ V3 by rw[hV3];exact xE))
     clear hV3 HMV HRMM hp0 hp1 hp2 hpo j0 j1 j2 j3 j4 j5 j6 j7 j8 jo hn2 HST
     have HB93:=tH (HB90.out.ext HVV.out)
     have HB83:=tH (HB80.out.ext HVV.out)
     have HBJ3:=tH (HBJ.out.ext HVV.out)
     have e0:=HB93.out.cell 0
     have e1:=HB93.out.cell 1
     have o9:=HB93.out.old
     have f90:=HB93.out.fz 0
     have f91:=HB93.out.fz 1
     have j3:=HBJ3.out.cell 3
     have j4:=HBJ3.out.cell 4
     have jo:=HBJ3.out.old
     simp only[Jb.cells,List.getElem?_cons_zero,List.getElem?_cons_succ] at e0 e1 j3 j4
     go_upto_region 16 with fail
     refine gen_world (fun V4 hV4=>?_)
     have HB94:Hid (Blk V4 (wo.heap.size+1+1) [(.int .i64 t),(.int .i64 (t+L[k].long))] 124):=tH (by rw[hV4];exact(HB93.out.set 0 (.int .i64 t)).set 1 (.int .i64 (t+L[k].long)))
     have HC4:Hid (Chg [wo.heap.size+1,wo.heap.size+1+1] V3 V4):=tH (by rw[hV4];exact Chg.setCell (Chg.setCell ((Ext.refl _).chg _) (.inl (by simp)) _) (.inl (by simp)) _)
     have HC4b:Hid (Chg [wo.heap.size+1+1] V3 V4):=tH (by rw[hV4];exact Chg.setCell (Chg.setCell ((Ext.refl _).chg _) (.inl (by simp)) _) (.inl (by simp)) _)
     have HB84:=tH (HB83.out.chg HC4b.out (by simp))
     have HBJ4:=tH (HBJ3.out.chg HC4b.out (by simp;omega))
     clear hV4 e0 e1 o9 f90 f91 j3 j4 jo HC4b HB93 HB83 HBJ3
     have s3:=HB84.out.cell 3
     have o8:=HB84.out.old
     have f83:=HB84.out.fz 3
     simp only[List.getElem?_cons_zero,List.getElem?_cons_succ] at s3
     go_upto_region 17 with fail
     refine gen_world (fun V5 hV5=>?_)
     have HB85:Hid (Blk V5 (wo.heap.size+1) [(.int .i64 L[k].l.lv),(.int .i64 L[k].l.st),(.int .i64 L[k].id),(.int .i64 t),.slice na L[k].nodes.length nc] 104):=tH (by rw[hV5];exact HB84.out.set 3 (.int .i64 t))
     have HC5b:Hid (Chg [wo.heap.size+1] V4 V5):=tH (by rw[hV5];exact Chg.setCell ((Ext.refl _).chg _) (.inl (by simp)) _)
     have HC5:Hid (Chg [wo.heap.size+1,wo.heap.size+1+1] V3 V5):=tH (HC4.out.trans (by rw[hV5];exact Chg.setCell ((Ext.refl _).chg _) (.inl (by simp)) _))
     have HB95:=tH (HB94.out.chg HC5b.out (by simp))
     have HBJ5:=tH (HBJ4.out.chg HC5b.out (by simp))
     clear hV5 s3 o8 f83 HC5b HB84 HB94 HBJ4 HC4
     have HMV5:=tH (HRM3.out.chgB HC5.out HMB.out HQB.out).spns
     rw[HMM.out] at HMV5
     have e0:=HB95.out.cell 0
     have e1:=HB95.out.cell 1
     have o9:=HB95.out.old
     have j3:=HBJ5.out.cell 3
     have jo:=HBJ5.out.old
     simp only[Jb.cells,List.getElem?_cons_zero,List.getElem?_cons_succ] at e0 e1 j3
     go_wp2_with fail
     refine(l03Fit_any _ (ownP p.clear (rsR.map Prod.fst) L[k].l) _ ⟨t,t+L[k].long⟩ _ (HMV5.out.ext rSpnS_stable xE) (by omega) HJO.out.1.need.1).mono ?_
     rintro e _ ⟨nv,rfl,⟨Y,rfl⟩,hO⟩
     generalize fitNeed (ownP p.clear (rsR.map Prod.fst) L[k].l) L[k].need ⟨t,t+L[k].long⟩=NN at HPP hO
     obtain⟨na2,nc2,rfl⟩:=hO.shape
     have HO6:=tH (hO.mono (Nat.zero_le _))
     have HE56:Hid (Ext V5 (V5.plus Y)):=tH xE
     clear hO e0 e1 o9 j3 jo
     generalize V5.plus Y=V6 at HO6 HE56 ⊢
     have HB86:=tH (HB85.out.ext HE56.out)
     have s4:=HB86.out.cell 4
     have o8:=HB86.out.old
     have f84:=HB86.out.fz 4
     simp only[List.getElem?_cons_zero,List.getElem?_cons_succ] at s4
     go_upto_region 18 with fail
     refine gen_world (fun V7 hV7=>?_)
     have hV7':V7=V6.setCell ⟨wo.heap.size+1,4,none⟩ (.slice na2 NN.length nc2):=hV7
     have HB8:Hid (Blk V7 (wo.heap.size+1) [(.int .i64 L[k].l.lv),(.int .i64 L[k].l.st),(.int .i64 L[k].id),(.int .i64 t),.slice na2 NN.length nc2] 104):=tH (by rw[hV7'];exact HB86.out.set 4 (.slice na2 NN.length nc2))
     have HC7:Hid (Chg [wo.heap.size+1] V6 V7):=tH (by rw[hV7'];exact Chg.setCell ((Ext.refl _).chg _) (.inl (by simp)) _)
     have HC8:Hid (Chg [wo.heap.size+1,wo.heap.size+1+1] V3 V7):=tH ((HC5.out.trans (HE56.out.chg _)).trans (by rw[hV7'];exact Chg.setCell ((Ext.refl _).chg _) (.inl (by simp)) _))
     have HB9:=tH ((HB95.out.ext HE56.out).chg HC7.out (by simp))
     have HND:=tH (row_chgT HO6.out HC7.out (Blk.other HB86.out (by decide)))
     have HEV:Hid (Ext wo V7):=tH (HC8.out.ext (HEV0.out.trans HVV.out) (fun b hb=>by simp at hb;omega))
     clear hV7 hV7' s4 o8 f84 HB86 HC7 HC8 HC5 HB85 HB95 HBJ5 HMV5 HB80 HB90 HNR HBJ HRM3 HMM HQB HMB HO6 HE56
     have HFN:Hid (foldP p.clear p.now (L.take (k+1))=((foldP p.clear p.now (L.take k)).1++[⟨L[k].l,L[k].id,t,NN⟩],putAll ⟨t,(t+L[k].long)⟩ (rsR.map Prod.fst) NN)):=tH (by rw[HFO.out,stepP_some HSC.out (by rw[← HRM.out];exact HPP.out),HRM.out])
     have hpg:=placed_good (clear:=p.clear) HN.out (by rw[HRM.out];exact HRO.out.2.symm) HJO.out.1 HPP.out
     have HXO:Hid (spnOk ⟨t,(t+L[k].long)⟩=true):=tH hpg.1
     have HGD:Hid (GoodN (rsR.map Prod.fst) ⟨t,(t+L[k].long)⟩ NN):=tH hpg.2.1
     have HSTT:Hid (0≤t∧t≤1000000):=tH hpg.2.2.2.2
     have HRK:Hid (Rok (rsR.map Prod.fst)):=tH (by rw[HRM.out];exact HRO.out.1)
     have HRL:Hid (rsR.length=p.clear.length):=tH (by rw[← HRO.out.2,← HRM.out,List.length_map])
     have HN6:Hid (List.length NN≤6):=tH (by have h:=HGD.out.len;rw[List.length_map,HRL.out] at h;omega)
     have HGW:Hid (g < wo.heap.size):=tH (HR.out.row.blk g (by simp[blkL])).2
     have HRV:=tH (HR.out.ext HEV.out)
     have HOG1:Hid (Other V7 2 [g]):=tH (by simpa [blkL] using other_row (ty:=2) HRV.out.row (by decide))
     have hn6:=HN6.out
     clear hpg
     go_wp2
     go_loopw [12,13] (fun i _ wr=>∃ m:Nat,∃ rsM:List RW,m≤List.length NN∧i=.int .i64 m∧Hid (Chg [g] V7 wr)∧Hid (RowR W1.heap.size wr (.slice (some ⟨g,0,none⟩) p.clear.length p.clear.length) rsM)∧Hid (Rok (rsM.map Prod.fst)∧GoodN (rsM.map Prod.fst) ⟨t,(t+L[k].long)⟩ (List.drop m NN)∧putAll ⟨t,(t+L[k].long)⟩ (rsM.map Prod.fst) (List.drop m NN)=putAll ⟨t,(t+L[k].long)⟩ (rsR.map Prod.fst) NN)) (fun i _ _=>List.length NN-(intOf i).toNat)
     case atStart=>exact⟨0,rsR,Nat.zero_le _,rfl,tH ((Ext.refl _).chg _),HRV,tH ⟨HRK.out,HGD.out,rfl⟩⟩
     case round =>
      obtain⟨m,rsM,hm,rfl,HCM,HRR,HKK⟩:=hrel
      have hb8:Blk wr (wo.heap.size+1) [(.int .i64 L[k].l.lv),(.int .i64 L[k].l.st),(.int .i64 L[k].id),(.int .i64 t),.slice na2 (List.length NN) nc2] 104:=HB8.out.chg HCM.out (by have:=HGW.out;simp;omega)
      have hb9:Blk wr (wo.heap.size+1+1) [(.int .i64 t),(.int .i64 (t+L[k].long))] 124:=HB9.out.chg HCM.out (by have:=HGW.out;simp;omega)
      have HNQ:=tH (row_chgT HND.out HCM.out HOG1.out)
      have HB8Q:=tH hb8
      have s8:=hb8.cell 4
      have o8:=hb8.old
      have e0:=hb9.cell 0
      have e1:=hb9.cell 1
      have o9:=hb9.old
      simp only[List.getElem?_cons_zero,List.getElem?_cons_succ] at s8 e0 e1
      clear hb8 hb9
      by_cases hlm:m < List.length NN
      ·have hdr:=List.drop_eq_getElem_cons hlm
       have hkk:=HKK.out
       rw[hdr] at hkk
       obtain⟨q1,q2,q3⟩:=hkk.2.1.at_ _ (List.mem_cons_self ..)
       obtain⟨q,hq⟩:=Int.eq_ofNat_of_zero_le q1
       have hqM:q < rsM.length:=by rw[List.length_map] at q2;omega
       obtain⟨f1,f2,f3,f4⟩:=put_fact hkk.1 HXO.out hkk.2.1 hq (by simpa using hqM)
       have HF4:=tH hkk
       rw[List.getElem_map] at f1 f2 f3 f4
       have HF1:=tH f1
       have HF2:=tH f2
       have HF3:=tH f3
       have hqc:q < p.clear.length:=by have h:=HRR.out.len;omega
       have hnl:=HNQ.out
       obtain⟨nb,ncap,hnv⟩:=row_some hnl (Nat.lt_of_le_of_lt (Nat.zero_le _) hlm)
       have hn0:=row_cell (g:=nb) (by rw[← hnv];exact hnl) (j:=m) (u:=(.int .i64 (List.get NN ⟨m,hlm⟩))) (by rw[int_map];simp[hlm])
       have hn0q:wr.cell? ⟨nb,m,none⟩=some (.int .i64 (q:Int)):=by rw[← hq];exact hn0
       have hno:=World.old_of_cell hn0q
       obtain⟨rfl,rfl⟩:na2=some ⟨nb,0,none⟩∧nc2=ncap:=by simpa using hnv
       have hcq:=HRR.out.cell hqM
       obtain⟨hfz,hro,hgB⟩:=HRR.out.fz q
       unfold RW.nv at hcq
       have HQ:=tH hq
       have HF5:=tH f4
       clear hn0 hnv hnl q1 q2 q3 f1 f2 f3 f4 hkk hdr hq hgB
       by_cases h20:rsM[q].1.length < 20
       ·obtain⟨NL,hNL⟩:∃ NL,NL=insL rsM[q].1 (posS rsM[q].1 t) ⟨t,(t+L[k].long)⟩:=⟨_,rfl⟩
        have HNL:=tH hNL
        have hNLl:NL.length≤21:=by rw[hNL,insL_len _ (posS_le _ _)];omega
        clear hNL
        have hd20:decide (((rsM[q].1.length:Nat):Int) < 20)=true:=decide_eq_true (by omega)
        go_upto_region 23 with fail
        (apply wp_region_y (m:=9) (Ks:=[_,_,_,_,_,_,_,kRow 124 2 Spn.cells NL,_]);(case hm=>kernel_rfl);(case hc=>kernel_rfl);(case hd=>kernel_rfl);(case hl=>rfl))
        case h =>
         iterate 7 (apply YReg.step;(case h=>(intro w' hw' hF';obtain⟨X',rfl⟩:=hw';have HF':=tH hF';clear hF';go_wp2_with (fail);exact⟨rfl,xE⟩));(case hv=>kernel_rfl))
         refine YReg.kind (fun w' hw' hF'=>?_) (fun v9 w1 hK=>?_)
         ·obtain⟨X9,rfl⟩:=hw'
          clear hF'
          go_wp2_with fail
          refine(l03Put_any _ rsM[q].1 ⟨t,(t+L[k].long)⟩ _ ((HRR.out.at_ hqM).ext rSpn_stable xE) (by omega)).mono ?_
          rintro e _ ⟨v8,rfl,⟨Y9,rfl⟩,hO9⟩
          rw[← HNL.out] at hO9
          have H9:=tH (kRow_in (hO9.mono (Nat.zero_le _)))
          clear hO9
          go_wp2
          exact⟨xE,H9.out⟩
         obtain⟨a9,c9,rfl,hq9⟩:=hK
         clear hq9 w1
         refine YReg.va (.pointer (some ⟨g,q,none⟩)) ?_
         refine YReg.done1 (fun X3 hF=>?_)
         have hk9:kRow 124 2 Spn.cells NL (.slice a9 NL.length c9) (wr.plus X3):=hF 7 (kRow 124 2 Spn.cells NL,.slice a9 NL.length c9) (by kernel_rfl)
         obtain⟨_,_,hv9,hr9⟩:=hk9
         rw[← hv9] at hr9
         have HR9:=tH hr9
         have HEZ:Hid (Ext wr (wr.plus X3)):=tH ((Ext.refl _).plus _)
         clear hF hv9 hr9 s8 o8 e0 e1 o9 hn0q hno hcq hfz hro
         generalize wr.plus X3=Wz at HR9 HEZ ⊢
         have hcq:=(HRR.out.ext HEZ.out).cell hqM
         obtain⟨hfz,hro,hgB⟩:=(HRR.out.ext HEZ.out).fz q
         unfold RW.nv at hcq
         clear hgB
         go_upto_region 20 with fail
         refine gen_world (fun Z hZ=>?_)
         have hZ':Z=Wz.setCell ⟨g,q,none⟩ (.slice a9 NL.length c9):=hZ
         have HRZ:Hid (RowR W1.heap.size Z (.slice (some ⟨g,0,none⟩) p.clear.length p.clear.length) (rsM.set q (NL,(a9,c9)))):=tH (by rw[hZ'];exact(HRR.out.ext HEZ.out).set hqM (NL,(a9,c9)) ⟨by rw[HNL.out,← HF2.out h20];exact putL_ok (HRR.out.nd _ (List.getElem_mem hqM)).1 (spnOk_ok HXO.out),HR9.out⟩)
         have HCZ:Hid (Chg [g] V7 Z):=tH (by rw[hZ'];exact Chg.setCell (HCM.out.trans (HEZ.out.chg _)) (.inl (by simp)) _)
         clear hZ hZ' hcq hfz hro
         have HM1:Hid ((rsM.set q (NL,(a9,c9))).map Prod.fst=put1 ⟨t,(t+L[k].long)⟩ (rsM.map Prod.fst) (List.get NN ⟨m,hlm⟩)):=tH (by rw[List.map_set];exact(by rw[HNL.out,← HF2.out h20];exact HF1.out.symm))
         go_wp2
         exact⟨⟨m+1,_,by omega,by go_num,HCZ,HRZ,tH (by rw[HM1.out];exact put_step HF4.out HXO.out)⟩,by simp[intOf];omega⟩
        case hg =>
         (repeat' (first | exact trivial | exact XReg.GoodK.same _ default | refine And.intro ?_ ?_))
         exact kRow_good wr (fun _=>rfl) (by unfold maxLen;omega)
       ·have HM1:Hid (rsM.map Prod.fst=put1 ⟨t,(t+L[k].long)⟩ (rsM.map Prod.fst) (List.get NN ⟨m,hlm⟩)):=tH (by
         have h1:=HF1.out
         rw[HF3.out h20] at h1
         refine Eq.trans ?_ h1.symm
         rw[← List.getElem_map (f:=Prod.fst) (h:=by simpa using hqM),List.set_getElem_self])
        go_wp2
        exact⟨⟨m+1,rsM,by omega,by go_num,tH (HCM.out.trans (Ext.chg (show Ext wr _ from xE) _)),tH (HRR.out.ext xE),tH (by rw[HM1.out];exact put_step HF4.out HXO.out)⟩,by simp[intOf];omega⟩
      ·obtain rfl:m=List.length NN:=by omega
       have s0:=HB8Q.out.cell 0
       have s1:=HB8Q.out.cell 1
       have s2:=HB8Q.out.cell 2
       have s3:=HB8Q.out.cell 3
       simp only[List.getElem?_cons_zero,List.getElem?_cons_succ] at s0 s1 s2 s3
       have HKF:Hid (rsM.map Prod.fst=putAll ⟨t,(t+L[k].long)⟩ (rsR.map Prod.fst) NN):=tH (by have h:=HKK.out.2.2;rw[List.drop_length,putAll_nil] at h;exact h)
       have HOV:∀ ty:Nat,¬ 129=ty→Other V7 ty [g]:=fun ty hne=>by simpa [blkL] using other_row (ty:=ty) HRV.out.row hne
       have HSQ:=tH ((HS.out.ext HEV.out).chgT HCM.out (HOV _ (by decide)) (HOV _ (by decide)))
       have HJQ:=tH ((HRJ.out.ext HEV.out).chgT HCM.out (HOV _ (by decide)) (HOV _ (by decide)))
       have HEQ:Hid (Ext W1 wr):=tH (HCM.out.ext (HE.out.trans HEV.out) (fun b hb=>by obtain rfl:=List.mem_singleton.1 hb;exact(HRV.out.row.blk b (by simp[blkL])).1))
       have HSK:Hid (ss.length≤k):=tH (by have h:=HSL.out;rw[← HSM.out,List.length_map] at h;exact h)
       have HSO:Hid (Slt.ok ⟨L[k].l,L[k].id,t,NN⟩):=tH ⟨HJO.out.2.1.1,HJO.out.2.1.2.1,(by have:=HSTT.out;exact⟨by omega,by omega⟩:I64 t),HGD.out.i64 (by rw[List.length_map,HRL.out];omega)⟩
       clear HOV e0 e1 o9
       go_upto_region 24 with fail
       go_wp2_with (at_builtin;go_must (refine Row.appN (f:=RS.cells) el_Slot rfl _ _ rfl W1.heap.size HEQ.out.below.size (.slice oa ol oc) ss rfl HSQ.out.row (⟨L[k].l,L[k].id,t,NN⟩,(na2,nc2)) rfl _ ?_ rfl (fun _=>rfl) ?_ ?_ ?_ ?_);(simp[go_sem]);(intro u hu;exact RS.one (⟨L[k].l,L[k].id,t,NN⟩,(na2,nc2)) u hu);(have:=HSK.out;unfold maxLen;omega);(have:=HSK.out;omega);intro v8 w8 hR8 hc8;have HR8:=tH hR8;have HC8:=tH hc8;clear hR8 hc8;obtain⟨a8,c8,rfl⟩:=HR8.out.shape;simp only[List.length_append,List.length_singleton] at HR8 ⊢)
       refine⟨⟨k+1,ss++[(⟨L[k].l,L[k].id,t,NN⟩,(na2,nc2))],rsM,a8,_,c8,by omega,by go_num,rfl,tH ?_,tH ?_,tH ?_,tH ?_,tH ?_,tH ?_⟩,by simp[intOf];omega⟩
       ·exact HC8.out.ext HEQ.out (fun b hb=>(HSQ.out.row.blk b hb).1)
       ·exact HSQ.out.snoc HR8.out HC8.out ⟨HSO.out,HNQ.out⟩
       ·rw[List.map_append,HSM.out,HFN.out];rfl
       ·exact HRR.out.chgT HC8.out (other_row HSQ.out.row (by decide)) (other_row HSQ.out.row (by decide))
       ·rw[HFN.out];exact HKF.out
       ·exact HJQ.out.chgT HC8.out (other_row HSQ.out.row (by decide)) (other_row HSQ.out.row (by decide))
    ·skip
     have HPP:=tH (placed_stays (clear:=p.clear) hst)
     clear hst hp0 hp1 hp2 hpo j0 j1 j2 j3 j4 j5 j6 j7 j8 jo
     go_upto_region 18 with fail
     refine gen_world (fun V2 hV2=>?_)
     have HVV:Hid (Ext V V2):=tH (by rw[hV2];exact xE)
     have HEV:=tH (HEV0.out.trans HVV.out)
     have HB8:=tH (HB80.out.ext HVV.out)
     have HB9:=tH (HB90.out.ext HVV.out)
     have HND:=tH (HNR.out.ext HVV.out)
     clear hV2 X1 HB80 HB90 HNR HBJ hn2
     have HFN:Hid (foldP p.clear p.now (L.take (k+1))=((foldP p.clear p.now (L.take k)).1++[⟨L[k].l,L[k].id,L[k].start,L[k].nodes⟩],putAll ⟨p.now,(L[k].start+L[k].long)⟩ (rsR.map Prod.fst) L[k].nodes)):=tH (by rw[HFO.out,stepP_some HSC.out (by rw[← HRM.out];exact HPP.out),HRM.out])
     have hpg:=placed_good (clear:=p.clear) HN.out (by rw[HRM.out];exact HRO.out.2.symm) HJO.out.1 HPP.out
     have HXO:Hid (spnOk ⟨p.now,(L[k].start+L[k].long)⟩=true):=tH hpg.1
     have HGD:Hid (GoodN (rsR.map Prod.fst) ⟨p.now,(L[k].start+L[k].long)⟩ L[k].nodes):=tH hpg.2.1
     have HSTT:Hid (0≤L[k].start∧L[k].start≤1000000):=tH hpg.2.2.2.2
     have HRK:Hid (Rok (rsR.map Prod.fst)):=tH (by rw[HRM.out];exact HRO.out.1)
     have HRL:Hid (rsR.length=p.clear.length):=tH (by rw[← HRO.out.2,← HRM.out,List.length_map])
     have HN6:Hid (List.length L[k].nodes≤6):=tH (by have h:=HGD.out.len;rw[List.length_map,HRL.out] at h;omega)
     have HGW:Hid (g < wo.heap.size):=tH (HR.out.row.blk g (by simp[blkL])).2
     have HRV:=tH (HR.out.ext HEV.out)
     have HOG1:Hid (Other V2 2 [g]):=tH (by simpa [blkL] using other_row (ty:=2) HRV.out.row (by decide))
     have hn6:=HN6.out
     clear hpg
     go_wp2
     go_loopw [12,13] (fun i _ wr=>∃ m:Nat,∃ rsM:List RW,m≤List.length L[k].nodes∧i=.int .i64 m∧Hid (Chg [g] V2 wr)∧Hid (RowR W1.heap.size wr (.slice (some ⟨g,0,none⟩) p.clear.length p.clear.length) rsM)∧Hid (Rok (rsM.map Prod.fst)∧GoodN (rsM.map Prod.fst) ⟨p.now,(L[k].start+L[k].long)⟩ (List.drop m L[k].nodes)∧putAll ⟨p.now,(L[k].start+L[k].long)⟩ (rsM.map Prod.fst) (List.drop m L[k].nodes)=putAll ⟨p.now,(L[k].start+L[k].long)⟩ (rsR.map Prod.fst) L[k].nodes)) (fun i _ _=>List.length L[k].nodes-(intOf i).toNat)
     case atStart=>exact⟨0,rsR,Nat.zero_le _,rfl,tH ((Ext.refl _).chg _),HRV,tH ⟨HRK.out,HGD.out,rfl⟩⟩
     case round =>
      obtain⟨m,rsM,hm,rfl,HCM,HRR,HKK⟩:=hrel
      have hb8:Blk wr (wo.heap.size+1) [(.int .i64 L[k].l.lv),(.int .i64 L[k].l.st),(.int .i64 L[k].id),(.int .i64 L[k].start),.slice na (List.length L[k].nodes) nc] 104:=HB8.out.chg HCM.out (by have:=HGW.out;simp;omega)
      have hb9:Blk wr (wo.heap.size+1+1) [(.int .i64 p.now),(.int .i64 (L[k].start+L[k].long))] 124:=HB9.out.chg HCM.out (by have:=HGW.out;simp;omega)
      have HNQ:=tH (row_chgT HND.out HCM.out HOG1.out)
      have HB8Q:=tH hb8
      have s8:=hb8.cell 4
      have o8:=hb8.old
      have e0:=hb9.cell 0
      have e1:=hb9.cell 1
      have o9:=hb9.old
      simp only[List.getElem?_cons_zero,List.getElem?_cons_succ] at s8 e0 e1
      clear hb8 hb9
      by_cases hlm:m < List.length L[k].nodes
      ·have hdr:=List.drop_eq_getElem_cons hlm
       have hkk:=HKK.out
       rw[hdr] at hkk
       obtain⟨q1,q2,q3⟩:=hkk.2.1.at_ _ (List.mem_cons_self ..)
       obtain⟨q,hq⟩:=Int.eq_ofNat_of_zero_le q1
       have hqM:q < rsM.length:=by rw[List.length_map] at q2;omega
       obtain⟨f1,f2,f3,f4⟩:=put_fact hkk.1 HXO.out hkk.2.1 hq (by simpa using hqM)
       have HF4:=tH hkk
       rw[List.getElem_map] at f1 f2 f3 f4
       have HF1:=tH f1
       have HF2:=tH f2
       have HF3:=tH f3
       have hqc:q < p.clear.length:=by have h:=HRR.out.len;omega
       have hnl:=HNQ.out
       obtain⟨nb,ncap,hnv⟩:=row_some hnl (Nat.lt_of_le_of_lt (Nat.zero_le _) hlm)
       have hn0:=row_cell (g:=nb) (by rw[← hnv];exact hnl) (j:=m) (u:=(.int .i64 (List.get L[k].nodes ⟨m,hlm⟩))) (by rw[int_map];simp[hlm])
       have hn0q:wr.cell? ⟨nb,m,none⟩=some (.int .i64 (q:Int)):=by rw[← hq];exact hn0
       have hno:=World.old_of_cell hn0q
       obtain⟨rfl,rfl⟩:na=some ⟨nb,0,none⟩∧nc=ncap:=by simpa using hnv
       have hcq:=HRR.out.cell hqM
       obtain⟨hfz,hro,hgB⟩:=HRR.out.fz q
       unfold RW.nv at hcq
       have HQ:=tH hq
       have HF5:=tH f4
       clear hn0 hnv hnl q1 q2 q3 f1 f2 f3 f4 hkk hdr hq hgB
       by_cases h20:rsM[q].1.length < 20
       ·obtain⟨NL,hNL⟩:∃ NL,NL=insL rsM[q].1 (posS rsM[q].1 p.now) ⟨p.now,(L[k].start+L[k].long)⟩:=⟨_,rfl⟩
        have HNL:=tH hNL
        have hNLl:NL.length≤21:=by rw[hNL,insL_len _ (posS_le _ _)];omega
        clear hNL
        have hd20:decide (((rsM[q].1.length:Nat):Int) < 20)=true:=decide_eq_true (by omega)
        go_upto_region 23 with fail
        (apply wp_region_y (m:=9) (Ks:=[_,_,_,_,_,_,_,kRow 124 2 Spn.cells NL,_]);(case hm=>kernel_rfl);(case hc=>kernel_rfl);(case hd=>kernel_rfl);(case hl=>rfl))
        case h =>
         iterate 7 (apply YReg.step;(case h=>(intro w' hw' hF';obtain⟨X',rfl⟩:=hw';have HF':=tH hF';clear hF';go_wp2_with (fail);exact⟨rfl,xE⟩));(case hv=>kernel_rfl))
         refine YReg.kind (fun w' hw' hF'=>?_) (fun v9 w1 hK=>?_)
         ·obtain⟨X9,rfl⟩:=hw'
          clear hF'
          go_wp2_with fail
          refine(l03Put_any _ rsM[q].1 ⟨p.now,(L[k].start+L[k].long)⟩ _ ((HRR.out.at_ hqM).ext rSpn_stable xE) (by omega)).mono ?_
          rintro e _ ⟨v8,rfl,⟨Y9,rfl⟩,hO9⟩
          rw[← HNL.out] at hO9
          have H9:=tH (kRow_in (hO9.mono (Nat.zero_le _)))
          clear hO9
          go_wp2
          exact⟨xE,H9.out⟩
         obtain⟨a9,c9,rfl,hq9⟩:=hK
         clear hq9 w1
         refine YReg.va (.pointer (some ⟨g,q,none⟩)) ?_
         refine YReg.done1 (fun X3 hF=>?_)
         have hk9:kRow 124 2 Spn.cells NL (.slice a9 NL.length c9) (wr.plus X3):=hF 7 (kRow 124 2 Spn.cells NL,.slice a9 NL.length c9) (by kernel_rfl)
         obtain⟨_,_,hv9,hr9⟩:=hk9
         rw[← hv9] at hr9
         have HR9:=tH hr9
         have HEZ:Hid (Ext wr (wr.plus X3)):=tH ((Ext.refl _).plus _)
         clear hF hv9 hr9 s8 o8 e0 e1 o9 hn0q hno hcq hfz hro
         generalize wr.plus X3=Wz at HR9 HEZ ⊢
         have hcq:=(HRR.out.ext HEZ.out).cell hqM
         obtain⟨hfz,hro,hgB⟩:=(HRR.out.ext HEZ.out).fz q
         unfold RW.nv at hcq
         clear hgB
         go_upto_region 20 with fail
         refine gen_world (fun Z hZ=>?_)
         have hZ':Z=Wz.setCell ⟨g,q,none⟩ (.slice a9 NL.length c9):=hZ
         have HRZ:Hid (RowR W1.heap.size Z (.slice (some ⟨g,0,none⟩) p.clear.length p.clear.length) (rsM.set q (NL,(a9,c9)))):=tH (by rw[hZ'];exact(HRR.out.ext HEZ.out).set hqM (NL,(a9,c9)) ⟨by rw[HNL.out,← HF2.out h20];exact putL_ok (HRR.out.nd _ (List.getElem_mem hqM)).1 (spnOk_ok HXO.out),HR9.out⟩)
         have HCZ:Hid (Chg [g] V2 Z):=tH (by rw[hZ'];exact Chg.setCell (HCM.out.trans (HEZ.out.chg _)) (.inl (by simp)) _)
         clear hZ hZ' hcq hfz hro
         have HM1:Hid ((rsM.set q (NL,(a9,c9))).map Prod.fst=put1 ⟨p.now,(L[k].start+L[k].long)⟩ (rsM.map Prod.fst) (List.get L[k].nodes ⟨m,hlm⟩)):=tH (by rw[List.map_set];exact(by rw[HNL.out,← HF2.out h20];exact HF1.out.symm))
         go_wp2
         exact⟨⟨m+1,_,by omega,by go_num,HCZ,HRZ,tH (by rw[HM1.out];exact put_step HF4.out HXO.out)⟩,by simp[intOf];omega⟩
        case hg =>
         (repeat' (first | exact trivial | exact XReg.GoodK.same _ default | refine And.intro ?_ ?_))
         exact kRow_good wr (fun _=>rfl) (by unfold maxLen;omega)
       ·have HM1:Hid (rsM.map Prod.fst=put1 ⟨p.now,(L[k].start+L[k].long)⟩ (rsM.map Prod.fst) (List.get L[k].nodes ⟨m,hlm⟩)):=tH (by
         have h1:=HF1.out
         rw[HF3.out h20] at h1
         refine Eq.trans ?_ h1.symm
         rw[← List.getElem_map (f:=Prod.fst) (h:=by simpa using hqM),List.set_getElem_self])
        go_wp2
        exact⟨⟨m+1,rsM,by omega,by go_num,tH (HCM.out.trans (Ext.chg (show Ext wr _ from xE) _)),tH (HRR.out.ext xE),tH (by rw[HM1.out];exact put_step HF4.out HXO.out)⟩,by simp[intOf];omega⟩
      ·obtain rfl:m=List.length L[k].nodes:=by omega
       have s0:=HB8Q.out.cell 0
       have s1:=HB8Q.out.cell 1
       have s2:=HB8Q.out.cell 2
       have s3:=HB8Q.out.cell 3
       simp only[List.getElem?_cons_zero,List.getElem?_cons_succ] at s0 s1 s2 s3
       have HKF:Hid (rsM.map Prod.fst=putAll ⟨p.now,(L[k].start+L[k].long)⟩ (rsR.map Prod.fst) L[k].nodes):=tH (by have h:=HKK.out.2.2;rw[List.drop_length,putAll_nil] at h;exact h)
       have HOV:∀ ty:Nat,¬ 129=ty→Other V2 ty [g]:=fun ty hne=>by simpa [blkL] using other_row (ty:=ty) HRV.out.row hne
       have HSQ:=tH ((HS.out.ext HEV.out).chgT HCM.out (HOV _ (by decide)) (HOV _ (by decide)))
       have HJQ:=tH ((HRJ.out.ext HEV.out).chgT HCM.out (HOV _ (by decide)) (HOV _ (by decide)))
       have HEQ:Hid (Ext W1 wr):=tH (HCM.out.ext (HE.out.trans HEV.out) (fun b hb=>by obtain rfl:=List.mem_singleton.1 hb;exact(HRV.out.row.blk b (by simp[blkL])).1))
       have HSK:Hid (ss.length≤k):=tH (by have h:=HSL.out;rw[← HSM.out,List.length_map] at h;exact h)
       have HSO:Hid (Slt.ok ⟨L[k].l,L[k].id,L[k].start,L[k].nodes⟩):=tH ⟨HJO.out.2.1.1,HJO.out.2.1.2.1,(by have:=HSTT.out;exact⟨by omega,by omega⟩:I64 L[k].start),HGD.out.i64 (by rw[List.length_map,HRL.out];omega)⟩
       clear HOV e0 e1 o9
       go_upto_region 24 with fail
       go_wp2_with (at_builtin;go_must (refine Row.appN (f:=RS.cells) el_Slot rfl _ _ rfl W1.heap.size HEQ.out.below.size (.slice oa ol oc) ss rfl HSQ.out.row (⟨L[k].l,L[k].id,L[k].start,L[k].nodes⟩,(na,nc)) rfl _ ?_ rfl (fun _=>rfl) ?_ ?_ ?_ ?_);(simp[go_sem]);(intro u hu;exact RS.one (⟨L[k].l,L[k].id,L[k].start,L[k].nodes⟩,(na,nc)) u hu);(have:=HSK.out;unfold maxLen;omega);(have:=HSK.out;omega);intro v8 w8 hR8 hc8;have HR8:=tH hR8;have HC8:=tH hc8;clear hR8 hc8;obtain⟨a8,c8,rfl⟩:=HR8.out.shape;simp only[List.length_append,List.length_singleton] at HR8 ⊢)
       refine⟨⟨k+1,ss++[(⟨L[k].l,L[k].id,L[k].start,L[k].nodes⟩,(na,nc))],rsM,a8,_,c8,by omega,by go_num,rfl,tH ?_,tH ?_,tH ?_,tH ?_,tH ?_,tH ?_⟩,by simp[intOf];omega⟩
       ·exact HC8.out.ext HEQ.out (fun b hb=>(HSQ.out.row.blk b hb).1)
       ·exact HSQ.out.snoc HR8.out HC8.out ⟨HSO.out,HNQ.out⟩
       ·rw[List.map_append,HSM.out,HFN.out];rfl
       ·exact HRR.out.chgT HC8.out (other_row HSQ.out.row (by decide)) (other_row HSQ.out.row (by decide))
       ·rw[HFN.out];exact HKF.out
       ·exact HJQ.out.chgT HC8.out (other_row HSQ.out.row (by decide)) (other_row HSQ.out.row (by decide))
  ·obtain rfl:k=L.length:=by omega
   go_wp2
   go_ret
   refine⟨_,ss,rfl,HE0.out.trans (HE.out.trans xE),(HS.out.ext xE).mono HE0.out.below.size,?_⟩
   rw[HSM.out,HPL.out,List.take_length]
end Go.Proofs.YtbmbanelodabgaaGreatDoor
