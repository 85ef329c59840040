/- impl.Advance, walked. -/
import Derived.Test.YtbmbanelodabgaaGreatDoorKAAB
import Derived.Test.YtbmbanelodabgaaGreatDoorKZZC
set_option maxRecDepth 100000
set_option linter.unusedVariables false
namespace Go.Proofs.YtbmbanelodabgaaGreatDoor
open Go.RowKit Go.Fin1
theorem curA_size (cur:Array Value) (o:Nat) (st:Int) (nv:Value) (L:Nat→Bool):(curA cur o st nv L).size=cur.size:=by
 unfold curA
 split
 ·simp
 ·split
  ·simp
  ·split<;>simp
theorem haltJ_fit {j:Jb} (h:j.fit) {s:Int} (hs:I64 s):(haltJ j s).fit:=by
 obtain⟨⟨h1,h2,h3,h4,h5,_,_⟩,_⟩:=h
 exact⟨⟨h1,h2,h3,h4,h5,hs,(⟨by decide,by decide⟩:I64 0)⟩,fun x hx=>by cases hx⟩
theorem jobs1_fit {p:Pl} (h:∀ j∈p.jobs,j.fit):∀ j∈jobs1 p,j.fit:=by
 intro j hj
 unfold jobs1 at hj
 obtain⟨j0,hj0,rfl⟩:=List.mem_map.1 hj
 unfold endJ
 split
 ·exact haltJ_fit (h j0 hj0) ⟨by decide,by decide⟩
 ·exact h j0 hj0
theorem jobs2_fit {p:Pl} (h:∀ j∈p.jobs,j.fit):∀ j∈jobs2 p,j.fit:=by
 intro j hj
 unfold jobs2 at hj
 obtain⟨j0,hj0,rfl⟩:=List.mem_map.1 hj
 unfold waitJ
 split
 ·exact haltJ_fit (jobs1_fit h j0 hj0) ⟨by decide,by decide⟩
 ·exact jobs1_fit h j0 hj0
set_option maxHeartbeats 3200000 in
theorem implAdvance_yes (p:Pl) (v:Value) (w:World) (h:ePool w v p) (hf:p.fits 1048576) (HQ:Hid (poolR p=true)) (hnn:¬ p.now=999900) :
  Calls Tryz.prog 82 #[v] w fun e w'=>∃ cv jv fc fj,e=.returned (poV (advP p) 0 0 cv jv)∧Ext w w'∧OwnP w.heap.size w' fc fj cv jv (advP p):=by
 have HP:=tH h
 obtain⟨a,c,b,d,rfl,h0,h1,h2⟩:=h
 have HI:=tH (And.intro (slr_labss h1) (slr_jobs h2))
 have hnow:=isIn_iff.1 (poolR_jobs HQ.out).2
 have hjl:=jobsR_len (poolR_jobs HQ.out).1
 have hnb:(p.now == 999900)=false:=by simp[hnn]
 have HNN:=tH hnn
 clear h0 h1 h2 hnn
 unfold Pl.val at HP ⊢
 go_enter Tryz.func82,Tryz.ntmps82
 go_wp2_with fail
 refine(implPoolRight_any p _ _ (HP.out.ext xE)).mono ?_
 rintro e _ ⟨rfl,X,rfl⟩
 rw[HQ.out]
 go_wp2_with fail
 refine(copyPool_any p _ _ (HP.out.ext xE) hf).mono ?_
 rintro e _ ⟨cv,jv,fc,fj,rfl,⟨Y,rfl⟩,hO⟩
 obtain⟨ac,cc,rfl⟩:=hO.1.shape
 obtain⟨aj,cj,rfl⟩:=hO.2.1.shape
 unfold Pl.val
 go_upto_region 7 with fail
 refine gen_world (fun W1 hW1=>?_)
 have hrb:Blk W1 (w.heap.size+1) [.slice none 0 0,.slice none 0 0,(.int .i64 0),(.int .i64 0),(.int .i64 0)] 43:=by rw[hW1];exact(Blk.new (w:=w.alloc _) (cs:=#[.slice none 0 0,.slice none 0 0,(.int .i64 0),(.int .i64 0),(.int .i64 0)]) (by simp[go_sem])).ext xE
 have hob:Blk W1 (w.heap.size+1+1+X.n+Y.n) [.slice ac p.clear.length cc,.slice aj p.jobs.length cj,(.int .i64 (p.now+1))] 41:=by rw[hW1];exact(Blk.new (w:=(((w.alloc _).alloc _).plus X).plus Y) (cs:=#[.slice ac p.clear.length cc,.slice aj p.jobs.length cj,(.int .i64 (p.now+1))]) (by simp[go_sem])).ext xE
 have hop:OwnP (w.heap.size+1+1) W1 fc fj (.slice ac p.clear.length cc) (.slice aj p.jobs.length cj) p:=by rw[hW1];exact(hO.ext xE).mono (by simp[go_sem])
 have hhi:∀ q∈fc++fj,q < w.heap.size+1+1+X.n+Y.n:=fun q hq=>by have:=hO.high q hq;simpa [go_sem] using this
 have hgb:w.heap.size+1+1≤w.heap.size+1+1+X.n+Y.n:=by omega
 have HE1:Hid (Ext w W1):=tH (by rw[hW1];exact xE)
 clear hW1 hO
 generalize w.heap.size+1+1+X.n+Y.n=gb at hob hhi hgb ⊢
 have HRB:=tH hrb
 have HOB:=tH hob
 have HOP:=tH hop
 have HHI:=tH hhi
 have HLO:Hid (∀ q∈fc++fj,w.heap.size+1+1≤q):=tH hop.low
 have HGB:=tH hgb
 have HJK:=tH (fun j hj=>poolR_job HQ.out (j:=j) hj)
 clear hrb hob hop hhi hgb
 have o1:=HOB.out.cell 1
 have oo:=HOB.out.old
 simp only[List.getElem?_cons_zero,List.getElem?_cons_succ] at o1
 go_wp2
 clear o1 oo
 go_loopw [30,4,5] (fun i _ _ wr=>∃ n:Nat,∃ fj':List Nat,n≤p.jobs.length∧i=.int .i64 n∧Hid (Chg fj W1 wr)∧Hid (∀ q∈fj',q∈fj)∧Hid (Own (w.heap.size+1+1) wr oJobS fj' [.slice aj p.jobs.length cj] (mapN (endJ (p.now+1)) p.jobs n))) (fun i _ _ _=>p.jobs.length-(intOf i).toNat)
 case atStart=>exact⟨0,fj,Nat.zero_le _,rfl,tH ((Ext.refl _).chg _),tH (fun q hq=>hq),tH HOP.out.2.1⟩
 case round =>
  obtain⟨n,fj',hn,rfl,HC,HSB,HO⟩:=hrel
  have HOB2:Hid (Blk wr gb [.slice ac p.clear.length cc,.slice aj p.jobs.length cj,(.int .i64 (p.now+1))] 41):=tH (HOB.out.chg HC.out (fun hm=>by have:=HHI.out gb (List.mem_append_right _ hm);omega))
  by_cases hlt:n < p.jobs.length
  ·have hl':n < (mapN (endJ (p.now+1)) p.jobs n).length:=by rw[mapN_len];exact hlt
   obtain⟨gj,cap',hv⟩:=oSl_slice HO.out.1 hl'
   obtain⟨rfl,rfl⟩:aj=some ⟨gj,0,none⟩∧cj=cap':=by simpa [mapN_len] using hv
   obtain⟨fi,cs,hog,hfz,hcl,hcells,⟨nv,hcs,_⟩,hgf,_⟩:=HO.out.setE oJob_local oJob_held hl'
   subst hcs
   have i4:=hcells 4 _ rfl
   have i6:=hcells 6 _ rfl
   have i7:=hcells 7 _ rfl
   have e:=mapN_at (endJ (p.now+1)) hlt
   rw[e] at i4 i6 i7
   obtain⟨hk,_⟩:=HJK.out _ (List.getElem_mem hlt)
   obtain⟨t1,t2⟩:=hk.st
   obtain⟨t3,t4⟩:=hk.long
   have o1:=HOB2.out.cell 1
   have o2:=HOB2.out.cell 2
   have oo:=HOB2.out.old
   simp only[List.getElem?_cons_zero,List.getElem?_cons_succ] at o1 o2
   have HSG:Hid (gj∈fj):=tH (HSB.out gj hgf)
   clear hv hk hcells hcl e hgf
   by_cases hs:p.jobs[n].state=2
   ·have hsb:(p.jobs[n].state == 2)=true:=by simp[hs]
    have HS:=tH hs
    clear hs
    by_cases hle:p.jobs[n].start+p.jobs[n].long≤p.now+1
    ·have hlb:decide (p.jobs[n].start+p.jobs[n].long≤p.now+1)=true:=decide_eq_true hle
     have HLE:=tH hle
     clear hle
     go_upto_region 11 with fail
     (refine wp_region_x 19 (by kernel_rfl) (by kernel_rfl) (by kernel_rfl) ?_;(iterate 19 (apply XReg.step;(case h=>(intro w' hw';obtain⟨X',rfl⟩:=hw';go_wp2_with (fail);exact⟨rfl,xE⟩));(case hv=>kernel_rfl)));refine XReg.doneN (fun X=>?_))
     clear i4 i6 i7 o1 o2 oo hfz hog hsb hlb
     go_upto_region 12 with fail
     refine gen_world (fun Wc hWc=>?_)
     have HEc:Hid (Ext wr Wc):=tH (by rw[hWc];exact xE)
     clear hWc
     have hO2:=HO.out.ext oJobS_local oJobS_held HEc.out
     obtain⟨fi,cs,hog,hfz,hcl,hcells,⟨nv,hcs,_⟩,hgf,hset⟩:=hO2.setE oJob_local oJob_held hl'
     subst hcs
     have i6:=hcells 6 _ rfl
     have i7:=hcells 7 _ rfl
     have i8:=hcells 8 _ rfl
     obtain⟨fp',hsub,hown⟩:=hset 6 [(.int .i64 3),(.int .i64 0),.slice none 0 0] (haltJ (mapN (endJ (p.now+1)) p.jobs n)[n] 3) (by show 6+3≤9;decide) (fun w'=>⟨.slice none 0 0,rfl,(Own.nil 0 _ _ _ _).1⟩)
     have HOWN:=tH hown
     have HSUB:=tH hsub
     clear hset hcells hcl hown hsub hO2 hgf
     go_wp2_with fail
     refine(setState_any gj (n*9) 3 _ _ _ _ i6 i7 i8 hfz).mono ?_
     rintro e _ ⟨⟨v9,rfl⟩,rfl⟩
     go_upto_region 13 with fail
     refine gen_world (fun Z hZ=>?_)
     have hLay:Z=Wc.layCells gj (n*9+6) [(.int .i64 3),(.int .i64 0),.slice none 0 0]:=hZ
     have HCZ:Hid (Chg fj W1 Z):=tH ((HC.out.trans (HEc.out.chg _)).trans (by rw[hLay];exact(layCells_chg _ _ _ _).mono (fun q hq=>by obtain rfl:=List.mem_singleton.1 hq;exact HSG.out)))
     have HOZ:Hid (Own (w.heap.size+1+1) Z oJobS fp' [.slice (some ⟨gj,0,none⟩) p.jobs.length cj] ((mapN (endJ (p.now+1)) p.jobs n).set n (haltJ (mapN (endJ (p.now+1)) p.jobs n)[n] 3))):=tH (by rw[hLay];exact HOWN.out)
     have HST:Hid ((mapN (endJ (p.now+1)) p.jobs n).set n (haltJ (mapN (endJ (p.now+1)) p.jobs n)[n] 3)=mapN (endJ (p.now+1)) p.jobs (n+1)):=tH (by
      rw[mapN_at _ hlt,← mapN_set (endJ (p.now+1)) hlt]
      congr 1
      unfold endJ
      rw[if_pos ⟨HS.out,HLE.out⟩])
     clear hZ hLay i6 i7 i8 hfz hog HOWN
     go_wp2
     exact⟨⟨n+1,fp',by omega,by go_num,HCZ,tH (fun q hq=>HSB.out q (HSUB.out q hq)),tH (by rw[← HST.out];exact HOZ.out)⟩,by simp[intOf];omega⟩
    ·have hlb:decide (p.jobs[n].start+p.jobs[n].long≤p.now+1)=false:=decide_eq_false hle
     have HST:=tH (mapN_same (endJ (p.now+1)) hlt (by unfold endJ;rw[if_neg (fun h=>hle h.2)]))
     clear hle
     go_upto_region 11 with fail
     (refine wp_region_x 19 (by kernel_rfl) (by kernel_rfl) (by kernel_rfl) ?_;(iterate 19 (apply XReg.step;(case h=>(intro w' hw';obtain⟨X',rfl⟩:=hw';go_wp2_with (fail);exact⟨rfl,xE⟩));(case hv=>kernel_rfl)));refine XReg.doneN (fun X=>?_))
     clear i4 i6 i7 o1 o2 oo hfz hog hsb hlb
     go_wp2
     exact⟨⟨n+1,fj',by omega,by go_num,tH (HC.out.trans (Ext.chg (show Ext wr _ from xE) _)),HSB,tH (by rw[HST.out];exact HO.out.ext oJobS_local oJobS_held xE)⟩,by simp[intOf];omega⟩
   ·have hsb:(p.jobs[n].state == 2)=false:=by simp[hs]
    have HST:=tH (mapN_same (endJ (p.now+1)) hlt (by unfold endJ;rw[if_neg (fun h=>hs h.1)]))
    clear hs
    go_upto_region 11 with fail
    (refine wp_region_x 19 (by kernel_rfl) (by kernel_rfl) (by kernel_rfl) ?_;(iterate 19 (apply XReg.step;(case h=>(intro w' hw';obtain⟨X',rfl⟩:=hw';go_wp2_with (fail);exact⟨rfl,xE⟩));(case hv=>kernel_rfl)));refine XReg.doneN (fun X=>?_))
    clear i4 i6 i7 o1 o2 oo hfz hog hsb
    go_wp2
    exact⟨⟨n+1,fj',by omega,by go_num,tH (HC.out.trans (Ext.chg (show Ext wr _ from xE) _)),HSB,tH (by rw[HST.out];exact HO.out.ext oJobS_local oJobS_held xE)⟩,by simp[intOf];omega⟩
  ·obtain rfl:n=p.jobs.length:=by omega
   have hO3:=HO.out
   rw[mapN_all] at hO3
   have HO3:Hid (Own (w.heap.size+1+1) wr oJobS fj' [.slice aj p.jobs.length cj] (jobs1 p)):=tH (by unfold jobs1;exact hO3)
   clear hO3 HO
   obtain⟨wo,rfl⟩:∃ wo,wo=wr:=⟨wr,rfl⟩
   have HCL:=tH (own_chgD oLabelSS_local oLabelSS_held HC.out (fun q hq=>HOP.out.2.2 q hq) HOP.out.1)
   have HEP:Hid (∀ W,Ext wo W→ePool W (.agg #[.slice ac p.clear.length cc,.slice aj p.jobs.length cj,(.int .i64 (p.now+1))]) ⟨p.clear,jobs1 p,p.now+1⟩):=tH (fun W hx=>by
    have h1:=(oLabelSS_r HCL.out.1 HI.out.1).ext rLabS_stable hx
    have h2:=(oJobS_r HO3.out.1 (jobs1_fit HI.out.2)).ext rJob_stable hx
    rw[← jobs1_len p] at h2 ⊢
    exact⟨_,_,_,_,rfl,⟨by show -9223372036854775808≤p.now+1;omega,by show p.now+1≤9223372036854775807;omega⟩,h1,h2⟩)
   have o0:=HOB2.out.cell 0
   have o1:=HOB2.out.cell 1
   have o2:=HOB2.out.cell 2
   have oo:=HOB2.out.old
   simp only[List.getElem?_cons_zero,List.getElem?_cons_succ] at o0 o1 o2
   go_wp2_with fail
   refine(plan_any ⟨p.clear,jobs1 p,p.now+1⟩ _ _ (HEP.out _ xE) ⟨by show 0≤p.now+1;omega,by have:=HNN.out;show p.now+1≤999900;omega⟩ (poolR_clear HQ.out).1 (poolR_clear HQ.out).2 (by show (jobs1 p).length≤96;rw[jobs1_len];exact hjl) (ne_key (jobs1_key p).symm (jobsR_ne (poolR_jobs HQ.out).1)) (jobs1_ok HQ.out HNN.out)).mono ?_
   rintro e _ ⟨sv,fps,rfl,⟨X5,rfl⟩,hS⟩
   have hS1:Own wo.heap.size (wo.plus X5) oSltS fps [sv] (plan1 p):=by unfold plan1;exact hS
   obtain⟨sa,sc,rfl⟩:=hS1.shape
   clear hS o0 o1 o2 oo
   go_upto_region 15 with fail
   refine gen_world (fun W5 hW5=>?_)
   have HE5:Hid (Ext wo W5):=tH (by rw[hW5];exact xE)
   have HS5:Hid (Own wo.heap.size W5 oSltS fps [.slice sa (plan1 p).length sc] (plan1 p)):=tH (hS1.ext oSltS_local oSltS_held (show Ext _ W5 by rw[hW5];exact xE))
   clear hW5 hS1 X5 HEP
   have HC5:Hid (Chg fj W1 W5):=tH (HC.out.trans (HE5.out.chg _))
   have HO5:=tH (HO3.out.ext oJobS_local oJobS_held HE5.out)
   have HOB5:=tH (HOB2.out.ext HE5.out)
   have HFJ5:Hid (∀ q∈fj',q < wo.heap.size):=tH (oJobS_held _ _ _ _ HO3.out.1)
   have HWG:Hid (W1.heap.size≤wo.heap.size):=tH HC.out.size
   clear HO3 HOB2 HC HCL
   have o1:=HOB5.out.cell 1
   have oo:=HOB5.out.old
   simp only[List.getElem?_cons_zero,List.getElem?_cons_succ] at o1
   go_wp2
   clear o1 oo
   go_loopw [64,7] (fun i _ wr=>∃ n:Nat,∃ fj2:List Nat,n≤p.jobs.length∧i=.int .i64 n∧Hid (Chg fj W5 wr)∧Hid (∀ q∈fj2,q∈fj)∧Hid (Own (w.heap.size+1+1) wr oJobS fj2 [.slice aj p.jobs.length cj] (mapN waitJ (jobs1 p) n))) (fun i _ _=>p.jobs.length-(intOf i).toNat)
   case atStart=>exact⟨0,fj',Nat.zero_le _,rfl,tH ((Ext.refl _).chg _),HSB,HO5⟩
   case round =>
    clear HO5
    obtain⟨n,fj2,hn,rfl,HC6,HSB2,HO6⟩:=hrel
    have HOB6:Hid (Blk wr gb [.slice ac p.clear.length cc,.slice aj p.jobs.length cj,(.int .i64 (p.now+1))] 41):=tH (HOB5.out.chg HC6.out (fun hm=>by have:=HHI.out gb (List.mem_append_right _ hm);omega))
    by_cases hlt:n < p.jobs.length
    ·have hlj:n < (jobs1 p).length:=by rw[jobs1_len];exact hlt
     have hl':n < (mapN waitJ (jobs1 p) n).length:=by rw[mapN_len];exact hlj
     obtain⟨gj,cap',hv⟩:=oSl_slice HO6.out.1 hl'
     obtain⟨rfl,rfl⟩:aj=some ⟨gj,0,none⟩∧cj=cap':=by simpa [mapN_len,jobs1_len] using hv
     obtain⟨fi,cs,hog,hfz,hcl,hcells,⟨nv,hcs,_⟩,hgf,hset⟩:=HO6.out.setE oJob_local oJob_held hl'
     subst hcs
     have i6:=hcells 6 _ rfl
     have i7:=hcells 7 _ rfl
     have i8:=hcells 8 _ rfl
     have e:=mapN_at waitJ hlj
     obtain⟨fp',hsub,hown⟩:=hset 6 [(.int .i64 1),(.int .i64 0),.slice none 0 0] (haltJ (mapN waitJ (jobs1 p) n)[n] 1) (by show 6+3≤9;decide) (fun w'=>⟨.slice none 0 0,rfl,(Own.nil 0 _ _ _ _).1⟩)
     rw[e] at i6 i7 hown
     have HOWN:=tH hown
     have HSUB:=tH hsub
     have HSG:Hid (gj∈fj):=tH (HSB2.out gj hgf)
     have o1:=HOB6.out.cell 1
     have oo:=HOB6.out.old
     simp only[List.getElem?_cons_zero,List.getElem?_cons_succ] at o1
     clear hv hset hcells hcl hown hsub hgf e
     by_cases hs:(jobs1 p)[n].state=2
     ·have hsb:((jobs1 p)[n].state == 2)=true:=by simp[hs]
      have HST:=tH (mapN_set waitJ hlj)
      have HWJ:Hid (waitJ (jobs1 p)[n]=haltJ (jobs1 p)[n] 1):=tH (by unfold waitJ;rw[if_pos hs])
      clear hs
      go_wp2_with fail
      refine(setState_any gj (n*9) 1 _ _ _ _ i6 i7 i8 hfz).mono ?_
      rintro e _ ⟨⟨v9,rfl⟩,rfl⟩
      go_upto_region 20 with fail
      refine gen_world (fun Z hZ=>?_)
      have hLay:Z=wr.layCells gj (n*9+6) [(.int .i64 1),(.int .i64 0),.slice none 0 0]:=hZ
      have HCZ:Hid (Chg fj W5 Z):=tH (HC6.out.trans (by rw[hLay];exact(layCells_chg _ _ _ _).mono (fun q hq=>by obtain rfl:=List.mem_singleton.1 hq;exact HSG.out)))
      have HOZ:Hid (Own (w.heap.size+1+1) Z oJobS fp' [.slice (some ⟨gj,0,none⟩) p.jobs.length cj] (mapN waitJ (jobs1 p) (n+1))):=tH (by rw[hLay,← HST.out,HWJ.out];exact HOWN.out)
      clear hZ hLay i6 i7 i8 hfz hog HOWN o1 oo hsb
      go_wp2
      exact⟨⟨n+1,fp',by omega,by go_num,HCZ,tH (fun q hq=>HSB2.out q (HSUB.out q hq)),HOZ⟩,by simp[intOf];omega⟩
     ·have hsb:((jobs1 p)[n].state == 2)=false:=by simp[hs]
      have HST:=tH (mapN_same waitJ hlj (by unfold waitJ;rw[if_neg hs]))
      clear hs HOWN i7 i8
      go_wp2
      exact⟨⟨n+1,fj2,by omega,by go_num,tH (HC6.out.trans (Ext.chg (show Ext wr _ from xE) _)),HSB2,tH (by rw[HST.out];exact HO6.out.ext oJobS_local oJobS_held xE)⟩,by simp[intOf];omega⟩
    ·obtain rfl:n=p.jobs.length:=by omega
     have hO7:=HO6.out
     rw[← jobs1_len p,mapN_all,jobs1_len p] at hO7
     have HO7:Hid (Own (w.heap.size+1+1) wr oJobS fj2 [.slice aj p.jobs.length cj] (jobs2 p)):=tH (by unfold jobs2;exact hO7)
     have hsq:=own_chgD oSltS_local oSltS_held HC6.out (fun q hq hm=>by have h1:=HS5.out.2.2 q hq;have h2:=HHI.out q (List.mem_append_right _ hm);have h3:=HWG.out;have h4:=HOB.out.old;unfold World.old at h4;omega) HS5.out
     obtain⟨raw,fpL,hRO,hfp⟩:=hsq.rowO
     have HRO:=tH hRO
     have HFPL:Hid (∀ q∈blkL (.slice sa (plan1 p).length sc)++fpL.flatten,q∉fj):=tH (fun q hq hm=>by
      have h1:=HS5.out.2.2 q (by rw[hfp];exact hq)
      have h2:=HHI.out q (List.mem_append_right _ hm)
      have h3:=HWG.out
      have h4:=HOB.out.old
      unfold World.old at h4
      omega)
     have HPK:Hid (∀ s∈plan1 p,(s.l,s.id)∈p.jobs.map keyJ):=tH (by
      unfold plan1
      intro s hs
      rw[← jobs1_key p]
      exact planL_key ⟨by omega,by have:=HNN.out;omega⟩ (ne_key (jobs1_key p).symm (jobsR_ne (poolR_jobs HQ.out).1)) (jobs1_ok HQ.out HNN.out) s hs)
     have HPO:Hid (∀ s∈plan1 p,s.ok∧s.nodes.length≤p.clear.length):=tH (by
      unfold plan1
      exact planL_ok ⟨by omega,by have:=HNN.out;omega⟩ (by have:=(poolR_clear HQ.out).2;omega) (ne_key (jobs1_key p).symm (jobsR_ne (poolR_jobs HQ.out).1)) (jobs1_ok HQ.out HNN.out) (jobs1_fit HI.out.2))
     have HPL:Hid ((plan1 p).length≤1048576):=tH (by
      have h1:=foldP_len1 p.clear (p.now+1) (l:=sortedJ (jobs1 p)) _ (Nat.le_refl _)
      rw[List.take_length,sortedJ_lenV,jobs1_len] at h1
      unfold plan1 planL
      omega)
     have hplm:=HPL.out
     clear hO7 HO6 hsq hRO hfp
     obtain⟨wo2,rfl⟩:∃ wo2,wo2=wr:=⟨wr,rfl⟩
     have HC7:Hid (Chg fj W1 wo2):=tH (HC5.out.trans HC6.out)
     go_wp2
     go_loopw [82,9,10] (fun i _ _ wr=>∃ n:Nat,∃ fj3:List Nat,n≤(plan1 p).length∧i=.int .i64 n∧Hid (Chg fj wo2 wr)∧Hid (∀ q∈fj3,q∈fj∨q∈(fpL.take n).flatten)∧Hid (Own (w.heap.size+1+1) wr oJobS fj3 [.slice aj p.jobs.length cj] (foldA (p.now+1) (jobs2 p) ((plan1 p).take n)))) (fun i _ _ _=>(plan1 p).length-(intOf i).toNat)
     case atStart=>exact⟨0,fj2,Nat.zero_le _,rfl,tH ((Ext.refl _).chg _),tH (fun q hq=>.inl (HSB2.out q hq)),tH (by rw[List.take_zero,foldA_nil];exact HO7.out)⟩
     case round =>
      clear HO7 HOB6
      obtain⟨n,fj3,hn,rfl,HC8,HSB3,HO8⟩:=hrel
      have HOB8:Hid (Blk wr gb [.slice ac p.clear.length cc,.slice aj p.jobs.length cj,(.int .i64 (p.now+1))] 41):=tH (HOB.out.chg (HC7.out.trans HC8.out) (fun hm=>by have:=HHI.out gb (List.mem_append_right _ hm);omega))
      by_cases hlt:n < (plan1 p).length
      ·have hfl:fpL.length=(plan1 p).length:=HRO.out.2.1
       have hnf:n < fpL.length:=by omega
       obtain⟨gs,caps,hvs⟩:∃ gs caps,(.slice sa (plan1 p).length sc:Value)=.slice (some ⟨gs,0,none⟩) (plan1 p).length caps:=by
        rcases HRO.out.1.2 with ⟨_,h0⟩ | ⟨g9,cap9,_,hv9,_⟩
        ·omega
        ·exact⟨g9,cap9,hv9⟩
       obtain⟨rfl,rfl⟩:sa=some ⟨gs,0,none⟩∧sc=caps:=by simpa using hvs
       obtain⟨cs,⟨nv,hcs,hni⟩,hcl⟩:=HRO.out.cells hlt (List.getElem?_eq_getElem hnf)
       subst hcs
       obtain⟨an,cn,rfl⟩:∃ an cn,nv=.slice an (plan1 p)[n].nodes.length cn:=by
        obtain⟨an,cn,h9,_⟩:=oSl_shape hni
        exact⟨an,cn,h9⟩
       have hgs:gs∉fj:=HFPL.out gs (by simp[blkL])
       have z0:=cell_chg (i:=n*5+0) HC8.out (hcl 0 _ rfl) hgs
       have z1:=cell_chg (i:=n*5+1) HC8.out (hcl 1 _ rfl) hgs
       have z2:=cell_chg (i:=n*5+2) HC8.out (hcl 2 _ rfl) hgs
       have z3:=cell_chg (i:=n*5+3) HC8.out (hcl 3 _ rfl) hgs
       have z4:=cell_chg (i:=n*5+4) HC8.out (hcl 4 _ rfl) hgs
       rw[Nat.add_zero] at z0
       have zo:=World.old_of_cell z0
       have HNI:=tH hni
       have o1:=HOB8.out.cell 1
       have o2:=HOB8.out.cell 2
       have oo:=HOB8.out.old
       simp only[List.getElem?_cons_zero,List.getElem?_cons_succ] at o1 o2
       have HFA:=tH (foldA_take (p.now+1) (jobs2 p) hlt)
       clear hvs hcl hni hgs hfl
       by_cases hle:(plan1 p)[n].start≤p.now+1
       ·have hlb:decide ((plan1 p)[n].start≤p.now+1)=true:=decide_eq_true hle
        obtain⟨k,hk,hps,_⟩:=pos_key (J:=foldA (p.now+1) (jobs2 p) ((plan1 p).take n)) (x:=(plan1 p)[n].l) (id:=(plan1 p)[n].id) (by rw[foldA_key _ _ _ _ hn,jobs2_key];exact HPK.out _ (List.getElem_mem hlt))
        have hkl:k < p.jobs.length:=by rw[foldA_len _ _ _ _ hn,jobs2_len] at hk;exact hk
        have HYS:=tH (stepA_yes hle hk hps)
        have HPS:=tH hps
        have hjs:=oJobS_r HO8.out.1 (foldA_fit (t:=p.now+1) (fun s hs=>(HPO.out s hs).1) (jobs2_fit HI.out.2) n hn)
        obtain⟨gj,cap',hv⟩:=oSl_slice HO8.out.1 hk
        obtain⟨rfl,rfl⟩:aj=some ⟨gj,0,none⟩∧cj=cap':=by simpa [foldA_len _ _ _ _ hn,jobs2_len] using hv
        have HJS:=tH hjs
        clear hle hps hjs hv
        go_upto_region 25 with fail
        (refine wp_region_x 11 (by kernel_rfl) (by kernel_rfl) (by kernel_rfl) ?_;(iterate 11 (apply XReg.step;(case h=>(intro w' hw';obtain⟨X',rfl⟩:=hw';go_wp2_with ((go_at_call 83;refine(indexOf_any _ (foldA (p.now+1) (jobs2 p) ((plan1 p).take n)) (plan1 p)[n].l (plan1 p)[n].id _ (HJS.out.ext rJob_stable xE)).mono ?_;rintro e _ ⟨rfl,Y9,rfl⟩;rw[HPS.out]));exact⟨rfl,xE⟩));(case hv=>kernel_rfl)));refine XReg.doneN (fun X=>?_))
        go_upto_region 26 with fail
        refine gen_world (fun Wq hWq=>?_)
        have HEQ:Hid (Ext wr Wq):=tH (by rw[hWq];exact xE)
        have HBS:Hid (Blk Wq wr.heap.size [(.int .i64 (plan1 p)[n].l.lv),(.int .i64 (plan1 p)[n].l.st),(.int .i64 (plan1 p)[n].id),(.int .i64 (plan1 p)[n].start),.slice an (plan1 p)[n].nodes.length cn] 104):=tH (by rw[hWq];exact(Blk.new (w:=wr) (cs:=#[(.int .i64 (plan1 p)[n].l.lv),(.int .i64 (plan1 p)[n].l.st),(.int .i64 (plan1 p)[n].id),(.int .i64 (plan1 p)[n].start),.slice an (plan1 p)[n].nodes.length cn]) rfl).ext xE)
        have HOQ:=tH (HO8.out.ext oJobS_local oJobS_held HEQ.out)
        obtain⟨gj',cap9,cur,hv,hgh,hgz,hgl,_,_,hgf⟩:∃ g cap cur,Value.slice (some ⟨gj,0,none⟩) p.jobs.length cj=.slice (some ⟨g,0,none⟩) p.jobs.length cap∧Wq.heap[g]?=some (.cells cur 92 (0,0))∧cur.size=cap*9∧p.jobs.length≤cap∧cap≤maxLen∧w.heap.size+1+1≤g∧g∈fj3:=by
         rcases HOQ.out.blk with ⟨_,h0,_⟩ | h
         ·rw[h0] at hk;cases hk
         ·rw[foldA_len _ _ _ _ hn,jobs2_len] at h;exact h
        obtain⟨rfl,rfl⟩:gj=gj'∧cj=cap9:=by simpa using hv
        have HCS:Hid (k*9+8 < cur.size):=tH (by rw[hgz];omega)
        have HGW:Hid (gj < wr.heap.size):=tH (oJobS_held _ _ _ _ HO8.out.1 gj hgf)
        clear hWq z0 z1 z2 z3 z4 zo o1 o2 oo hlb hv hgz hgl
        refine wp_region_i 16 (AcI Wq gj (k*9) cur (plan1 p)[n].start (.slice an (plan1 p)[n].nodes.length cn) [some (.pointer (some ⟨gj,k*9,none⟩)),some (.pointer (some ⟨gj,k*9,none⟩)),some (.pointer (some ⟨gj,k*9,none⟩)),some (.pointer (some ⟨wr.heap.size,3,none⟩)),some (.int .i64 (plan1 p)[n].start),some (.pointer (some ⟨wr.heap.size,4,none⟩)),some (.slice an (plan1 p)[n].nodes.length cn),some (.pointer (some ⟨gj,k*9,none⟩)),some (.pointer (some ⟨gj,k*9+6,none⟩)),none,some (.pointer (some ⟨gj,k*9,none⟩)),some (.pointer (some ⟨gj,k*9+7,none⟩)),none,some (.pointer (some ⟨gj,k*9,none⟩)),some (.pointer (some ⟨gj,k*9+8,none⟩)),none]) (by kernel_rfl) (by kernel_rfl) (by kernel_rfl) (fun vs=>?_) (fun vs=>AcI.start (Ext.refl _).drew hgh)
        refine IReg.step 1 rfl (fun L w' hI hL hj=>?_) ?_
        ·have hB:=HBS.out.chg hI.c (by have:=HGW.out;simp;omega)
         have e3:=hB.cell 3
         have e4:=hB.cell 4
         have eo:=hB.old
         simp only[List.getElem?_cons_zero,List.getElem?_cons_succ] at e3 e4
         skip
         have HI:=tH hI
         clear hI hL hj hB
         go_wp2
         exact HI.out.set 0 _ xE (by decide) (fun u hu=>by simpa using hu.symm)
        refine IReg.step 2 rfl (fun L w' hI hL hj=>?_) ?_
        ·have hB:=HBS.out.chg hI.c (by have:=HGW.out;simp;omega)
         have e3:=hB.cell 3
         have e4:=hB.cell 4
         have eo:=hB.old
         simp only[List.getElem?_cons_zero,List.getElem?_cons_succ] at e3 e4
         skip
         have HI:=tH hI
         clear hI hL hj hB
         go_wp2
         exact HI.out.set 1 _ xE (by decide) (fun u hu=>by simpa using hu.symm)
        refine IReg.step 3 rfl (fun L w' hI hL hj=>?_) ?_
        ·have hB:=HBS.out.chg hI.c (by have:=HGW.out;simp;omega)
         have e3:=hB.cell 3
         have e4:=hB.cell 4
         have eo:=hB.old
         simp only[List.getElem?_cons_zero,List.getElem?_cons_succ] at e3 e4
         skip
         have HI:=tH hI
         clear hI hL hj hB
         go_wp2
         exact HI.out.set 2 _ xE (by decide) (fun u hu=>by simpa using hu.symm)
        refine IReg.step 4 rfl (fun L w' hI hL hj=>?_) ?_
        ·have hB:=HBS.out.chg hI.c (by have:=HGW.out;simp;omega)
         have e3:=hB.cell 3
         have e4:=hB.cell 4
         have eo:=hB.old
         simp only[List.getElem?_cons_zero,List.getElem?_cons_succ] at e3 e4
         skip
         have HI:=tH hI
         clear hI hL hj hB
         go_wp2
         exact HI.out.set 3 _ xE (by decide) (fun u hu=>by simpa using hu.symm)
        refine IReg.step 5 rfl (fun L w' hI hL hj=>?_) ?_
        ·have hB:=HBS.out.chg hI.c (by have:=HGW.out;simp;omega)
         have e3:=hB.cell 3
         have e4:=hB.cell 4
         have eo:=hB.old
         simp only[List.getElem?_cons_zero,List.getElem?_cons_succ] at e3 e4
         rw[hI.s 3 _ rfl (hj 3 (by decide) (by kernel_rfl))]
         have HI:=tH hI
         clear hI hL hj hB
         go_wp2
         exact HI.out.set 4 _ xE (by decide) (fun u hu=>by simpa using hu.symm)
        refine IReg.step 6 rfl (fun L w' hI hL hj=>?_) ?_
        ·have hB:=HBS.out.chg hI.c (by have:=HGW.out;simp;omega)
         have e3:=hB.cell 3
         have e4:=hB.cell 4
         have eo:=hB.old
         simp only[List.getElem?_cons_zero,List.getElem?_cons_succ] at e3 e4
         skip
         have HI:=tH hI
         clear hI hL hj hB
         go_wp2
         exact HI.out.set 5 _ xE (by decide) (fun u hu=>by simpa using hu.symm)
        refine IReg.step 7 rfl (fun L w' hI hL hj=>?_) ?_
        ·have hB:=HBS.out.chg hI.c (by have:=HGW.out;simp;omega)
         have e3:=hB.cell 3
         have e4:=hB.cell 4
         have eo:=hB.old
         simp only[List.getElem?_cons_zero,List.getElem?_cons_succ] at e3 e4
         rw[hI.s 5 _ rfl (hj 5 (by decide) (by kernel_rfl))]
         have HI:=tH hI
         clear hI hL hj hB
         go_wp2
         exact HI.out.set 6 _ xE (by decide) (fun u hu=>by simpa using hu.symm)
        refine IReg.step 8 rfl (fun L w' hI hL hj=>?_) ?_
        ·have hB:=HBS.out.chg hI.c (by have:=HGW.out;simp;omega)
         have e3:=hB.cell 3
         have e4:=hB.cell 4
         have eo:=hB.old
         simp only[List.getElem?_cons_zero,List.getElem?_cons_succ] at e3 e4
         rw[hI.s 0 _ rfl (hj 0 (by decide) (by kernel_rfl))]
         have HI:=tH hI
         clear hI hL hj hB
         go_wp2
         exact HI.out.set 7 _ xE (by decide) (fun u hu=>by simpa using hu.symm)
        refine IReg.step 9 rfl (fun L w' hI hL hj=>?_) ?_
        ·have hB:=HBS.out.chg hI.c (by have:=HGW.out;simp;omega)
         have e3:=hB.cell 3
         have e4:=hB.cell 4
         have eo:=hB.old
         simp only[List.getElem?_cons_zero,List.getElem?_cons_succ] at e3 e4
         rw[hI.s 7 _ rfl (hj 7 (by decide) (by kernel_rfl))]
         have HI:=tH hI
         clear hI hL hj hB
         go_wp2
         exact HI.out.set 8 _ xE (by decide) (fun u hu=>by simpa using hu.symm)
        refine IReg.step 10 rfl (fun L w' hI hL hj=>?_) ?_
        ·rw[hI.s 8 _ rfl (hj 8 (by decide) (by kernel_rfl))]
         have HI:=tH (fun v=>hI.st9 hL rfl v)
         have hsz:k*9+6 < (curA cur (k*9) (plan1 p)[n].start (.slice an (plan1 p)[n].nodes.length cn) L).size:=by rw[curA_size];have:=HCS.out;omega
         obtain⟨u6,c6⟩:∃ u,w'.cell? ⟨gj,k*9+6,none⟩=some u:=⟨_,by rw[cell_of_heap hI.h];exact Array.getElem?_eq_getElem hsz⟩
         have hfz:=frozen_of_heap hI.h
         have hog:=World.old_of_cell c6
         clear hI hL hj hsz
         go_wp2
         exact⟨undef,HI.out undef⟩
        refine IReg.step 11 rfl (fun L w' hI hL hj=>?_) ?_
        ·have hB:=HBS.out.chg hI.c (by have:=HGW.out;simp;omega)
         have e3:=hB.cell 3
         have e4:=hB.cell 4
         have eo:=hB.old
         simp only[List.getElem?_cons_zero,List.getElem?_cons_succ] at e3 e4
         rw[hI.s 1 _ rfl (hj 1 (by decide) (by kernel_rfl))]
         have HI:=tH hI
         clear hI hL hj hB
         go_wp2
         exact HI.out.set 10 _ xE (by decide) (fun u hu=>by simpa using hu.symm)
        refine IReg.step 12 rfl (fun L w' hI hL hj=>?_) ?_
        ·have hB:=HBS.out.chg hI.c (by have:=HGW.out;simp;omega)
         have e3:=hB.cell 3
         have e4:=hB.cell 4
         have eo:=hB.old
         simp only[List.getElem?_cons_zero,List.getElem?_cons_succ] at e3 e4
         rw[hI.s 10 _ rfl (hj 10 (by decide) (by kernel_rfl))]
         have HI:=tH hI
         clear hI hL hj hB
         go_wp2
         exact HI.out.set 11 _ xE (by decide) (fun u hu=>by simpa using hu.symm)
        refine IReg.step 13 rfl (fun L w' hI hL hj=>?_) ?_
        ·rw[hI.s 11 _ rfl (hj 11 (by decide) (by kernel_rfl)),hI.s 4 _ rfl (hj 4 (by decide) (by kernel_rfl))]
         have HI:=tH (fun v=>hI.st12 hL (hj 9 (by decide) (by kernel_rfl)) rfl v)
         have hsz:k*9+7 < (curA cur (k*9) (plan1 p)[n].start (.slice an (plan1 p)[n].nodes.length cn) L).size:=by rw[curA_size];have:=HCS.out;omega
         obtain⟨u6,c6⟩:∃ u,w'.cell? ⟨gj,k*9+7,none⟩=some u:=⟨_,by rw[cell_of_heap hI.h];exact Array.getElem?_eq_getElem hsz⟩
         have hfz:=frozen_of_heap hI.h
         have hog:=World.old_of_cell c6
         clear hI hL hj hsz
         go_wp2
         exact⟨undef,HI.out undef⟩
        refine IReg.step 14 rfl (fun L w' hI hL hj=>?_) ?_
        ·have hB:=HBS.out.chg hI.c (by have:=HGW.out;simp;omega)
         have e3:=hB.cell 3
         have e4:=hB.cell 4
         have eo:=hB.old
         simp only[List.getElem?_cons_zero,List.getElem?_cons_succ] at e3 e4
         rw[hI.s 2 _ rfl (hj 2 (by decide) (by kernel_rfl))]
         have HI:=tH hI
         clear hI hL hj hB
         go_wp2
         exact HI.out.set 13 _ xE (by decide) (fun u hu=>by simpa using hu.symm)
        refine IReg.step 15 rfl (fun L w' hI hL hj=>?_) ?_
        ·have hB:=HBS.out.chg hI.c (by have:=HGW.out;simp;omega)
         have e3:=hB.cell 3
         have e4:=hB.cell 4
         have eo:=hB.old
         simp only[List.getElem?_cons_zero,List.getElem?_cons_succ] at e3 e4
         rw[hI.s 13 _ rfl (hj 13 (by decide) (by kernel_rfl))]
         have HI:=tH hI
         clear hI hL hj hB
         go_wp2
         exact HI.out.set 14 _ xE (by decide) (fun u hu=>by simpa using hu.symm)
        refine IReg.step 16 rfl (fun L w' hI hL hj=>?_) ?_
        ·rw[hI.s 14 _ rfl (hj 14 (by decide) (by kernel_rfl)),hI.s 6 _ rfl (hj 6 (by decide) (by kernel_rfl))]
         have HI:=tH (fun v=>hI.st15 hL (hj 12 (by decide) (by kernel_rfl)) rfl v)
         have hsz:k*9+8 < (curA cur (k*9) (plan1 p)[n].start (.slice an (plan1 p)[n].nodes.length cn) L).size:=by rw[curA_size];have:=HCS.out;omega
         obtain⟨u6,c6⟩:∃ u,w'.cell? ⟨gj,k*9+8,none⟩=some u:=⟨_,by rw[cell_of_heap hI.h];exact Array.getElem?_eq_getElem hsz⟩
         have hfz:=frozen_of_heap hI.h
         have hog:=World.old_of_cell c6
         clear hI hL hj hsz
         go_wp2
         exact⟨undef,HI.out undef⟩
        refine IReg.done (fun L w' hL hI=>?_)
        have hcq:=hI.c
        have hhq:=hI.h
        rw[show curA cur (k*9) (plan1 p)[n].start (.slice an (plan1 p)[n].nodes.length cn) L=((cur.setIfInBounds (k*9+6) (.int .i64 2)).setIfInBounds (k*9+7) (.int .i64 (plan1 p)[n].start)).setIfInBounds (k*9+8) (.slice an (plan1 p)[n].nodes.length cn) by unfold curA;rw[if_pos (hL 15 (by decide))]] at hhq
        have hgj:gj∈fj:=HOP.out.2.1.blkL_in gj (by simp[blkL])
        have hnd:(blkL (.slice (some ⟨gs,0,none⟩) (plan1 p).length sc)++fpL.flatten).Nodup:=HRO.out.2.2.2.1
        have hnd2:((fpL.take n).flatten++(fpL.drop n).flatten).Nodup:=by rw[← List.flatten_append,List.take_append_drop];exact(List.nodup_append.1 hnd).2.1
        have hmem:∀ q∈fpL[n],q∈fpL.flatten:=fun q hq=>List.mem_flatten.2 ⟨_,List.getElem_mem hnf,hq⟩
        have hmd:∀ q∈fpL[n],q∈(fpL.drop n).flatten:=fun q hq=>by rw[List.drop_eq_getElem_cons hnf,List.flatten_cons];exact List.mem_append_left _ hq
        have hnn1:fpL[n].Nodup:=(List.pairwise_flatten.1 (List.nodup_append.1 hnd).2.1).1 _ (List.getElem_mem hnf)
        have hfy:∀ q∈fpL[n],q∉fj3∧w.heap.size+1+1≤q:=fun q hq=>⟨fun hm=>by
         rcases HSB3.out q hm with h9 | h9
         ·exact HFPL.out q (List.mem_append_right _ (hmem q hq)) h9
         ·exact(List.nodup_append.1 hnd2).2.2 q h9 q (hmd q hq) rfl,by
         have h1:=HRO.out.2.2.2.2 q (hmem q hq)
         have h2:=HWG.out
         have h3:=HOB.out.old
         unfold World.old at h3
         have h4:=HGB.out
         omega⟩
        obtain⟨fi9,cs9,_,_,_,_,⟨nv9,hcs9,_⟩,_,hset⟩:=HOQ.out.setG oJob_local oJob_held hk
        subst hcs9
        have hlc:=layCells_chg [(.int .i64 2),(.int .i64 (plan1 p)[n].start),.slice an (plan1 p)[n].nodes.length cn] Wq gj (k*9+6)
        have hni2:=oIntS_local.chg oIntS_held (HC8.out.trans (HEQ.out.chg _)) (fun q hq hm=>HFPL.out q (List.mem_append_right _ (hmem q hq)) hm) HNI.out
        have hni3:=oIntS_local.chg oIntS_held hlc (fun q hq hm=>by obtain rfl:=List.mem_singleton.1 hm;exact(hfy q hq).1 hgf) hni2
        obtain⟨fp',hsub,hown⟩:=hset 6 [(.int .i64 2),(.int .i64 (plan1 p)[n].start),.slice an (plan1 p)[n].nodes.length cn] (runsJ (foldA (p.now+1) (jobs2 p) ((plan1 p).take n))[k] (plan1 p)[n]) fpL[n] (by show 6+3≤9;decide) hnn1 hfy ⟨.slice an (plan1 p)[n].nodes.length cn,rfl,hni3⟩
        have hlay:(Wq.layCells gj (k*9+6) [(.int .i64 2),(.int .i64 (plan1 p)[n].start),.slice an (plan1 p)[n].nodes.length cn]).heap[gj]?=some (.cells (((cur.setIfInBounds (k*9+6) (.int .i64 2)).setIfInBounds (k*9+7) (.int .i64 (plan1 p)[n].start)).setIfInBounds (k*9+8) (.slice an (plan1 p)[n].nodes.length cn)) 92 (0,0)):=setCell_heap (setCell_heap (setCell_heap hgh (k*9+6) (.int .i64 2)) (k*9+7) (.int .i64 (plan1 p)[n].start)) (k*9+8) (.slice an (plan1 p)[n].nodes.length cn)
        have hlt9:∀ q∈fp',q < Wq.heap.size:=fun q hq=>by
         rcases hsub q hq with h9 | h9
         ·exact oJobS_held _ _ _ _ HOQ.out.1 q h9
         ·exact oIntS_held _ _ _ _ hni2 q h9
        have HOW:Hid (Own (w.heap.size+1+1) w' oJobS fp' [.slice (some ⟨gj,0,none⟩) p.jobs.length cj] (foldA (p.now+1) (jobs2 p) ((plan1 p).take (n+1)))):=tH (by
         rw[HFA.out,HYS.out]
         refine⟨oJobS_local _ _ _ _ _ (fun q hq=>?_) hown.1,hown.2⟩
         by_cases e:q=gj
         ·subst e
          rw[hhq,hlay]
         ·rw[hcq.block q (hlt9 q hq) (by simpa using e),hlc.block q (hlt9 q hq) (by simpa using e)])
        have HCW:Hid (Chg fj wo2 w'):=tH ((HC8.out.trans (HEQ.out.chg _)).trans (hcq.mono (fun q hq=>by obtain rfl:=List.mem_singleton.1 hq;exact hgj)))
        have HSW:Hid (∀ q∈fp',q∈fj∨q∈(fpL.take (n+1)).flatten):=tH (fun q hq=>by
         rw[List.take_succ_eq_append_getElem hnf,List.flatten_append]
         rcases hsub q hq with h9 | h9
         ·exact(HSB3.out q h9).imp id (fun h=>List.mem_append_left _ h)
         ·exact .inr (List.mem_append_right _ (by simpa using h9)))
        clear hI hL hcq hhq hgj hnd hnd2 hmem hmd hnn1 hfy hset hlc hni2 hni3 hsub hown hlay hlt9 hgh hgf
        go_wp2
        exact⟨⟨n+1,fp',by omega,by go_num,HCW,HSW,HOW⟩,by simp[intOf];omega⟩
       ·have hlb:decide ((plan1 p)[n].start≤p.now+1)=false:=decide_eq_false hle
        have HNO:=tH (stepA_no (J:=foldA (p.now+1) (jobs2 p) ((plan1 p).take n)) hle)
        clear hle
        go_wp2
        exact⟨⟨n+1,fj3,by omega,by go_num,tH (HC8.out.trans (Ext.chg (show Ext wr _ from xE) _)),tH (fun q hq=>(HSB3.out q hq).imp id (fun h=>by
         rw[List.take_succ_eq_append_getElem hnf,List.flatten_append]
         exact List.mem_append_left _ h)),tH (by rw[HFA.out,HNO.out];exact HO8.out.ext oJobS_local oJobS_held xE)⟩,by simp[intOf];omega⟩
      ·obtain rfl:n=(plan1 p).length:=by omega
       have hO9:=HO8.out
       rw[List.take_length] at hO9
       have HO9:=tH hO9
       have HC9:Hid (Chg fj W1 wr):=tH (HC7.out.trans HC8.out)
       have HRB9:Hid (Blk wr (w.heap.size+1) [.slice none 0 0,.slice none 0 0,(.int .i64 0),(.int .i64 0),(.int .i64 0)] 43):=tH (HRB.out.chg HC9.out (fun hm=>by have:=HLO.out _ (List.mem_append_right _ hm);omega))
       have HCL9:=tH (own_chgD oLabelSS_local oLabelSS_held HC9.out (fun q hq=>HOP.out.2.2 q hq) HOP.out.1)
       have HE9:Hid (Ext w wr):=tH (HC9.out.ext HE1.out (fun q hq=>by have:=HLO.out q (List.mem_append_right _ hq);omega))
       have HDJ:Hid (∀ q∈fc,q∉fj3):=tH (fun q hq hm=>by
        rcases HSB3.out q hm with h9 | h9
        ·exact HOP.out.2.2 q hq h9
        ·obtain⟨f9,hf9,hb9⟩:=List.mem_flatten.1 h9
         have h1:=HRO.out.2.2.2.2 q (List.mem_flatten.2 ⟨f9,List.mem_of_mem_take hf9,hb9⟩)
         have h2:=HHI.out q (List.mem_append_left _ hq)
         have h3:=HWG.out
         have h4:=HOB.out.old
         unfold World.old at h4
         omega)
       have o0:=HOB8.out.cell 0
       have o1:=HOB8.out.cell 1
       have o2:=HOB8.out.cell 2
       have oo:=HOB8.out.old
       have r0:=HRB9.out.cell 0
       have r1:=HRB9.out.cell 1
       have r2:=HRB9.out.cell 2
       have r3:=HRB9.out.cell 3
       have r4:=HRB9.out.cell 4
       have ro:=HRB9.out.old
       have rf:=HRB9.out.fz
       simp only[List.getElem?_cons_zero,List.getElem?_cons_succ] at o0 o1 o2 r0 r1 r2 r3 r4
       have g5:=set5s_chg wr (w.heap.size+1) (.slice ac p.clear.length cc) (.slice aj p.jobs.length cj) (.int .i64 (p.now+1)) (.int .i64 0) (.int .i64 0)
       have HY0:=tH (HRB9.out.set5s (.slice ac p.clear.length cc) (.slice aj p.jobs.length cj) (.int .i64 (p.now+1)) (.int .i64 0) (.int .i64 0))
       have HXF:=tH (g5.ext HE9.out (by simp))
       have HCF:=tH (HCL9.out.chg oLabelSS_local oLabelSS_held g5 (by simp))
       have HJF:=tH (HO9.out.chg oJobS_local oJobS_held g5 (by simp))
       clear g5 hO9
       go_wp2
       have y0:=HY0.out.cell 0
       have y1:=HY0.out.cell 1
       have y2:=HY0.out.cell 2
       have y3:=HY0.out.cell 3
       have y4:=HY0.out.cell 4
       simp only[List.getElem?_cons_zero,List.getElem?_cons_succ] at y0 y1 y2 y3 y4
       refine bodyPost_ret (v:=.agg #[.slice ac p.clear.length cc,.slice aj p.jobs.length cj,(.int .i64 (p.now+1)),(.int .i64 0),(.int .i64 0)]) (by simp[results,Tryz.results82,go_sem,y0,y1,y2,y3,y4]) rfl ⟨.slice ac p.clear.length cc,.slice aj p.jobs.length cj,fc,fj3,(by unfold poV advP;rfl),HXF.out,?_⟩
       unfold advP
       exact And.intro (HCF.out.mono (by omega)) (And.intro (HJF.out.mono (by omega)) HDJ.out)
end Go.Proofs.YtbmbanelodabgaaGreatDoor
