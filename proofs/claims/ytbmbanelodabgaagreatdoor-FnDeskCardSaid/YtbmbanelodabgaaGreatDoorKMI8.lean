/- The implementation's desk: a line (see, plan). -/
import Derived.Test.YtbmbanelodabgaaGreatDoorKMI7
set_option maxRecDepth 100000
set_option linter.unusedVariables false
set_option linter.unusedSimpArgs false
namespace Go.Proofs.YtbmbanelodabgaaGreatDoor
open Go.RowKit Go.Fin1
def DkRes (q:Pl) (t:Bs) (w:World):Ending→World→Prop:=fun e w'=>∃ (cv jv:Value) (fc fj:List Nat) (z:ByteArray),e=.returned (.tuple #[.agg #[cv,jv,(.int .i64 q.now)],.string z])∧dl z=t∧Ext w w'∧OwnP 0 w' fc fj cv jv q
theorem set3_chgI (w:World) (g:Nat) (a b c:Value):Chg [g] w (((w.setCell ⟨g,0,none⟩ a).setCell ⟨g,1,none⟩ b).setCell ⟨g,2,none⟩ c):=(((Chg.refl _ _).setCell (.inl (by simp)) _).setCell (.inl (by simp)) _).setCell (.inl (by simp)) _
set_option maxHeartbeats 1600000 in
theorem desk_see (p:Pl) (ca:Option Addr) (cc:Nat) (ja:Option Addr) (jc:Nat) (fc fj:List Nat) (x1:ByteArray) (xa:Option Addr) (xc:Nat) (w:World) (hO:OwnP 0 w fc fj (.slice ca p.clear.length cc) (.slice ja p.jobs.length jc) p) (hR:poolR p=true) (hz:x1.size≤8000) (hS:SlR w 1 (rc sCell) (.slice xa 2 xc) [⟨kSee.toArray⟩,x1]) (hL:LibW w) :
  Calls Tryz.prog 23 #[.agg #[.slice ca p.clear.length cc,.slice ja p.jobs.length jc,(.int .i64 p.now)],.slice xa 2 xc] w (DkRes p (seeT p (rdB (dl x1)).1) w):=by
 have HR:=tH hR
 have HO:=tH hO
 have HS:=tH hS
 have HL:=tH hL
 have HE:=tH (hO.e' (right_ok hR).1)
 clear hO hR hS hL
 obtain⟨bW,oW,rfl⟩:=slr_some HS.out (i:=0) (by exact Nat.succ_pos _)
 obtain⟨ho,hc0⟩:=str_at HS.out (i:=0) (by exact Nat.succ_pos _)
 obtain⟨-,hc1⟩:=str_at HS.out (i:=1) (by exact Nat.succ_lt_succ (Nat.succ_pos _))
 simp only[List.getElem_cons_zero,List.getElem_cons_succ,Nat.add_zero] at hc0 hc1
 unfold kSee at hc0
 have hfl:∀ (a b c:Value) w,(Instr.field 71 (.agg #[a,b,c]) 0).run Tryz.prog w=.ok (.agg #[a,b]) w:=fun a b c w=>by kernel_rfl
 go_enter Tryz.func23,Tryz.ntmps23
 go_wp2_with fail
 refine(implLabelRead_any x1 _ (by omega)).mono ?_
 rintro e _ ⟨rfl,X1,rfl⟩
 rw[← rdB_dl]
 obtain⟨x,hx⟩:∃ x,(rdB (dl x1)).1=x:=⟨_,rfl⟩
 rw[hx]
 have HXL:=tH hx
 have hxok:x.ok:=by rw[← hx];exact rdB_ok _
 clear hx
 go_upto_region 6 with fail
 refine gen_world (fun W1 hW=>?_)
 have HX1:=tH (show Ext w W1 by rw[hW];exact xE)
 have HP1:=tH (show Blk W1 w.heap.size [.slice ca p.clear.length cc,.slice ja p.jobs.length jc,(.int .i64 p.now)] 41 by rw[hW];exact(Blk.new (w:=w) (cs:=#[.slice ca p.clear.length cc,.slice ja p.jobs.length jc,(.int .i64 p.now)]) rfl).ext xE)
 have HQ1:=tH (show Blk W1 (w.heap.size+1) [.slice none 0 0,.slice none 0 0,(.int .i64 0)] 41 by rw[hW];exact(Blk.new (w:=w.alloc (.cells #[.slice ca p.clear.length cc,.slice ja p.jobs.length jc,(.int .i64 p.now)] 41)) (cs:=#[.slice none 0 0,.slice none 0 0,(.int .i64 0)]) (by simp)).ext xE)
 have HL1:=tH (show Blk W1 (w.heap.size+1+1+X1.n) [(.int .i64 x.lv),(.int .i64 x.st)] 36 by rw[hW];exact(Blk.new (w:=(((w.alloc (.cells #[.slice ca p.clear.length cc,.slice ja p.jobs.length jc,(.int .i64 p.now)] 41)).alloc (.cells #[.slice none 0 0,.slice none 0 0,(.int .i64 0)] 41)).plus X1)) (cs:=#[(.int .i64 x.lv),(.int .i64 x.st)]) (by simp)).ext xE)
 have HU1:=tH (show Blk W1 (w.heap.size+1+1+X1.n+1) [.slice none 0 0,.slice none 0 0,(.int .i64 0),(.int .i64 0),(.int .i64 0)] 43 by rw[hW];exact Blk.new (cs:=#[.slice none 0 0,.slice none 0 0,(.int .i64 0),(.int .i64 0),(.int .i64 0)]) (by simp))
 clear hW hc0 hc1 ho
 have HS1:=tH (HS.out.ext (rc_stable _) HX1.out)
 clear HS
 generalize hb6:w.heap.size+1+1+X1.n=b6 at HL1 HU1 ⊢
 obtain⟨ho,hc0⟩:=str_at HS1.out (i:=0) (by exact Nat.succ_pos _)
 obtain⟨-,hc1⟩:=str_at HS1.out (i:=1) (by exact Nat.succ_lt_succ (Nat.succ_pos _))
 simp only[List.getElem_cons_zero,List.getElem_cons_succ,Nat.add_zero] at hc0 hc1
 unfold kSee at hc0
 have p0:W1.cell? ⟨w.heap.size,0,none⟩=some (.slice ca p.clear.length cc):=HP1.out.cell 0
 have p1:W1.cell? ⟨w.heap.size,1,none⟩=some (.slice ja p.jobs.length jc):=HP1.out.cell 1
 have p2:W1.cell? ⟨w.heap.size,2,none⟩=some (.int .i64 p.now):=HP1.out.cell 2
 have po:=HP1.out.old
 have l0:W1.cell? ⟨b6,0,none⟩=some (.int .i64 x.lv):=HL1.out.cell 0
 have l1:W1.cell? ⟨b6,1,none⟩=some (.int .i64 x.st):=HL1.out.cell 1
 have lo:=HL1.out.old
 go_upto_region 7 with fail
 have hn1:w.heap.size≠w.heap.size+1:=by omega
 have hn2:b6≠w.heap.size+1:=by omega
 clear ho hc0 hc1
 refine wp_region_i 6 (StI W1 (w.heap.size+1) [.slice none 0 0,.slice none 0 0,(.int .i64 0)] [.slice ca p.clear.length cc,.slice ja p.jobs.length jc,(.int .i64 p.now)] 41 4 [some (.agg #[.slice ca p.clear.length cc,.slice ja p.jobs.length jc,(.int .i64 p.now)]),some (.agg #[.slice ca p.clear.length cc,.slice ja p.jobs.length jc,(.int .i64 p.now)]),some (.agg #[(.int .i64 x.lv),(.int .i64 x.st)]),some (.string ⟨(seeT p x).toArray⟩),none,some (.string ⟨(seeT p x).toArray⟩)]) (by kernel_rfl) (by kernel_rfl) (by kernel_rfl) (fun vs=>?_) (fun vs=>StI.start (Ext.refl _).drew HQ1.out)
 refine IReg.step 1 rfl (fun L w' hI hL hj=>?_) ?_
 ·(obtain⟨q0,qo⟩:=hI.cell p0 hn1;obtain⟨q1,-⟩:=hI.cell p1 hn1;obtain⟨q2,-⟩:=hI.cell p2 hn1)
  have HI:=tH hI
  clear hI hL hj
  go_wp2
  exact HI.out.put (n:=0) (by decide) (fun u hu=>some_eq9 hu) xE
 (conv in (Act.put _ _ _)=>simp only[Act.put,List.setIfInBounds_toArray,List.set_cons_succ,List.set_cons_zero])
 refine IReg.step 2 rfl (fun L w' hI hL hj=>?_) ?_
 ·(obtain⟨q0,qo⟩:=hI.cell p0 hn1;obtain⟨q1,-⟩:=hI.cell p1 hn1;obtain⟨q2,-⟩:=hI.cell p2 hn1)
  have HI:=tH hI
  clear hI hL hj
  go_wp2
  exact HI.out.put (n:=1) (by decide) (fun u hu=>some_eq9 hu) xE
 (conv in (Act.put _ _ _)=>simp only[Act.put,List.setIfInBounds_toArray,List.set_cons_succ,List.set_cons_zero])
 refine IReg.step 3 rfl (fun L w' hI hL hj=>?_) ?_
 ·(obtain⟨q0,qo⟩:=hI.cell l0 hn2;obtain⟨q1,-⟩:=hI.cell l1 hn2)
  have HI:=tH hI
  clear hI hL hj
  go_wp2
  exact HI.out.put (n:=2) (by decide) (fun u hu=>some_eq9 hu) xE
 (conv in (Act.put _ _ _)=>simp only[Act.put,List.setIfInBounds_toArray,List.set_cons_succ,List.set_cons_zero])
 refine IReg.step 4 rfl (fun L w' hI hL hj=>?_) ?_
 ·skip
  (rw[show vs 1=_ from hI.k 1 _ rfl (hj 1 (by decide) (by kernel_rfl))])
  (rw[show vs 2=_ from hI.k 2 _ rfl (hj 2 (by decide) (by kernel_rfl))])
  have HXw:=tH (hI.c.ext HX1.out (by simp))
  have HI:=tH hI
  clear hI hL hj
  go_wp2_with fail
  refine(seeI_any p ca cc ja jc x _ (ePool_jobsM (HE.out.ext HXw.out)) HR.out (HL.out.ext HXw.out)).mono ?_
  rintro e _ ⟨⟨z,rfl,hzd⟩,X,rfl⟩
  have hz9:=ba_of hzd
  subst hz9
  clear hzd
  go_wp2
  exact HI.out.put (n:=3) (by decide) (fun u hu=>some_eq9 hu) xE
 (conv in (Act.put _ _ _)=>simp only[Act.put,List.setIfInBounds_toArray,List.set_cons_succ,List.set_cons_zero])
 refine IReg.step 5 rfl (fun L w' hI hL hj=>?_) ?_
 ·skip
  (rw[show vs 0=_ from hI.k 0 _ rfl (hj 0 (by decide) (by kernel_rfl))])
  have hB:=hI.x0 hL
  have z0:w'.cell? ⟨w.heap.size+1,0,none⟩=some (.slice none 0 0):=hB.cell 0
  have z1:w'.cell? ⟨w.heap.size+1,1,none⟩=some (.slice none 0 0):=hB.cell 1
  have z2:w'.cell? ⟨w.heap.size+1,2,none⟩=some (.int .i64 0):=hB.cell 2
  have zo:=hB.old
  have zf:=hB.fz
  have HB9:=tH hB
  have HI:=tH hI
  clear hI hL hj hB
  go_wp2
  exact⟨undef,HI.out.st (fun u hu=>by cases hu) (set3_chgI _ _ _ _ _) (((HB9.out.set 0 (.slice ca p.clear.length cc)).set 1 (.slice ja p.jobs.length jc)).set 2 (.int .i64 p.now))⟩
 (conv in (Act.put _ _ _)=>simp only[Act.put,List.setIfInBounds_toArray,List.set_cons_succ,List.set_cons_zero])
 refine IReg.step 6 rfl (fun L w' hI hL hj=>?_) ?_
 ·(rw[show vs 3=_ from hI.k 3 _ rfl (hj 3 (by decide) (by kernel_rfl))])
  have HI:=tH hI
  clear hI hL hj
  go_wp2
  exact HI.out.put (n:=5) (by decide) (fun u hu=>some_eq9 hu) xE
 (conv in (Act.put _ _ _)=>simp only[Act.put,List.setIfInBounds_toArray,List.set_cons_succ,List.set_cons_zero])
 refine IReg.done (fun L w9 hL hI=>?_)
 simp only[List.drop_succ_cons,List.drop_zero]
 rw[show vs 5=.string ⟨(seeT p x).toArray⟩ from hI.k 5 _ rfl (hL 5 (by decide))]
 have HB9:=tH (hI.x1 (hL 4 (by decide)))
 have HX9:=tH (hI.c.ext HX1.out (by simp))
 clear hI hL p0 p1 p2 po l0 l1 lo
 have y0:w9.cell? ⟨w.heap.size+1,0,none⟩=some (.slice ca p.clear.length cc):=HB9.out.cell 0
 have y1:w9.cell? ⟨w.heap.size+1,1,none⟩=some (.slice ja p.jobs.length jc):=HB9.out.cell 1
 have y2:w9.cell? ⟨w.heap.size+1,2,none⟩=some (.int .i64 p.now):=HB9.out.cell 2
 go_wp2
 refine bodyPost_ret (v:=.tuple #[.agg #[.slice ca p.clear.length cc,.slice ja p.jobs.length jc,(.int .i64 p.now)],.string ⟨(seeT p x).toArray⟩]) (by simp[results,Tryz.results23,go_sem,y0,y1,y2]) rfl ⟨_,_,fc,fj,_,rfl,?_,HX9.out,HO.out.ext HX9.out⟩
 rw[HXL.out]
set_option maxHeartbeats 1600000 in
theorem desk_plan (p:Pl) (ca:Option Addr) (cc:Nat) (ja:Option Addr) (jc:Nat) (fc fj:List Nat) (x1:ByteArray) (xa:Option Addr) (xc:Nat) (w:World) (hO:OwnP 0 w fc fj (.slice ca p.clear.length cc) (.slice ja p.jobs.length jc) p) (hR:poolR p=true) (hz:x1.size≤8000) (hS:SlR w 1 (rc sCell) (.slice xa 2 xc) [⟨kPlan.toArray⟩,x1]) (hL:LibW w) :
  Calls Tryz.prog 23 #[.agg #[.slice ca p.clear.length cc,.slice ja p.jobs.length jc,(.int .i64 p.now)],.slice xa 2 xc] w (DkRes p (planT p (rdB (dl x1)).1) w):=by
 have HR:=tH hR
 have HO:=tH hO
 have HS:=tH hS
 have HL:=tH hL
 have HE:=tH (hO.e' (right_ok hR).1)
 clear hO hR hS hL
 obtain⟨bW,oW,rfl⟩:=slr_some HS.out (i:=0) (by exact Nat.succ_pos _)
 obtain⟨ho,hc0⟩:=str_at HS.out (i:=0) (by exact Nat.succ_pos _)
 obtain⟨-,hc1⟩:=str_at HS.out (i:=1) (by exact Nat.succ_lt_succ (Nat.succ_pos _))
 simp only[List.getElem_cons_zero,List.getElem_cons_succ,Nat.add_zero] at hc0 hc1
 unfold kPlan at hc0
 have hfl:∀ (a b c:Value) w,(Instr.field 71 (.agg #[a,b,c]) 0).run Tryz.prog w=.ok (.agg #[a,b]) w:=fun a b c w=>by kernel_rfl
 go_enter Tryz.func23,Tryz.ntmps23
 go_wp2_with fail
 refine(implLabelRead_any x1 _ (by omega)).mono ?_
 rintro e _ ⟨rfl,X1,rfl⟩
 rw[← rdB_dl]
 obtain⟨x,hx⟩:∃ x,(rdB (dl x1)).1=x:=⟨_,rfl⟩
 rw[hx]
 have HXL:=tH hx
 have hxok:x.ok:=by rw[← hx];exact rdB_ok _
 clear hx
 go_upto_region 6 with fail
 refine gen_world (fun W1 hW=>?_)
 have HX1:=tH (show Ext w W1 by rw[hW];exact xE)
 have HP1:=tH (show Blk W1 w.heap.size [.slice ca p.clear.length cc,.slice ja p.jobs.length jc,(.int .i64 p.now)] 41 by rw[hW];exact(Blk.new (w:=w) (cs:=#[.slice ca p.clear.length cc,.slice ja p.jobs.length jc,(.int .i64 p.now)]) rfl).ext xE)
 have HQ1:=tH (show Blk W1 (w.heap.size+1) [.slice none 0 0,.slice none 0 0,(.int .i64 0)] 41 by rw[hW];exact(Blk.new (w:=w.alloc (.cells #[.slice ca p.clear.length cc,.slice ja p.jobs.length jc,(.int .i64 p.now)] 41)) (cs:=#[.slice none 0 0,.slice none 0 0,(.int .i64 0)]) (by simp)).ext xE)
 have HL1:=tH (show Blk W1 (w.heap.size+1+1+X1.n) [(.int .i64 x.lv),(.int .i64 x.st)] 36 by rw[hW];exact(Blk.new (w:=(((w.alloc (.cells #[.slice ca p.clear.length cc,.slice ja p.jobs.length jc,(.int .i64 p.now)] 41)).alloc (.cells #[.slice none 0 0,.slice none 0 0,(.int .i64 0)] 41)).plus X1)) (cs:=#[(.int .i64 x.lv),(.int .i64 x.st)]) (by simp)).ext xE)
 have HU1:=tH (show Blk W1 (w.heap.size+1+1+X1.n+1) [.slice none 0 0,.slice none 0 0,(.int .i64 0),(.int .i64 0),(.int .i64 0)] 43 by rw[hW];exact Blk.new (cs:=#[.slice none 0 0,.slice none 0 0,(.int .i64 0),(.int .i64 0),(.int .i64 0)]) (by simp))
 clear hW hc0 hc1 ho
 have HS1:=tH (HS.out.ext (rc_stable _) HX1.out)
 clear HS
 generalize hb6:w.heap.size+1+1+X1.n=b6 at HL1 HU1 ⊢
 obtain⟨ho,hc0⟩:=str_at HS1.out (i:=0) (by exact Nat.succ_pos _)
 obtain⟨-,hc1⟩:=str_at HS1.out (i:=1) (by exact Nat.succ_lt_succ (Nat.succ_pos _))
 simp only[List.getElem_cons_zero,List.getElem_cons_succ,Nat.add_zero] at hc0 hc1
 unfold kPlan at hc0
 have p0:W1.cell? ⟨w.heap.size,0,none⟩=some (.slice ca p.clear.length cc):=HP1.out.cell 0
 have p1:W1.cell? ⟨w.heap.size,1,none⟩=some (.slice ja p.jobs.length jc):=HP1.out.cell 1
 have p2:W1.cell? ⟨w.heap.size,2,none⟩=some (.int .i64 p.now):=HP1.out.cell 2
 have po:=HP1.out.old
 have l0:W1.cell? ⟨b6,0,none⟩=some (.int .i64 x.lv):=HL1.out.cell 0
 have l1:W1.cell? ⟨b6,1,none⟩=some (.int .i64 x.st):=HL1.out.cell 1
 have lo:=HL1.out.old
 go_upto_region 9 with fail
 have hn1:w.heap.size≠w.heap.size+1:=by omega
 have hn2:b6≠w.heap.size+1:=by omega
 clear ho hc0 hc1
 refine wp_region_i 6 (StI W1 (w.heap.size+1) [.slice none 0 0,.slice none 0 0,(.int .i64 0)] [.slice ca p.clear.length cc,.slice ja p.jobs.length jc,(.int .i64 p.now)] 41 4 [some (.agg #[.slice ca p.clear.length cc,.slice ja p.jobs.length jc,(.int .i64 p.now)]),some (.agg #[.slice ca p.clear.length cc,.slice ja p.jobs.length jc,(.int .i64 p.now)]),some (.agg #[(.int .i64 x.lv),(.int .i64 x.st)]),some (.string ⟨(planT p x).toArray⟩),none,some (.string ⟨(planT p x).toArray⟩)]) (by kernel_rfl) (by kernel_rfl) (by kernel_rfl) (fun vs=>?_) (fun vs=>StI.start (Ext.refl _).drew HQ1.out)
 refine IReg.step 1 rfl (fun L w' hI hL hj=>?_) ?_
 ·(obtain⟨q0,qo⟩:=hI.cell p0 hn1;obtain⟨q1,-⟩:=hI.cell p1 hn1;obtain⟨q2,-⟩:=hI.cell p2 hn1)
  have HI:=tH hI
  clear hI hL hj
  go_wp2
  exact HI.out.put (n:=0) (by decide) (fun u hu=>some_eq9 hu) xE
 (conv in (Act.put _ _ _)=>simp only[Act.put,List.setIfInBounds_toArray,List.set_cons_succ,List.set_cons_zero])
 refine IReg.step 2 rfl (fun L w' hI hL hj=>?_) ?_
 ·(obtain⟨q0,qo⟩:=hI.cell p0 hn1;obtain⟨q1,-⟩:=hI.cell p1 hn1;obtain⟨q2,-⟩:=hI.cell p2 hn1)
  have HI:=tH hI
  clear hI hL hj
  go_wp2
  exact HI.out.put (n:=1) (by decide) (fun u hu=>some_eq9 hu) xE
 (conv in (Act.put _ _ _)=>simp only[Act.put,List.setIfInBounds_toArray,List.set_cons_succ,List.set_cons_zero])
 refine IReg.step 3 rfl (fun L w' hI hL hj=>?_) ?_
 ·(obtain⟨q0,qo⟩:=hI.cell l0 hn2;obtain⟨q1,-⟩:=hI.cell l1 hn2)
  have HI:=tH hI
  clear hI hL hj
  go_wp2
  exact HI.out.put (n:=2) (by decide) (fun u hu=>some_eq9 hu) xE
 (conv in (Act.put _ _ _)=>simp only[Act.put,List.setIfInBounds_toArray,List.set_cons_succ,List.set_cons_zero])
 refine IReg.step 4 rfl (fun L w' hI hL hj=>?_) ?_
 ·skip
  (rw[show vs 1=_ from hI.k 1 _ rfl (hj 1 (by decide) (by kernel_rfl))])
  (rw[show vs 2=_ from hI.k 2 _ rfl (hj 2 (by decide) (by kernel_rfl))])
  have HXw:=tH (hI.c.ext HX1.out (by simp))
  have HI:=tH hI
  clear hI hL hj
  go_wp2_with fail
  refine(planI_any p ca cc ja jc x _ (HE.out.ext HXw.out) HR.out (HL.out.ext HXw.out)).mono ?_
  rintro e _ ⟨⟨z,rfl,hzd⟩,X,rfl⟩
  have hz9:=ba_of hzd
  subst hz9
  clear hzd
  go_wp2
  exact HI.out.put (n:=3) (by decide) (fun u hu=>some_eq9 hu) xE
 (conv in (Act.put _ _ _)=>simp only[Act.put,List.setIfInBounds_toArray,List.set_cons_succ,List.set_cons_zero])
 refine IReg.step 5 rfl (fun L w' hI hL hj=>?_) ?_
 ·skip
  (rw[show vs 0=_ from hI.k 0 _ rfl (hj 0 (by decide) (by kernel_rfl))])
  have hB:=hI.x0 hL
  have z0:w'.cell? ⟨w.heap.size+1,0,none⟩=some (.slice none 0 0):=hB.cell 0
  have z1:w'.cell? ⟨w.heap.size+1,1,none⟩=some (.slice none 0 0):=hB.cell 1
  have z2:w'.cell? ⟨w.heap.size+1,2,none⟩=some (.int .i64 0):=hB.cell 2
  have zo:=hB.old
  have zf:=hB.fz
  have HB9:=tH hB
  have HI:=tH hI
  clear hI hL hj hB
  go_wp2
  exact⟨undef,HI.out.st (fun u hu=>by cases hu) (set3_chgI _ _ _ _ _) (((HB9.out.set 0 (.slice ca p.clear.length cc)).set 1 (.slice ja p.jobs.length jc)).set 2 (.int .i64 p.now))⟩
 (conv in (Act.put _ _ _)=>simp only[Act.put,List.setIfInBounds_toArray,List.set_cons_succ,List.set_cons_zero])
 refine IReg.step 6 rfl (fun L w' hI hL hj=>?_) ?_
 ·(rw[show vs 3=_ from hI.k 3 _ rfl (hj 3 (by decide) (by kernel_rfl))])
  have HI:=tH hI
  clear hI hL hj
  go_wp2
  exact HI.out.put (n:=5) (by decide) (fun u hu=>some_eq9 hu) xE
 (conv in (Act.put _ _ _)=>simp only[Act.put,List.setIfInBounds_toArray,List.set_cons_succ,List.set_cons_zero])
 refine IReg.done (fun L w9 hL hI=>?_)
 simp only[List.drop_succ_cons,List.drop_zero]
 rw[show vs 5=.string ⟨(planT p x).toArray⟩ from hI.k 5 _ rfl (hL 5 (by decide))]
 have HB9:=tH (hI.x1 (hL 4 (by decide)))
 have HX9:=tH (hI.c.ext HX1.out (by simp))
 clear hI hL p0 p1 p2 po l0 l1 lo
 have y0:w9.cell? ⟨w.heap.size+1,0,none⟩=some (.slice ca p.clear.length cc):=HB9.out.cell 0
 have y1:w9.cell? ⟨w.heap.size+1,1,none⟩=some (.slice ja p.jobs.length jc):=HB9.out.cell 1
 have y2:w9.cell? ⟨w.heap.size+1,2,none⟩=some (.int .i64 p.now):=HB9.out.cell 2
 go_wp2
 refine bodyPost_ret (v:=.tuple #[.agg #[.slice ca p.clear.length cc,.slice ja p.jobs.length jc,(.int .i64 p.now)],.string ⟨(planT p x).toArray⟩]) (by simp[results,Tryz.results23,go_sem,y0,y1,y2]) rfl ⟨_,_,fc,fj,_,rfl,?_,HX9.out,HO.out.ext HX9.out⟩
 rw[HXL.out]
end Go.Proofs.YtbmbanelodabgaaGreatDoor
