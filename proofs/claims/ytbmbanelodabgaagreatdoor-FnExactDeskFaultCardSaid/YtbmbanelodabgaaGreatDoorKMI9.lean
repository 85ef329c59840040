/- The implementation's desk: a line (submit, tick, done, hold, wait). -/
import Derived.Test.YtbmbanelodabgaaGreatDoorKMI8
set_option maxRecDepth 100000
set_option linter.unusedVariables false
set_option linter.unusedSimpArgs false
namespace Go.Proofs.YtbmbanelodabgaaGreatDoor
open Go.RowKit Go.Fin1
set_option maxHeartbeats 1600000 in
theorem desk_submit (x2 x3 x4:ByteArray) (hz2:x2.size≤8000) (hz3:x3.size≤8000) (hz4:x4.size≤8000) (hw2:0≤numW (dl x2)) (hw3:0≤numW (dl x3)) (hw4:0≤numW (dl x4)) (p:Pl) (ca:Option Addr) (cc:Nat) (ja:Option Addr) (jc:Nat) (fc fj:List Nat) (x1:ByteArray) (xa:Option Addr) (xc:Nat) (w:World) (hO:OwnP 0 w fc fj (.slice ca p.clear.length cc) (.slice ja p.jobs.length jc) p) (hR:poolR p=true) (hz:x1.size≤8000) (hS:SlR w 1 (rc sCell) (.slice xa 5 xc) [⟨kSubmit.toArray⟩,x1,x2,x3,x4]) (hL:LibW w) :
  Calls Tryz.prog 23 #[.agg #[.slice ca p.clear.length cc,.slice ja p.jobs.length jc,(.int .i64 p.now)],.slice xa 5 xc] w (DkRes (resT p (subR p (rdB (dl x1)).1 (numW (dl x2)) (numW (dl x3)) (numW (dl x4))) (Lib.itoa (subR p (rdB (dl x1)).1 (numW (dl x2)) (numW (dl x3)) (numW (dl x4))).2.1)).1 (resT p (subR p (rdB (dl x1)).1 (numW (dl x2)) (numW (dl x3)) (numW (dl x4))) (Lib.itoa (subR p (rdB (dl x1)).1 (numW (dl x2)) (numW (dl x3)) (numW (dl x4))).2.1)).2 w):=by
 obtain⟨n2,hn2⟩:∃ n,numW (dl x2)=n:=⟨_,rfl⟩
 have Hn2:=tH hn2
 have Hn2P:=tH (show 0≤n2 by rw[← hn2];exact hw2)
 have Hn2I:=tH (show I64 n2 by rw[← hn2];exact numW_i64 hw2)
 obtain⟨n3,hn3⟩:∃ n,numW (dl x3)=n:=⟨_,rfl⟩
 have Hn3:=tH hn3
 have Hn3P:=tH (show 0≤n3 by rw[← hn3];exact hw3)
 have Hn3I:=tH (show I64 n3 by rw[← hn3];exact numW_i64 hw3)
 obtain⟨n4,hn4⟩:∃ n,numW (dl x4)=n:=⟨_,rfl⟩
 have Hn4:=tH hn4
 have Hn4P:=tH (show 0≤n4 by rw[← hn4];exact hw4)
 have Hn4I:=tH (show I64 n4 by rw[← hn4];exact numW_i64 hw4)
 rw[hn2,hn3,hn4]
 clear hn2 hn3 hn4 hw2 hw3 hw4
 have HR:=tH hR
 have HO:=tH hO
 have HS:=tH hS
 have HL:=tH hL
 have HE:=tH (hO.e' (right_ok hR).1)
 clear hO hR hS hL
 obtain⟨bW,oW,rfl⟩:=slr_some HS.out (i:=0) (by exact Nat.succ_pos _)
 obtain⟨ho,hc0⟩:=str_at HS.out (i:=0) (by exact Nat.succ_pos _)
 obtain⟨-,hc1⟩:=str_at HS.out (i:=1) (by exact Nat.succ_lt_succ (Nat.succ_pos _))
 simp only[List.getElem_cons_zero,List.getElem_cons_succ,Nat.add_zero] at hc0 hc1
 unfold kSubmit at hc0
 have hfl:∀ (a b c:Value) w,(Instr.field 71 (.agg #[a,b,c]) 0).run Tryz.prog w=.ok (.agg #[a,b]) w:=fun a b c w=>by kernel_rfl
 go_enter Tryz.func23,Tryz.ntmps23
 go_wp2_with fail
 refine(implLabelRead_any x1 _ (by omega)).mono ?_
 rintro e _ ⟨rfl,X1,rfl⟩
 rw[← rdB_dl]
 obtain⟨x,hx⟩:∃ x,(rdB (dl x1)).1=x:=⟨_,rfl⟩
 rw[hx]
 have HXL:=tH hx
 have hxok:x.ok:=by rw[← hx];exact rdB_ok _
 clear hx
 go_upto_region 6 with fail
 refine gen_world (fun W1 hW=>?_)
 have HX1:=tH (show Ext w W1 by rw[hW];exact xE)
 have HP1:=tH (show Blk W1 w.heap.size [.slice ca p.clear.length cc,.slice ja p.jobs.length jc,(.int .i64 p.now)] 41 by rw[hW];exact(Blk.new (w:=w) (cs:=#[.slice ca p.clear.length cc,.slice ja p.jobs.length jc,(.int .i64 p.now)]) rfl).ext xE)
 have HQ1:=tH (show Blk W1 (w.heap.size+1) [.slice none 0 0,.slice none 0 0,(.int .i64 0)] 41 by rw[hW];exact(Blk.new (w:=w.alloc (.cells #[.slice ca p.clear.length cc,.slice ja p.jobs.length jc,(.int .i64 p.now)] 41)) (cs:=#[.slice none 0 0,.slice none 0 0,(.int .i64 0)]) (by simp)).ext xE)
 have HL1:=tH (show Blk W1 (w.heap.size+1+1+X1.n) [(.int .i64 x.lv),(.int .i64 x.st)] 36 by rw[hW];exact(Blk.new (w:=(((w.alloc (.cells #[.slice ca p.clear.length cc,.slice ja p.jobs.length jc,(.int .i64 p.now)] 41)).alloc (.cells #[.slice none 0 0,.slice none 0 0,(.int .i64 0)] 41)).plus X1)) (cs:=#[(.int .i64 x.lv),(.int .i64 x.st)]) (by simp)).ext xE)
 have HU1:=tH (show Blk W1 (w.heap.size+1+1+X1.n+1) [.slice none 0 0,.slice none 0 0,(.int .i64 0),(.int .i64 0),(.int .i64 0)] 43 by rw[hW];exact Blk.new (cs:=#[.slice none 0 0,.slice none 0 0,(.int .i64 0),(.int .i64 0),(.int .i64 0)]) (by simp))
 clear hW hc0 hc1 ho
 have HS1:=tH (HS.out.ext (rc_stable _) HX1.out)
 clear HS
 generalize hb6:w.heap.size+1+1+X1.n=b6 at HL1 HU1 ⊢
 obtain⟨ho,hc0⟩:=str_at HS1.out (i:=0) (by exact Nat.succ_pos _)
 obtain⟨-,hc1⟩:=str_at HS1.out (i:=1) (by exact Nat.succ_lt_succ (Nat.succ_pos _))
 simp only[List.getElem_cons_zero,List.getElem_cons_succ,Nat.add_zero] at hc0 hc1
 unfold kSubmit at hc0
 have p0:W1.cell? ⟨w.heap.size,0,none⟩=some (.slice ca p.clear.length cc):=HP1.out.cell 0
 have p1:W1.cell? ⟨w.heap.size,1,none⟩=some (.slice ja p.jobs.length jc):=HP1.out.cell 1
 have p2:W1.cell? ⟨w.heap.size,2,none⟩=some (.int .i64 p.now):=HP1.out.cell 2
 have po:=HP1.out.old
 have l0:W1.cell? ⟨b6,0,none⟩=some (.int .i64 x.lv):=HL1.out.cell 0
 have l1:W1.cell? ⟨b6,1,none⟩=some (.int .i64 x.st):=HL1.out.cell 1
 have lo:=HL1.out.old
 obtain⟨-,hc2⟩:=str_at HS1.out (i:=2) (by simp)
 obtain⟨-,hc3⟩:=str_at HS1.out (i:=3) (by simp)
 obtain⟨-,hc4⟩:=str_at HS1.out (i:=4) (by simp)
 simp only[List.getElem_cons_zero,List.getElem_cons_succ] at hc2 hc3 hc4
 obtain⟨id,c,hsub,hid,hc,hpos⟩:=subR_nat (p:=p) (x:=x) (n:=n2) (l:=n3) (q:=n4)
 have HRG:=tH (show c=0→poolR (subR p x n2 n3 n4).1=true from fun h=>(subR_right (by rw[hsub];simpa using h)).2)
 have HPF:=tH (subR_okD p x n2 n3 n4)
 rw[HXL.out]
 generalize hY:subR p x n2 n3 n4=Y at hsub HPF ⊢
 have HY:=tH hY
 clear hY
 obtain⟨q,y2⟩:=Y
 simp only at hsub
 subst hsub
 go_upto_region 11 with fail
 (refine wp_region_y 15 [(fun u _=>u=(.agg #[.slice ca p.clear.length cc,.slice ja p.jobs.length jc,(.int .i64 p.now)])),(fun u _=>u=(.agg #[(.int .i64 x.lv),(.int .i64 x.st)])),(fun u _=>u=(.slice (some ⟨bW,oW,none⟩) 5 xc)),(fun u _=>u=(.pointer (some ⟨bW,oW+2,none⟩))),(fun u _=>u=(.string x2)),(fun u _=>u=((.int .i64 n2))),(fun u _=>u=(.slice (some ⟨bW,oW,none⟩) 5 xc)),(fun u _=>u=(.pointer (some ⟨bW,oW+3,none⟩))),(fun u _=>u=(.string x3)),(fun u _=>u=((.int .i64 n3))),(fun u _=>u=(.slice (some ⟨bW,oW,none⟩) 5 xc)),(fun u _=>u=(.pointer (some ⟨bW,oW+4,none⟩))),(fun u _=>u=(.string x4)),(fun u _=>u=((.int .i64 n4))),kOutO 0 q (id:Int) (c:Int)] (by kernel_rfl) (by kernel_rfl) (by kernel_rfl) rfl ?_ (by (repeat' (first | exact trivial | exact XReg.GoodK.same _ default | refine And.intro ?_ ?_));all_goals (first | exact kOutO_good HPF.out)))
 refine YReg.va (.agg #[.slice ca p.clear.length cc,.slice ja p.jobs.length jc,(.int .i64 p.now)]) ?_
 refine YReg.va (.agg #[(.int .i64 x.lv),(.int .i64 x.st)]) ?_
 refine YReg.va (.slice (some ⟨bW,oW,none⟩) 5 xc) ?_
 refine YReg.va (.pointer (some ⟨bW,oW+2,none⟩)) ?_
 refine YReg.va (.string x2) ?_
 (apply YReg.val ((.int .i64 n2));(case h=>(intro w' hw' hF';obtain⟨X',rfl⟩:=hw';have HF':=tH hF';clear hF';go_wp2_with ((go_at_call 44;refine(number_any x2 _ (by omega) (by rw[Hn2.out];exact Hn2P.out) (HL.out.ext (HX1.out.trans xE))).mono ?_;rintro e _ ⟨rfl,Y9,rfl⟩;rw[Hn2.out]));exact⟨rfl,xE⟩));(case hv=>kernel_rfl))
 refine YReg.va (.slice (some ⟨bW,oW,none⟩) 5 xc) ?_
 refine YReg.va (.pointer (some ⟨bW,oW+3,none⟩)) ?_
 refine YReg.va (.string x3) ?_
 (apply YReg.val ((.int .i64 n3));(case h=>(intro w' hw' hF';obtain⟨X',rfl⟩:=hw';have HF':=tH hF';clear hF';go_wp2_with ((go_at_call 44;refine(number_any x3 _ (by omega) (by rw[Hn3.out];exact Hn3P.out) (HL.out.ext (HX1.out.trans xE))).mono ?_;rintro e _ ⟨rfl,Y9,rfl⟩;rw[Hn3.out]));exact⟨rfl,xE⟩));(case hv=>kernel_rfl))
 refine YReg.va (.slice (some ⟨bW,oW,none⟩) 5 xc) ?_
 refine YReg.va (.pointer (some ⟨bW,oW+4,none⟩)) ?_
 refine YReg.va (.string x4) ?_
 (apply YReg.val ((.int .i64 n4));(case h=>(intro w' hw' hF';obtain⟨X',rfl⟩:=hw';have HF':=tH hF';clear hF';go_wp2_with ((go_at_call 44;refine(number_any x4 _ (by omega) (by rw[Hn4.out];exact Hn4P.out) (HL.out.ext (HX1.out.trans xE))).mono ?_;rintro e _ ⟨rfl,Y9,rfl⟩;rw[Hn4.out]));exact⟨rfl,xE⟩));(case hv=>kernel_rfl))
 refine YReg.kind (fun w' hw' hF'=>?_) (fun v w1 hK=>?_)
 ·obtain⟨X',rfl⟩:=hw'
  clear hF'
  go_wp2_with fail
  refine(implSubmit_any p (p.val (.slice ca p.clear.length cc) (.slice ja p.jobs.length jc)) x n2 n3 n4 _ (HE.out.ext (HX1.out.trans xE)) (right_fits HR.out) hxok Hn2I.out Hn3I.out Hn4I.out).mono ?_
  rintro e _ ⟨cv,jv,fc9,fj9,rfl,⟨X2,rfl⟩,hO9⟩
  rw[HY.out] at hO9 ⊢
  go_wp2
  exact⟨xE,kOutO_in (hO9.mono (Nat.zero_le _))⟩
 clear hc2 hc3 hc4
 obtain⟨qa,qe,qb,qd,-,-,rfl,-⟩:=hK
 clear w1
 refine YReg.done (fun X9 hF=>?_)
 obtain⟨gc,gj,hO9⟩:=kOutO_out (hF 14 (kOutO 0 q (id:Int) (c:Int),poV q (id:Int) (c:Int) (.slice qa q.clear.length qe) (.slice qb q.jobs.length qd)) (by kernel_rfl))
 have HO9:=tH hO9
 have HP9:=tH (HP1.out.ext ((Ext.refl W1).plus X9))
 have HQ9:=tH (HQ1.out.ext ((Ext.refl W1).plus X9))
 have HU9:=tH (HU1.out.ext ((Ext.refl W1).plus X9))
 have HX9:=tH (HX1.out.trans ((Ext.refl W1).plus X9))
 clear hF hO9 HP1 HQ1 HU1 HX1 HL1 HS1 p0 p1 p2 po l0 l1 lo ho hc0 hc1
 generalize W1.plus X9=W9 at HO9 HP9 HQ9 HU9 HX9 ⊢
 simp only[List.drop_succ_cons,List.drop_zero]
 unfold poV
 have u0:W9.cell? ⟨b6+1,0,none⟩=some (.slice none 0 0):=HU9.out.cell 0
 have u1:W9.cell? ⟨b6+1,1,none⟩=some (.slice none 0 0):=HU9.out.cell 1
 have u2:W9.cell? ⟨b6+1,2,none⟩=some (.int .i64 0):=HU9.out.cell 2
 have u3:W9.cell? ⟨b6+1,3,none⟩=some (.int .i64 0):=HU9.out.cell 3
 have u4:W9.cell? ⟨b6+1,4,none⟩=some (.int .i64 0):=HU9.out.cell 4
 have uo:=HU9.out.old
 have uf:=HU9.out.fz
 go_upto_region 12 with fail
 refine gen_world (fun W5 hW=>?_)
 have hC:Chg [b6+1] W9 W5:=by rw[hW];exact set5_chgI _ _ _ _ _ _ _
 have HB5:=tH (show Blk W5 (b6+1) [.slice qa q.clear.length qe,.slice qb q.jobs.length qd,(.int .i64 q.now),(.int .i64 (id:Int)),(.int .i64 (c:Int))] 43 by rw[hW];exact((((HU9.out.set 0 _).set 1 _).set 2 _).set 3 _).set 4 _)
 have HO5:=tH (HO9.out.far hC (ownP_boxM HO9.out HU9.out (by decide) (by decide)))
 have HP5:=tH (HP9.out.chg hC (by simp;omega))
 have HQ5:=tH (HQ9.out.chg hC (by simp;omega))
 have HX5:=tH (hC.ext HX9.out (by simp;omega))
 clear hW hC u0 u1 u2 u3 u4 uo uf HP9 HQ9 HU9 HX9 HO9
 have u3:W5.cell? ⟨b6+1,3,none⟩=some (.int .i64 (id:Int)):=HB5.out.cell 3
 have uo:=HB5.out.old
 go_wp2_with fail
 refine(decimal_any (id:Int) _ (by omega) (by omega) (HL.out.ext HX5.out)).mono ?_
 rintro e _ ⟨rfl,X2,rfl⟩
 obtain⟨zt,hzt⟩:∃ z,(⟨(Lib.itoa (id:Int)).toArray⟩:ByteArray)=z:=⟨_,rfl⟩
 have HTX:=tH (show dl zt=Lib.itoa (id:Int) by rw[← hzt])
 rw[hzt]
 clear hzt u3 uo
 go_upto_region 16 with fail
 refine gen_world (fun W6 hW=>?_)
 have hx6:Ext W5 W6:=by rw[hW];exact xE
 have HB6:=tH (HB5.out.ext hx6)
 have HO6:=tH (HO5.out.ext hx6)
 have HP6:=tH (HP5.out.ext hx6)
 have HQ6:=tH (HQ5.out.ext hx6)
 have HX6:=tH (HX5.out.trans hx6)
 clear hW hx6 HB5 HO5 HP5 HQ5 HX5
 have HB5:=HB6
 have HO5:=HO6
 have HP5:=HP6
 have HQ5:=HQ6
 have HX5:=HX6
 clear HB6 HO6 HP6 HQ6 HX6
 generalize W6=W5 at HB5 HO5 HP5 HQ5 HX5 ⊢
 have HLW5:=tH (HL.out.ext HX5.out)
 have u4:W5.cell? ⟨b6+1,4,none⟩=some (.int .i64 (c:Int)):=HB5.out.cell 4
 have uo:=HB5.out.old
 by_cases hc9:c=0
 ·subst hc9
  have u0:W5.cell? ⟨b6+1,0,none⟩=some (.slice qa q.clear.length qe):=HB5.out.cell 0
  have u1:W5.cell? ⟨b6+1,1,none⟩=some (.slice qb q.jobs.length qd):=HB5.out.cell 1
  have u2:W5.cell? ⟨b6+1,2,none⟩=some (.int .i64 q.now):=HB5.out.cell 2
  have z0:W5.cell? ⟨w.heap.size+1,0,none⟩=some (.slice none 0 0):=HQ5.out.cell 0
  have z1:W5.cell? ⟨w.heap.size+1,1,none⟩=some (.slice none 0 0):=HQ5.out.cell 1
  have z2:W5.cell? ⟨w.heap.size+1,2,none⟩=some (.int .i64 0):=HQ5.out.cell 2
  have zo:=HQ5.out.old
  have zf:=HQ5.out.fz
  go_wp2
  refine gen_post (fun W9 hW=>?_)
  have hC:Chg [w.heap.size+1] W5 W9:=by rw[hW];exact set3_chgI _ _ _ _ _
  have HB9:=tH (show Blk W9 (w.heap.size+1) [.slice qa q.clear.length qe,.slice qb q.jobs.length qd,(.int .i64 q.now)] 41 by rw[hW];exact((HQ5.out.set 0 _).set 1 _).set 2 _)
  have HO9:=tH (HO5.out.far hC (ownP_boxM HO5.out HQ5.out (by decide) (by decide)))
  have HX9:=tH (hC.ext HX5.out (by simp))
  have y0:W9.cell? ⟨w.heap.size+1,0,none⟩=some (.slice qa q.clear.length qe):=HB9.out.cell 0
  have y1:W9.cell? ⟨w.heap.size+1,1,none⟩=some (.slice qb q.jobs.length qd):=HB9.out.cell 1
  have y2:W9.cell? ⟨w.heap.size+1,2,none⟩=some (.int .i64 q.now):=HB9.out.cell 2
  refine bodyPost_ret (v:=.tuple #[.agg #[.slice qa q.clear.length qe,.slice qb q.jobs.length qd,(.int .i64 q.now)],.string zt]) (by simp[results,Tryz.results23,go_sem,y0,y1,y2]) rfl ?_
  rw[HXL.out,HY.out]
  rw[show resT p (q,(id:Int),((0:Nat):Int)) (Lib.itoa (id:Int))=(q,(Lib.itoa (id:Int))) from if_pos rfl]
  exact⟨_,_,_,_,_,rfl,HTX.out,HX9.out,HO9.out⟩
 ·have hcb:((c:Int) != 0)=true:=by simp;omega
  have hcn:(c != 0)=true:=by simp;omega
  obtain⟨zE,hzE⟩:∃ z,(⟨(Lib.itoa (c:Int)).toArray⟩:ByteArray)=z:=⟨_,rfl⟩
  have HZE:=tH hzE
  have hzs:zE.size≤7:=by rw[← hzE,size_list];exact itoa_len6 (by omega) (by omega)
  have HDE:=tH (show dl ((⟨#[101,114,114,111,114,32]⟩:ByteArray)++zE)=errT (c:Int) by
   rw[← hzE]
   unfold errT dl
   rw[ByteArray.data_append,Array.toList_append])
  clear hzE
  have p0:W5.cell? ⟨w.heap.size,0,none⟩=some (.slice ca p.clear.length cc):=HP5.out.cell 0
  have p1:W5.cell? ⟨w.heap.size,1,none⟩=some (.slice ja p.jobs.length jc):=HP5.out.cell 1
  have p2:W5.cell? ⟨w.heap.size,2,none⟩=some (.int .i64 p.now):=HP5.out.cell 2
  have hn1:w.heap.size≠w.heap.size+1:=by omega
  have hn2:b6+1≠w.heap.size+1:=by omega
  go_upto_region 17 with fail
  refine wp_region_i 7 (StI W5 (w.heap.size+1) [.slice none 0 0,.slice none 0 0,(.int .i64 0)] [.slice ca p.clear.length cc,.slice ja p.jobs.length jc,(.int .i64 p.now)] 41 5 [some (.agg #[.slice ca p.clear.length cc,.slice ja p.jobs.length jc,(.int .i64 p.now)]),some (.pointer (some ⟨b6+1,4,none⟩)),some (.int .i64 (c:Int)),some (.string zE),some (.string (⟨#[101,114,114,111,114,32]⟩++zE)),none,some (.string (⟨#[101,114,114,111,114,32]⟩++zE))]) (by kernel_rfl) (by kernel_rfl) (by kernel_rfl) (fun vs=>?_) (fun vs=>StI.start (Ext.refl _).drew HQ5.out)
  refine IReg.step 1 rfl (fun L w' hI hL hj=>?_) ?_
  ·(obtain⟨q0,qo⟩:=hI.cell p0 hn1;obtain⟨q1,-⟩:=hI.cell p1 hn1;obtain⟨q2,-⟩:=hI.cell p2 hn1)
   have HI:=tH hI
   clear hI hL hj
   go_wp2
   exact HI.out.put (n:=0) (by decide) (fun u hu=>some_eq9 hu) xE
  (conv in (Act.put _ _ _)=>simp only[Act.put,List.setIfInBounds_toArray,List.set_cons_succ,List.set_cons_zero])
  refine IReg.step 2 rfl (fun L w' hI hL hj=>?_) ?_
  ·(obtain⟨q0,qo⟩:=hI.cell u4 hn2)
   have HI:=tH hI
   clear hI hL hj
   go_wp2
   exact HI.out.put (n:=1) (by decide) (fun u hu=>some_eq9 hu) xE
  (conv in (Act.put _ _ _)=>simp only[Act.put,List.setIfInBounds_toArray,List.set_cons_succ,List.set_cons_zero])
  refine IReg.step 3 rfl (fun L w' hI hL hj=>?_) ?_
  ·((rw[show vs 1=_ from hI.k 1 _ rfl (hj 1 (by decide) (by kernel_rfl))]);obtain⟨q0,qo⟩:=hI.cell u4 hn2)
   have HI:=tH hI
   clear hI hL hj
   go_wp2
   exact HI.out.put (n:=2) (by decide) (fun u hu=>some_eq9 hu) xE
  (conv in (Act.put _ _ _)=>simp only[Act.put,List.setIfInBounds_toArray,List.set_cons_succ,List.set_cons_zero])
  refine IReg.step 4 rfl (fun L w' hI hL hj=>?_) ?_
  ·skip
   (rw[show vs 2=_ from hI.k 2 _ rfl (hj 2 (by decide) (by kernel_rfl))])
   have HXw:=tH (hI.c.ext HX5.out (by simp))
   have HI:=tH hI
   clear hI hL hj
   go_wp2_with fail
   refine(decimal_any (c:Int) _ (by omega) (by omega) (HL.out.ext HXw.out)).mono ?_
   rintro e _ ⟨rfl,X,rfl⟩
   rw[HZE.out]
   go_wp2
   exact HI.out.put (n:=3) (by decide) (fun u hu=>some_eq9 hu) xE
  (conv in (Act.put _ _ _)=>simp only[Act.put,List.setIfInBounds_toArray,List.set_cons_succ,List.set_cons_zero])
  refine IReg.step 5 rfl (fun L w' hI hL hj=>?_) ?_
  ·(rw[show vs 3=_ from hI.k 3 _ rfl (hj 3 (by decide) (by kernel_rfl))])
   have HI:=tH hI
   clear hI hL hj
   go_wp2
   exact HI.out.put (n:=4) (by decide) (fun u hu=>some_eq9 hu) xE
  (conv in (Act.put _ _ _)=>simp only[Act.put,List.setIfInBounds_toArray,List.set_cons_succ,List.set_cons_zero])
  refine IReg.step 6 rfl (fun L w' hI hL hj=>?_) ?_
  ·skip
   (rw[show vs 0=_ from hI.k 0 _ rfl (hj 0 (by decide) (by kernel_rfl))])
   have hB:=hI.x0 hL
   have z0:w'.cell? ⟨w.heap.size+1,0,none⟩=some (.slice none 0 0):=hB.cell 0
   have z1:w'.cell? ⟨w.heap.size+1,1,none⟩=some (.slice none 0 0):=hB.cell 1
   have z2:w'.cell? ⟨w.heap.size+1,2,none⟩=some (.int .i64 0):=hB.cell 2
   have zo:=hB.old
   have zf:=hB.fz
   have HB9:=tH hB
   have HI:=tH hI
   clear hI hL hj hB
   go_wp2
   exact⟨undef,HI.out.st (fun u hu=>by cases hu) (set3_chgI _ _ _ _ _) (((HB9.out.set 0 (.slice ca p.clear.length cc)).set 1 (.slice ja p.jobs.length jc)).set 2 (.int .i64 p.now))⟩
  (conv in (Act.put _ _ _)=>simp only[Act.put,List.setIfInBounds_toArray,List.set_cons_succ,List.set_cons_zero])
  refine IReg.step 7 rfl (fun L w' hI hL hj=>?_) ?_
  ·(rw[show vs 4=_ from hI.k 4 _ rfl (hj 4 (by decide) (by kernel_rfl))])
   have HI:=tH hI
   clear hI hL hj
   go_wp2
   exact HI.out.put (n:=6) (by decide) (fun u hu=>some_eq9 hu) xE
  (conv in (Act.put _ _ _)=>simp only[Act.put,List.setIfInBounds_toArray,List.set_cons_succ,List.set_cons_zero])
  refine IReg.done (fun L w9 hL hI=>?_)
  simp only[List.drop_succ_cons,List.drop_zero]
  rw[show vs 6=.string (⟨#[101,114,114,111,114,32]⟩++zE) from hI.k 6 _ rfl (hL 6 (by decide))]
  have HB9:=tH (hI.x1 (hL 5 (by decide)))
  have HX9:=tH (hI.c.ext HX5.out (by simp))
  clear hI hL p0 p1 p2 u4 uo
  have y0:w9.cell? ⟨w.heap.size+1,0,none⟩=some (.slice ca p.clear.length cc):=HB9.out.cell 0
  have y1:w9.cell? ⟨w.heap.size+1,1,none⟩=some (.slice ja p.jobs.length jc):=HB9.out.cell 1
  have y2:w9.cell? ⟨w.heap.size+1,2,none⟩=some (.int .i64 p.now):=HB9.out.cell 2
  go_wp2
  refine bodyPost_ret (v:=.tuple #[.agg #[.slice ca p.clear.length cc,.slice ja p.jobs.length jc,(.int .i64 p.now)],.string (⟨#[101,114,114,111,114,32]⟩++zE)]) (by simp[results,Tryz.results23,go_sem,y0,y1,y2]) rfl ?_
  rw[HXL.out,HY.out]
  rw[show resT p (q,(id:Int),(c:Int)) (Lib.itoa (id:Int))=(p,errT (c:Int)) from if_neg (by show ¬ (c:Int)=0;omega)]
  exact⟨_,_,fc,fj,_,rfl,HDE.out,HX9.out,HO.out.ext HX9.out⟩
set_option maxHeartbeats 3200000 in
theorem desk_chg (k:Bs) (hk:k=kDone∨k=kHold∨k=kWait) (x2:ByteArray) (hz2:x2.size≤8000) (hw2:0≤numW (dl x2)) (p:Pl) (ca:Option Addr) (cc:Nat) (ja:Option Addr) (jc:Nat) (fc fj:List Nat) (x1:ByteArray) (xa:Option Addr) (xc:Nat) (w:World) (hO:OwnP 0 w fc fj (.slice ca p.clear.length cc) (.slice ja p.jobs.length jc) p) (hR:poolR p=true) (hz:x1.size≤8000) (hS:SlR w 1 (rc sCell) (.slice xa 3 xc) [⟨k.toArray⟩,x1,x2]) (hL:LibW w) :
  Calls Tryz.prog 23 #[.agg #[.slice ca p.clear.length cc,.slice ja p.jobs.length jc,(.int .i64 p.now)],.slice xa 3 xc] w (DkRes (resT p (chR p (rdB (dl x1)).1 (numW (dl x2)) (stW k)) okT).1 (resT p (chR p (rdB (dl x1)).1 (numW (dl x2)) (stW k)) okT).2 w):=by
 have HK:=tH hk
 rcases hk with hk | hk | hk
 iterate 3
  ·have HKE:=tH hk
   clear hk
   obtain⟨n2,hn2⟩:∃ n,numW (dl x2)=n:=⟨_,rfl⟩
   have Hn2:=tH hn2
   have Hn2P:=tH (show 0≤n2 by rw[← hn2];exact hw2)
   have Hn2I:=tH (show I64 n2 by rw[← hn2];exact numW_i64 hw2)
   rw[hn2]
   clear hn2 hw2
   have HR:=tH hR
   have HO:=tH hO
   have HS:=tH hS
   have HL:=tH hL
   have HE:=tH (hO.e' (right_ok hR).1)
   clear hO hR hS hL
   obtain⟨bW,oW,rfl⟩:=slr_some HS.out (i:=0) (by exact Nat.succ_pos _)
   obtain⟨ho,hc0⟩:=str_at HS.out (i:=0) (by exact Nat.succ_pos _)
   obtain⟨-,hc1⟩:=str_at HS.out (i:=1) (by exact Nat.succ_lt_succ (Nat.succ_pos _))
   simp only[List.getElem_cons_zero,List.getElem_cons_succ,Nat.add_zero] at hc0 hc1
   (rw[HKE.out] at hc0;first | unfold kDone at hc0 | unfold kHold at hc0 | unfold kWait at hc0)
   have hfl:∀ (a b c:Value) w,(Instr.field 71 (.agg #[a,b,c]) 0).run Tryz.prog w=.ok (.agg #[a,b]) w:=fun a b c w=>by kernel_rfl
   go_enter Tryz.func23,Tryz.ntmps23
   go_wp2_with fail
   refine(implLabelRead_any x1 _ (by omega)).mono ?_
   rintro e _ ⟨rfl,X1,rfl⟩
   rw[← rdB_dl]
   obtain⟨x,hx⟩:∃ x,(rdB (dl x1)).1=x:=⟨_,rfl⟩
   rw[hx]
   have HXL:=tH hx
   have hxok:x.ok:=by rw[← hx];exact rdB_ok _
   clear hx
   go_upto_region 6 with fail
   refine gen_world (fun W1 hW=>?_)
   have HX1:=tH (show Ext w W1 by rw[hW];exact xE)
   have HP1:=tH (show Blk W1 w.heap.size [.slice ca p.clear.length cc,.slice ja p.jobs.length jc,(.int .i64 p.now)] 41 by rw[hW];exact(Blk.new (w:=w) (cs:=#[.slice ca p.clear.length cc,.slice ja p.jobs.length jc,(.int .i64 p.now)]) rfl).ext xE)
   have HQ1:=tH (show Blk W1 (w.heap.size+1) [.slice none 0 0,.slice none 0 0,(.int .i64 0)] 41 by rw[hW];exact(Blk.new (w:=w.alloc (.cells #[.slice ca p.clear.length cc,.slice ja p.jobs.length jc,(.int .i64 p.now)] 41)) (cs:=#[.slice none 0 0,.slice none 0 0,(.int .i64 0)]) (by simp)).ext xE)
   have HL1:=tH (show Blk W1 (w.heap.size+1+1+X1.n) [(.int .i64 x.lv),(.int .i64 x.st)] 36 by rw[hW];exact(Blk.new (w:=(((w.alloc (.cells #[.slice ca p.clear.length cc,.slice ja p.jobs.length jc,(.int .i64 p.now)] 41)).alloc (.cells #[.slice none 0 0,.slice none 0 0,(.int .i64 0)] 41)).plus X1)) (cs:=#[(.int .i64 x.lv),(.int .i64 x.st)]) (by simp)).ext xE)
   have HU1:=tH (show Blk W1 (w.heap.size+1+1+X1.n+1) [.slice none 0 0,.slice none 0 0,(.int .i64 0),(.int .i64 0),(.int .i64 0)] 43 by rw[hW];exact Blk.new (cs:=#[.slice none 0 0,.slice none 0 0,(.int .i64 0),(.int .i64 0),(.int .i64 0)]) (by simp))
   clear hW hc0 hc1 ho
   have HS1:=tH (HS.out.ext (rc_stable _) HX1.out)
   clear HS
   generalize hb6:w.heap.size+1+1+X1.n=b6 at HL1 HU1 ⊢
   obtain⟨ho,hc0⟩:=str_at HS1.out (i:=0) (by exact Nat.succ_pos _)
   obtain⟨-,hc1⟩:=str_at HS1.out (i:=1) (by exact Nat.succ_lt_succ (Nat.succ_pos _))
   simp only[List.getElem_cons_zero,List.getElem_cons_succ,Nat.add_zero] at hc0 hc1
   (rw[HKE.out] at hc0;first | unfold kDone at hc0 | unfold kHold at hc0 | unfold kWait at hc0)
   have p0:W1.cell? ⟨w.heap.size,0,none⟩=some (.slice ca p.clear.length cc):=HP1.out.cell 0
   have p1:W1.cell? ⟨w.heap.size,1,none⟩=some (.slice ja p.jobs.length jc):=HP1.out.cell 1
   have p2:W1.cell? ⟨w.heap.size,2,none⟩=some (.int .i64 p.now):=HP1.out.cell 2
   have po:=HP1.out.old
   have l0:W1.cell? ⟨b6,0,none⟩=some (.int .i64 x.lv):=HL1.out.cell 0
   have l1:W1.cell? ⟨b6,1,none⟩=some (.int .i64 x.st):=HL1.out.cell 1
   have lo:=HL1.out.old
   have hmm:=@run_makeMap Tryz.prog
   have hM0:=mapW_made 2 (Ext.refl W1)
   have hzr:∀ w,(zeroValue 2).run Tryz.prog w=.ok (.int .i64 0) w:=fun w=>by kernel_rfl
   go_upto_region 5 with (first | (refine ins_step rfl _ _ _ _ rfl Tryz.underlying2 Tryz.underlying85 (by assumption) rfl _ _ rfl rfl (by decide) (by decide) (by omega) ?_;intro w9 hM9;have hc9:=hM9.ext.cell hc0) | (at_lookup;refine look_step rfl _ _ _ rfl Tryz.underlying2 Tryz.underlying85 (hzr _) (by assumption) rfl _ rfl (by decide) ?_;intro s9 hs9))
   have hs8:s9=stW k:=by
    have h:=state_at (t:=k) (c:=s9) HK.out (by rw[HKE.out];first | (unfold kDone;exact hs9) | (unfold kHold;exact hs9) | (unfold kWait;exact hs9))
    rw[h];unfold stW;rfl
   refine gen_world (fun W2 hW=>?_)
   have hx2:Ext W1 W2:=by rw[hW];exact hM9.ext
   have HX2:=tH (HX1.out.trans hx2)
   have HP2:=tH (HP1.out.ext hx2)
   have HQ2:=tH (HQ1.out.ext hx2)
   have HL2:=tH (HL1.out.ext hx2)
   have HU2:=tH (HU1.out.ext hx2)
   have HS2:=tH (HS1.out.ext (rc_stable _) hx2)
   clear hs9 hmm hM0 hW hx2
   iterate 3 clear hM9 hc9
   iterate 3 clear w9
   clear HX1 HP1 HQ1 HL1 HU1 HS1 p0 p1 p2 po l0 l1 lo ho hc0 hc1
   have HX1:=HX2
   have HP1:=HP2
   have HQ1:=HQ2
   have HL1:=HL2
   have HU1:=HU2
   have HS1:=HS2
   clear HX2 HP2 HQ2 HL2 HU2 HS2
   generalize W2=W1 at HX1 HP1 HQ1 HL1 HU1 HS1 ⊢
   obtain⟨ho,hc0⟩:=str_at HS1.out (i:=0) (by simp)
   obtain⟨-,hc1⟩:=str_at HS1.out (i:=1) (by simp)
   obtain⟨-,hc2⟩:=str_at HS1.out (i:=2) (by simp)
   simp only[List.getElem_cons_zero,List.getElem_cons_succ,Nat.add_zero] at hc0 hc1 hc2
   have p0:W1.cell? ⟨w.heap.size,0,none⟩=some (.slice ca p.clear.length cc):=HP1.out.cell 0
   have p1:W1.cell? ⟨w.heap.size,1,none⟩=some (.slice ja p.jobs.length jc):=HP1.out.cell 1
   have p2:W1.cell? ⟨w.heap.size,2,none⟩=some (.int .i64 p.now):=HP1.out.cell 2
   have po:=HP1.out.old
   have l0:W1.cell? ⟨b6,0,none⟩=some (.int .i64 x.lv):=HL1.out.cell 0
   have l1:W1.cell? ⟨b6,1,none⟩=some (.int .i64 x.st):=HL1.out.cell 1
   have lo:=HL1.out.old
   obtain⟨c,hsub,hc⟩:=chR_nat (p:=p) (x:=x) (id:=n2) (s:=s9)
   have HPF:=tH (chR_okD p x n2 s9)
   have HS8:=tH hs8
   clear hs8
   generalize hY:chR p x n2 s9=Y at hsub HPF
   have HY:=tH hY
   clear hY
   obtain⟨q,y2⟩:=Y
   simp only at hsub
   subst hsub
   have HTX:=tH (show dl ⟨#[111,107]⟩=okT from rfl)
   (refine wp_region_y 8 [(fun u _=>u=(.agg #[.slice ca p.clear.length cc,.slice ja p.jobs.length jc,(.int .i64 p.now)])),(fun u _=>u=(.agg #[(.int .i64 x.lv),(.int .i64 x.st)])),(fun u _=>u=(.slice (some ⟨bW,oW,none⟩) 3 xc)),(fun u _=>u=(.pointer (some ⟨bW,oW+2,none⟩))),(fun u _=>u=(.string x2)),(fun u _=>u=((.int .i64 n2))),(fun u _=>u=((.int .i64 s9))),kOutO 0 q 0 (c:Int)] (by kernel_rfl) (by kernel_rfl) (by kernel_rfl) rfl ?_ (by (repeat' (first | exact trivial | exact XReg.GoodK.same _ default | refine And.intro ?_ ?_));all_goals (first | exact kOutO_good HPF.out)))
   refine YReg.va (.agg #[.slice ca p.clear.length cc,.slice ja p.jobs.length jc,(.int .i64 p.now)]) ?_
   refine YReg.va (.agg #[(.int .i64 x.lv),(.int .i64 x.st)]) ?_
   refine YReg.va (.slice (some ⟨bW,oW,none⟩) 3 xc) ?_
   refine YReg.va (.pointer (some ⟨bW,oW+2,none⟩)) ?_
   refine YReg.va (.string x2) ?_
   (apply YReg.val ((.int .i64 n2));(case h=>(intro w' hw' hF';obtain⟨X',rfl⟩:=hw';have HF':=tH hF';clear hF';go_wp2_with ((go_at_call 44;refine(number_any x2 _ (by omega) (by rw[Hn2.out];exact Hn2P.out) (HL.out.ext (HX1.out.trans xE))).mono ?_;rintro e _ ⟨rfl,Y9,rfl⟩;rw[Hn2.out]));exact⟨rfl,xE⟩));(case hv=>kernel_rfl))
   refine YReg.va ((.int .i64 s9)) ?_
   refine YReg.kind (fun w' hw' hF'=>?_) (fun v w1 hK=>?_)
   ·obtain⟨X',rfl⟩:=hw'
    clear hF'
    go_wp2_with fail
    refine(implChange_any p (p.val (.slice ca p.clear.length cc) (.slice ja p.jobs.length jc)) x n2 s9 _ (HE.out.ext (HX1.out.trans xE)) (right_fits HR.out)).mono ?_
    rintro e _ ⟨cv,jv,fc9,fj9,rfl,⟨X2,rfl⟩,hO9⟩
    rw[HY.out] at hO9 ⊢
    go_wp2
    exact⟨xE,kOutO_in (hO9.mono (Nat.zero_le _))⟩
   clear hc2
   obtain⟨qa,qe,qb,qd,-,-,rfl,-⟩:=hK
   clear w1
   refine YReg.done (fun X9 hF=>?_)
   obtain⟨gc,gj,hO9⟩:=kOutO_out (hF 7 (kOutO 0 q (0:Int) (c:Int),poV q (0:Int) (c:Int) (.slice qa q.clear.length qe) (.slice qb q.jobs.length qd)) (by kernel_rfl))
   have HO9:=tH hO9
   have HP9:=tH (HP1.out.ext ((Ext.refl W1).plus X9))
   have HQ9:=tH (HQ1.out.ext ((Ext.refl W1).plus X9))
   have HU9:=tH (HU1.out.ext ((Ext.refl W1).plus X9))
   have HX9:=tH (HX1.out.trans ((Ext.refl W1).plus X9))
   clear hF hO9 HP1 HQ1 HU1 HX1 HL1 HS1 p0 p1 p2 po l0 l1 lo ho hc0 hc1
   generalize W1.plus X9=W9 at HO9 HP9 HQ9 HU9 HX9 ⊢
   simp only[List.drop_succ_cons,List.drop_zero]
   unfold poV
   have u0:W9.cell? ⟨b6+1,0,none⟩=some (.slice none 0 0):=HU9.out.cell 0
   have u1:W9.cell? ⟨b6+1,1,none⟩=some (.slice none 0 0):=HU9.out.cell 1
   have u2:W9.cell? ⟨b6+1,2,none⟩=some (.int .i64 0):=HU9.out.cell 2
   have u3:W9.cell? ⟨b6+1,3,none⟩=some (.int .i64 0):=HU9.out.cell 3
   have u4:W9.cell? ⟨b6+1,4,none⟩=some (.int .i64 0):=HU9.out.cell 4
   have uo:=HU9.out.old
   have uf:=HU9.out.fz
   go_upto_region 16 with fail
   refine gen_world (fun W5 hW=>?_)
   have hC:Chg [b6+1] W9 W5:=by rw[hW];exact set5_chgI _ _ _ _ _ _ _
   have HB5:=tH (show Blk W5 (b6+1) [.slice qa q.clear.length qe,.slice qb q.jobs.length qd,(.int .i64 q.now),(.int .i64 (0:Int)),(.int .i64 (c:Int))] 43 by rw[hW];exact((((HU9.out.set 0 _).set 1 _).set 2 _).set 3 _).set 4 _)
   have HO5:=tH (HO9.out.far hC (ownP_boxM HO9.out HU9.out (by decide) (by decide)))
   have HP5:=tH (HP9.out.chg hC (by simp;omega))
   have HQ5:=tH (HQ9.out.chg hC (by simp;omega))
   have HX5:=tH (hC.ext HX9.out (by simp;omega))
   clear hW hC u0 u1 u2 u3 u4 uo uf HP9 HQ9 HU9 HX9 HO9
   have HLW5:=tH (HL.out.ext HX5.out)
   have u4:W5.cell? ⟨b6+1,4,none⟩=some (.int .i64 (c:Int)):=HB5.out.cell 4
   have uo:=HB5.out.old
   by_cases hc9:c=0
   ·subst hc9
    have u0:W5.cell? ⟨b6+1,0,none⟩=some (.slice qa q.clear.length qe):=HB5.out.cell 0
    have u1:W5.cell? ⟨b6+1,1,none⟩=some (.slice qb q.jobs.length qd):=HB5.out.cell 1
    have u2:W5.cell? ⟨b6+1,2,none⟩=some (.int .i64 q.now):=HB5.out.cell 2
    have z0:W5.cell? ⟨w.heap.size+1,0,none⟩=some (.slice none 0 0):=HQ5.out.cell 0
    have z1:W5.cell? ⟨w.heap.size+1,1,none⟩=some (.slice none 0 0):=HQ5.out.cell 1
    have z2:W5.cell? ⟨w.heap.size+1,2,none⟩=some (.int .i64 0):=HQ5.out.cell 2
    have zo:=HQ5.out.old
    have zf:=HQ5.out.fz
    go_wp2
    refine gen_post (fun W9 hW=>?_)
    have hC:Chg [w.heap.size+1] W5 W9:=by rw[hW];exact set3_chgI _ _ _ _ _
    have HB9:=tH (show Blk W9 (w.heap.size+1) [.slice qa q.clear.length qe,.slice qb q.jobs.length qd,(.int .i64 q.now)] 41 by rw[hW];exact((HQ5.out.set 0 _).set 1 _).set 2 _)
    have HO9:=tH (HO5.out.far hC (ownP_boxM HO5.out HQ5.out (by decide) (by decide)))
    have HX9:=tH (hC.ext HX5.out (by simp))
    have y0:W9.cell? ⟨w.heap.size+1,0,none⟩=some (.slice qa q.clear.length qe):=HB9.out.cell 0
    have y1:W9.cell? ⟨w.heap.size+1,1,none⟩=some (.slice qb q.jobs.length qd):=HB9.out.cell 1
    have y2:W9.cell? ⟨w.heap.size+1,2,none⟩=some (.int .i64 q.now):=HB9.out.cell 2
    refine bodyPost_ret (v:=.tuple #[.agg #[.slice qa q.clear.length qe,.slice qb q.jobs.length qd,(.int .i64 q.now)],.string ⟨#[111,107]⟩]) (by simp[results,Tryz.results23,go_sem,y0,y1,y2]) rfl ?_
    rw[HXL.out,← HS8.out,HY.out]
    rw[show resT p (q,(0:Int),((0:Nat):Int)) okT=(q,okT) from if_pos rfl]
    exact⟨_,_,_,_,_,rfl,HTX.out,HX9.out,HO9.out⟩
   ·have hcb:((c:Int) != 0)=true:=by simp;omega
    have hcn:(c != 0)=true:=by simp;omega
    obtain⟨zE,hzE⟩:∃ z,(⟨(Lib.itoa (c:Int)).toArray⟩:ByteArray)=z:=⟨_,rfl⟩
    have HZE:=tH hzE
    have hzs:zE.size≤7:=by rw[← hzE,size_list];exact itoa_len6 (by omega) (by omega)
    have HDE:=tH (show dl ((⟨#[101,114,114,111,114,32]⟩:ByteArray)++zE)=errT (c:Int) by
     rw[← hzE]
     unfold errT dl
     rw[ByteArray.data_append,Array.toList_append])
    clear hzE
    have p0:W5.cell? ⟨w.heap.size,0,none⟩=some (.slice ca p.clear.length cc):=HP5.out.cell 0
    have p1:W5.cell? ⟨w.heap.size,1,none⟩=some (.slice ja p.jobs.length jc):=HP5.out.cell 1
    have p2:W5.cell? ⟨w.heap.size,2,none⟩=some (.int .i64 p.now):=HP5.out.cell 2
    have hn1:w.heap.size≠w.heap.size+1:=by omega
    have hn2:b6+1≠w.heap.size+1:=by omega
    go_upto_region 17 with fail
    refine wp_region_i 7 (StI W5 (w.heap.size+1) [.slice none 0 0,.slice none 0 0,(.int .i64 0)] [.slice ca p.clear.length cc,.slice ja p.jobs.length jc,(.int .i64 p.now)] 41 5 [some (.agg #[.slice ca p.clear.length cc,.slice ja p.jobs.length jc,(.int .i64 p.now)]),some (.pointer (some ⟨b6+1,4,none⟩)),some (.int .i64 (c:Int)),some (.string zE),some (.string (⟨#[101,114,114,111,114,32]⟩++zE)),none,some (.string (⟨#[101,114,114,111,114,32]⟩++zE))]) (by kernel_rfl) (by kernel_rfl) (by kernel_rfl) (fun vs=>?_) (fun vs=>StI.start (Ext.refl _).drew HQ5.out)
    refine IReg.step 1 rfl (fun L w' hI hL hj=>?_) ?_
    ·(obtain⟨q0,qo⟩:=hI.cell p0 hn1;obtain⟨q1,-⟩:=hI.cell p1 hn1;obtain⟨q2,-⟩:=hI.cell p2 hn1)
     have HI:=tH hI
     clear hI hL hj
     go_wp2
     exact HI.out.put (n:=0) (by decide) (fun u hu=>some_eq9 hu) xE
    (conv in (Act.put _ _ _)=>simp only[Act.put,List.setIfInBounds_toArray,List.set_cons_succ,List.set_cons_zero])
    refine IReg.step 2 rfl (fun L w' hI hL hj=>?_) ?_
    ·(obtain⟨q0,qo⟩:=hI.cell u4 hn2)
     have HI:=tH hI
     clear hI hL hj
     go_wp2
     exact HI.out.put (n:=1) (by decide) (fun u hu=>some_eq9 hu) xE
    (conv in (Act.put _ _ _)=>simp only[Act.put,List.setIfInBounds_toArray,List.set_cons_succ,List.set_cons_zero])
    refine IReg.step 3 rfl (fun L w' hI hL hj=>?_) ?_
    ·((rw[show vs 1=_ from hI.k 1 _ rfl (hj 1 (by decide) (by kernel_rfl))]);obtain⟨q0,qo⟩:=hI.cell u4 hn2)
     have HI:=tH hI
     clear hI hL hj
     go_wp2
     exact HI.out.put (n:=2) (by decide) (fun u hu=>some_eq9 hu) xE
    (conv in (Act.put _ _ _)=>simp only[Act.put,List.setIfInBounds_toArray,List.set_cons_succ,List.set_cons_zero])
    refine IReg.step 4 rfl (fun L w' hI hL hj=>?_) ?_
    ·skip
     (rw[show vs 2=_ from hI.k 2 _ rfl (hj 2 (by decide) (by kernel_rfl))])
     have HXw:=tH (hI.c.ext HX5.out (by simp))
     have HI:=tH hI
     clear hI hL hj
     go_wp2_with fail
     refine(decimal_any (c:Int) _ (by omega) (by omega) (HL.out.ext HXw.out)).mono ?_
     rintro e _ ⟨rfl,X,rfl⟩
     rw[HZE.out]
     go_wp2
     exact HI.out.put (n:=3) (by decide) (fun u hu=>some_eq9 hu) xE
    (conv in (Act.put _ _ _)=>simp only[Act.put,List.setIfInBounds_toArray,List.set_cons_succ,List.set_cons_zero])
    refine IReg.step 5 rfl (fun L w' hI hL hj=>?_) ?_
    ·(rw[show vs 3=_ from hI.k 3 _ rfl (hj 3 (by decide) (by kernel_rfl))])
     have HI:=tH hI
     clear hI hL hj
     go_wp2
     exact HI.out.put (n:=4) (by decide) (fun u hu=>some_eq9 hu) xE
    (conv in (Act.put _ _ _)=>simp only[Act.put,List.setIfInBounds_toArray,List.set_cons_succ,List.set_cons_zero])
    refine IReg.step 6 rfl (fun L w' hI hL hj=>?_) ?_
    ·skip
     (rw[show vs 0=_ from hI.k 0 _ rfl (hj 0 (by decide) (by kernel_rfl))])
     have hB:=hI.x0 hL
     have z0:w'.cell? ⟨w.heap.size+1,0,none⟩=some (.slice none 0 0):=hB.cell 0
     have z1:w'.cell? ⟨w.heap.size+1,1,none⟩=some (.slice none 0 0):=hB.cell 1
     have z2:w'.cell? ⟨w.heap.size+1,2,none⟩=some (.int .i64 0):=hB.cell 2
     have zo:=hB.old
     have zf:=hB.fz
     have HB9:=tH hB
     have HI:=tH hI
     clear hI hL hj hB
     go_wp2
     exact⟨undef,HI.out.st (fun u hu=>by cases hu) (set3_chgI _ _ _ _ _) (((HB9.out.set 0 (.slice ca p.clear.length cc)).set 1 (.slice ja p.jobs.length jc)).set 2 (.int .i64 p.now))⟩
    (conv in (Act.put _ _ _)=>simp only[Act.put,List.setIfInBounds_toArray,List.set_cons_succ,List.set_cons_zero])
    refine IReg.step 7 rfl (fun L w' hI hL hj=>?_) ?_
    ·(rw[show vs 4=_ from hI.k 4 _ rfl (hj 4 (by decide) (by kernel_rfl))])
     have HI:=tH hI
     clear hI hL hj
     go_wp2
     exact HI.out.put (n:=6) (by decide) (fun u hu=>some_eq9 hu) xE
    (conv in (Act.put _ _ _)=>simp only[Act.put,List.setIfInBounds_toArray,List.set_cons_succ,List.set_cons_zero])
    refine IReg.done (fun L w9 hL hI=>?_)
    simp only[List.drop_succ_cons,List.drop_zero]
    rw[show vs 6=.string (⟨#[101,114,114,111,114,32]⟩++zE) from hI.k 6 _ rfl (hL 6 (by decide))]
    have HB9:=tH (hI.x1 (hL 5 (by decide)))
    have HX9:=tH (hI.c.ext HX5.out (by simp))
    clear hI hL p0 p1 p2 u4 uo
    have y0:w9.cell? ⟨w.heap.size+1,0,none⟩=some (.slice ca p.clear.length cc):=HB9.out.cell 0
    have y1:w9.cell? ⟨w.heap.size+1,1,none⟩=some (.slice ja p.jobs.length jc):=HB9.out.cell 1
    have y2:w9.cell? ⟨w.heap.size+1,2,none⟩=some (.int .i64 p.now):=HB9.out.cell 2
    go_wp2
    refine bodyPost_ret (v:=.tuple #[.agg #[.slice ca p.clear.length cc,.slice ja p.jobs.length jc,(.int .i64 p.now)],.string (⟨#[101,114,114,111,114,32]⟩++zE)]) (by simp[results,Tryz.results23,go_sem,y0,y1,y2]) rfl ?_
    rw[HXL.out,← HS8.out,HY.out]
    rw[show resT p (q,(0:Int),(c:Int)) okT=(p,errT (c:Int)) from if_neg (by show ¬ (c:Int)=0;omega)]
    exact⟨_,_,fc,fj,_,rfl,HDE.out,HX9.out,HO.out.ext HX9.out⟩
set_option maxHeartbeats 1600000 in
theorem desk_tick (n:Nat) (p:Pl) (ca:Option Addr) (cc:Nat) (ja:Option Addr) (jc:Nat) (fc fj:List Nat) (x1:ByteArray) (xa:Option Addr) (xc:Nat) (w:World) (hO:OwnP 0 w fc fj (.slice ca p.clear.length cc) (.slice ja p.jobs.length jc) p) (hR:poolR p=true) (hz:x1.size≤8000) (hS:SlR w 1 (rc sCell) (.slice xa 2 xc) [⟨kTick.toArray⟩,x1]) (hL:LibW w) (hw1:numW (dl x1)=(n:Int)) (hp:p.now+n≤100000) :
  Calls Tryz.prog 23 #[.agg #[.slice ca p.clear.length cc,.slice ja p.jobs.length jc,(.int .i64 p.now)],.slice xa 2 xc] w (DkRes (tickN n p) (nowT (tickN n p)) w):=by
 have HN1:=tH hw1
 have HNP:=tH hp
 clear hw1 hp
 have HR:=tH hR
 have HO:=tH hO
 have HS:=tH hS
 have HL:=tH hL
 have HE:=tH (hO.e' (right_ok hR).1)
 clear hO hR hS hL
 obtain⟨bW,oW,rfl⟩:=slr_some HS.out (i:=0) (by exact Nat.succ_pos _)
 obtain⟨ho,hc0⟩:=str_at HS.out (i:=0) (by exact Nat.succ_pos _)
 obtain⟨-,hc1⟩:=str_at HS.out (i:=1) (by exact Nat.succ_lt_succ (Nat.succ_pos _))
 simp only[List.getElem_cons_zero,List.getElem_cons_succ,Nat.add_zero] at hc0 hc1
 unfold kTick at hc0
 have hfl:∀ (a b c:Value) w,(Instr.field 71 (.agg #[a,b,c]) 0).run Tryz.prog w=.ok (.agg #[a,b]) w:=fun a b c w=>by kernel_rfl
 go_enter Tryz.func23,Tryz.ntmps23
 go_wp2_with fail
 refine(implLabelRead_any x1 _ (by omega)).mono ?_
 rintro e _ ⟨rfl,X1,rfl⟩
 rw[← rdB_dl]
 obtain⟨x,hx⟩:∃ x,(rdB (dl x1)).1=x:=⟨_,rfl⟩
 rw[hx]
 have HXL:=tH hx
 have hxok:x.ok:=by rw[← hx];exact rdB_ok _
 clear hx
 go_upto_region 6 with fail
 refine gen_world (fun W1 hW=>?_)
 have HX1:=tH (show Ext w W1 by rw[hW];exact xE)
 have HP1:=tH (show Blk W1 w.heap.size [.slice ca p.clear.length cc,.slice ja p.jobs.length jc,(.int .i64 p.now)] 41 by rw[hW];exact(Blk.new (w:=w) (cs:=#[.slice ca p.clear.length cc,.slice ja p.jobs.length jc,(.int .i64 p.now)]) rfl).ext xE)
 have HQ1:=tH (show Blk W1 (w.heap.size+1) [.slice none 0 0,.slice none 0 0,(.int .i64 0)] 41 by rw[hW];exact(Blk.new (w:=w.alloc (.cells #[.slice ca p.clear.length cc,.slice ja p.jobs.length jc,(.int .i64 p.now)] 41)) (cs:=#[.slice none 0 0,.slice none 0 0,(.int .i64 0)]) (by simp)).ext xE)
 have HL1:=tH (show Blk W1 (w.heap.size+1+1+X1.n) [(.int .i64 x.lv),(.int .i64 x.st)] 36 by rw[hW];exact(Blk.new (w:=(((w.alloc (.cells #[.slice ca p.clear.length cc,.slice ja p.jobs.length jc,(.int .i64 p.now)] 41)).alloc (.cells #[.slice none 0 0,.slice none 0 0,(.int .i64 0)] 41)).plus X1)) (cs:=#[(.int .i64 x.lv),(.int .i64 x.st)]) (by simp)).ext xE)
 have HU1:=tH (show Blk W1 (w.heap.size+1+1+X1.n+1) [.slice none 0 0,.slice none 0 0,(.int .i64 0),(.int .i64 0),(.int .i64 0)] 43 by rw[hW];exact Blk.new (cs:=#[.slice none 0 0,.slice none 0 0,(.int .i64 0),(.int .i64 0),(.int .i64 0)]) (by simp))
 clear hW hc0 hc1 ho
 have HS1:=tH (HS.out.ext (rc_stable _) HX1.out)
 clear HS
 generalize hb6:w.heap.size+1+1+X1.n=b6 at HL1 HU1 ⊢
 obtain⟨ho,hc0⟩:=str_at HS1.out (i:=0) (by exact Nat.succ_pos _)
 obtain⟨-,hc1⟩:=str_at HS1.out (i:=1) (by exact Nat.succ_lt_succ (Nat.succ_pos _))
 simp only[List.getElem_cons_zero,List.getElem_cons_succ,Nat.add_zero] at hc0 hc1
 unfold kTick at hc0
 have p0:W1.cell? ⟨w.heap.size,0,none⟩=some (.slice ca p.clear.length cc):=HP1.out.cell 0
 have p1:W1.cell? ⟨w.heap.size,1,none⟩=some (.slice ja p.jobs.length jc):=HP1.out.cell 1
 have p2:W1.cell? ⟨w.heap.size,2,none⟩=some (.int .i64 p.now):=HP1.out.cell 2
 have po:=HP1.out.old
 have l0:W1.cell? ⟨b6,0,none⟩=some (.int .i64 x.lv):=HL1.out.cell 0
 have l1:W1.cell? ⟨b6,1,none⟩=some (.int .i64 x.st):=HL1.out.cell 1
 have lo:=HL1.out.old
 obtain⟨r9,n9⟩:=tickN_now (n:=n) HR.out (by have:=HNP.out;omega)
 have HR9:=tH r9
 have HN9:=tH (show 0≤(tickN n p).now∧(tickN n p).now≤900000 from ⟨by have:=(poolR_of HR.out).nw;omega,by have:=HNP.out;omega⟩)
 obtain⟨q,hq⟩:∃ q,tickN n p=q:=⟨_,rfl⟩
 rw[hq] at HR9 HN9
 have HQ:=tH hq
 have HPF:=tH (right_ok HR9.out).2.1
 clear hq r9 n9
 go_upto_region 14 with fail
 (refine wp_region_y 6 [(fun u _=>u=(.agg #[.slice ca p.clear.length cc,.slice ja p.jobs.length jc,(.int .i64 p.now)])),(fun u _=>u=(.slice (some ⟨bW,oW,none⟩) 2 xc)),(fun u _=>u=(.pointer (some ⟨bW,oW+1,none⟩))),(fun u _=>u=(.string x1)),(fun u _=>u=((.int .i64 (n:Int)))),kOutO 0 q 0 0] (by kernel_rfl) (by kernel_rfl) (by kernel_rfl) rfl ?_ (by (repeat' (first | exact trivial | exact XReg.GoodK.same _ default | refine And.intro ?_ ?_));all_goals (first | exact kOutO_good HPF.out)))
 refine YReg.va (.agg #[.slice ca p.clear.length cc,.slice ja p.jobs.length jc,(.int .i64 p.now)]) ?_
 refine YReg.va (.slice (some ⟨bW,oW,none⟩) 2 xc) ?_
 refine YReg.va (.pointer (some ⟨bW,oW+1,none⟩)) ?_
 refine YReg.va (.string x1) ?_
 (apply YReg.val ((.int .i64 (n:Int)));(case h=>(intro w' hw' hF';obtain⟨X',rfl⟩:=hw';have HF':=tH hF';clear hF';go_wp2_with ((go_at_call 44;refine(number_any x1 _ (by omega) (by rw[HN1.out];omega) (HL.out.ext (HX1.out.trans xE))).mono ?_;rintro e _ ⟨rfl,Y9,rfl⟩;rw[HN1.out]));exact⟨rfl,xE⟩));(case hv=>kernel_rfl))
 refine YReg.kind (fun w' hw' hF'=>?_) (fun v w1 hK=>?_)
 ·obtain⟨X',rfl⟩:=hw'
  clear hF'
  go_wp2_with fail
  refine(tick_any p n ca cc ja jc fc fj _ (HO.out.ext (HX1.out.trans xE)) HR.out HNP.out).mono ?_
  rintro e _ ⟨cv,jv,fc9,fj9,rfl,⟨X2,rfl⟩,hO9⟩
  rw[HQ.out] at hO9 ⊢
  go_wp2
  exact⟨xE,kOutO_in hO9⟩
 obtain⟨qa,qe,qb,qd,-,-,rfl,-⟩:=hK
 clear w1
 refine YReg.done (fun X9 hF=>?_)
 obtain⟨gc,gj,hO9⟩:=kOutO_out (hF 5 (kOutO 0 q (0:Int) (0:Int),poV q (0:Int) (0:Int) (.slice qa q.clear.length qe) (.slice qb q.jobs.length qd)) (by kernel_rfl))
 have HO9:=tH hO9
 have HP9:=tH (HP1.out.ext ((Ext.refl W1).plus X9))
 have HQ9:=tH (HQ1.out.ext ((Ext.refl W1).plus X9))
 have HU9:=tH (HU1.out.ext ((Ext.refl W1).plus X9))
 have HX9:=tH (HX1.out.trans ((Ext.refl W1).plus X9))
 clear hF hO9 HP1 HQ1 HU1 HX1 HL1 HS1 p0 p1 p2 po l0 l1 lo ho hc0 hc1
 generalize W1.plus X9=W9 at HO9 HP9 HQ9 HU9 HX9 ⊢
 simp only[List.drop_succ_cons,List.drop_zero]
 unfold poV
 have u0:W9.cell? ⟨b6+1,0,none⟩=some (.slice none 0 0):=HU9.out.cell 0
 have u1:W9.cell? ⟨b6+1,1,none⟩=some (.slice none 0 0):=HU9.out.cell 1
 have u2:W9.cell? ⟨b6+1,2,none⟩=some (.int .i64 0):=HU9.out.cell 2
 have u3:W9.cell? ⟨b6+1,3,none⟩=some (.int .i64 0):=HU9.out.cell 3
 have u4:W9.cell? ⟨b6+1,4,none⟩=some (.int .i64 0):=HU9.out.cell 4
 have uo:=HU9.out.old
 have uf:=HU9.out.fz
 go_upto_region 15 with fail
 refine gen_world (fun W5 hW=>?_)
 have hC:Chg [b6+1] W9 W5:=by rw[hW];exact set5_chgI _ _ _ _ _ _ _
 have HB5:=tH (show Blk W5 (b6+1) [.slice qa q.clear.length qe,.slice qb q.jobs.length qd,(.int .i64 q.now),(.int .i64 (0:Int)),(.int .i64 (0:Int))] 43 by rw[hW];exact((((HU9.out.set 0 _).set 1 _).set 2 _).set 3 _).set 4 _)
 have HO5:=tH (HO9.out.far hC (ownP_boxM HO9.out HU9.out (by decide) (by decide)))
 have HP5:=tH (HP9.out.chg hC (by simp;omega))
 have HQ5:=tH (HQ9.out.chg hC (by simp;omega))
 have HX5:=tH (hC.ext HX9.out (by simp;omega))
 clear hW hC u0 u1 u2 u3 u4 uo uf HP9 HQ9 HU9 HX9 HO9
 have u2:W5.cell? ⟨b6+1,2,none⟩=some (.int .i64 q.now):=HB5.out.cell 2
 have uo:=HB5.out.old
 have hq0:=HN9.out.1
 have hq9:=HN9.out.2
 go_wp2_with fail
 refine(decimal_any q.now _ (by omega) (by omega) (HL.out.ext HX5.out)).mono ?_
 rintro e _ ⟨rfl,X2,rfl⟩
 obtain⟨zt,hzt⟩:∃ z,(⟨(Lib.itoa q.now).toArray⟩:ByteArray)=z:=⟨_,rfl⟩
 have hzs:zt.size≤7:=by rw[← hzt,size_list];exact itoa_len6 (by omega) (by omega)
 have HTX:=tH (show dl ((⟨#[110,111,119,32]⟩:ByteArray)++zt)=nowT q by
  rw[← hzt]
  unfold nowT dl
  rw[ByteArray.data_append,Array.toList_append])
 rw[hzt]
 clear hzt u2 uo hq0 hq9
 go_upto_region 16 with fail
 refine gen_world (fun W6 hW=>?_)
 have hx6:Ext W5 W6:=by rw[hW];exact xE
 have HB6:=tH (HB5.out.ext hx6)
 have HO6:=tH (HO5.out.ext hx6)
 have HQ6:=tH (HQ5.out.ext hx6)
 have HX6:=tH (HX5.out.trans hx6)
 clear hW hx6 HB5 HO5 HP5 HQ5 HX5
 have HB5:=HB6
 have HO5:=HO6
 have HQ5:=HQ6
 have HX5:=HX6
 clear HB6 HO6 HQ6 HX6
 generalize W6=W5 at HB5 HO5 HQ5 HX5 ⊢
 have u4:W5.cell? ⟨b6+1,4,none⟩=some (.int .i64 0):=HB5.out.cell 4
 have uo:=HB5.out.old
 have u0:W5.cell? ⟨b6+1,0,none⟩=some (.slice qa q.clear.length qe):=HB5.out.cell 0
 have u1:W5.cell? ⟨b6+1,1,none⟩=some (.slice qb q.jobs.length qd):=HB5.out.cell 1
 have u2:W5.cell? ⟨b6+1,2,none⟩=some (.int .i64 q.now):=HB5.out.cell 2
 have z0:W5.cell? ⟨w.heap.size+1,0,none⟩=some (.slice none 0 0):=HQ5.out.cell 0
 have z1:W5.cell? ⟨w.heap.size+1,1,none⟩=some (.slice none 0 0):=HQ5.out.cell 1
 have z2:W5.cell? ⟨w.heap.size+1,2,none⟩=some (.int .i64 0):=HQ5.out.cell 2
 have zo:=HQ5.out.old
 have zf:=HQ5.out.fz
 go_wp2
 refine gen_post (fun W9 hW=>?_)
 have hC:Chg [w.heap.size+1] W5 W9:=by rw[hW];exact set3_chgI _ _ _ _ _
 have HB9:=tH (show Blk W9 (w.heap.size+1) [.slice qa q.clear.length qe,.slice qb q.jobs.length qd,(.int .i64 q.now)] 41 by rw[hW];exact((HQ5.out.set 0 _).set 1 _).set 2 _)
 have HO9:=tH (HO5.out.far hC (ownP_boxM HO5.out HQ5.out (by decide) (by decide)))
 have HX9:=tH (hC.ext HX5.out (by simp))
 have y0:W9.cell? ⟨w.heap.size+1,0,none⟩=some (.slice qa q.clear.length qe):=HB9.out.cell 0
 have y1:W9.cell? ⟨w.heap.size+1,1,none⟩=some (.slice qb q.jobs.length qd):=HB9.out.cell 1
 have y2:W9.cell? ⟨w.heap.size+1,2,none⟩=some (.int .i64 q.now):=HB9.out.cell 2
 refine bodyPost_ret (v:=.tuple #[.agg #[.slice qa q.clear.length qe,.slice qb q.jobs.length qd,(.int .i64 q.now)],.string ((⟨#[110,111,119,32]⟩:ByteArray)++zt)]) (by simp[results,Tryz.results23,go_sem,y0,y1,y2]) rfl ?_
 rw[HQ.out]
 exact⟨_,_,_,_,_,rfl,HTX.out,HX9.out,HO9.out⟩
end Go.Proofs.YtbmbanelodabgaaGreatDoor
