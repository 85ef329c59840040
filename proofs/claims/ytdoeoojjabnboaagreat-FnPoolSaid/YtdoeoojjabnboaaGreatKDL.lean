/- The draw of a label that a pool knows. -/
import Derived.Test.YtdoeoojjabnboaaGreatKJQ
set_option maxRecDepth 100000
set_option linter.unusedVariables false
namespace Go.Proofs.YtdoeoojjabnboaaGreat
open Go.RowKit Go.Fin1
def kPtM (b o K n:Nat):XReg.Kind:=fun v _=>∃ k,k < n∧v=.pointer (some ⟨b,o+k*K,none⟩)
theorem kPtM_good {R:World→World→Prop} {b o K n:Nat} (hn:0 < n):XReg.GoodKL R (kPtM b o K n):=⟨fun _ _ _ _ h=>h,_,default,0,hn,rfl⟩
def kPtR (b o n:Nat):XReg.Kind:=fun v _=>∃ k,k < n∧v=.pointer (some ⟨b,o+k,none⟩)
theorem kPtR_good {R:World→World→Prop} {b o n:Nat} (hn:0 < n):XReg.GoodKL R (kPtR b o n):=⟨fun _ _ _ _ h=>h,_,default,0,hn,rfl⟩
theorem lb9_good {R:World→World→Prop}:XReg.GoodKL R lb9:=⟨fun _ _ _ _ h=>h,_,default,⟨0,0⟩,rfl,by simp[Lab.ok,I64]⟩
theorem cls_at {B:Nat} {w:World} {b off n c:Nat} {ls:List LW} (h:ClsR B w (.slice (some ⟨b,off,none⟩) n c) ls) {i:Nat} (hi:i < ls.length) :
  w.old b∧w.cell? ⟨b,off+i,none⟩=some (LW.nv ls[i]):=by
 obtain⟨cs,_,hc,he⟩:=slr_cells (row_rc (f:=LW.cells) (fun _=>rfl) h.row) hi
 have he':cs=LW.cells ls[i]:=he
 subst he'
 have h2:=hc 0 _ rfl
 exact⟨World.old_of_cell h2,by simpa using h2⟩
set_option maxHeartbeats 3200000 in
theorem srcLabel5_any (g:Nat) (w:World) (cv:Value) (l:List Int) (h:SrcA w g cv l) {B0:Nat} {p:Pl} {ca:Option Addr} {cc:Nat} {ja:Option Addr} {jc:Nat} (hP:PlR B0 w (.slice ca p.clear.length cc) (.slice ja p.jobs.length jc) p) (hg:g < B0) (hB:PlB p) :
  Calls Tryz.prog 43 #[.pointer (some ⟨g,0,none⟩),.agg #[.slice ca p.clear.length cc,.slice ja p.jobs.length jc,(.int .i64 p.now)]] w fun e w'=>∃ x:Lab,e=.returned (.agg #[(.int .i64 x.lv),(.int .i64 x.st)])∧x.ok∧Chg [g] w w'∧SrcA w' g cv l:=by
 have HS:=tH h
 have HG:=tH h.old
 have HGB:=tH hg
 have HPB:=tH hB
 clear h hg hB
 have H2:Hid (I64 2):=tH (by unfold I64;omega)
 have H4:Hid (I64 4):=tH (by unfold I64;omega)
 obtain⟨ls,rs,q1,q2,q3,q4,q5⟩:=hP
 have hll:p.clear.length=ls.length:=by rw[← q3,List.length_map]
 have hrl:p.jobs.length=rs.length:=by rw[← q4,List.length_map]
 have hcm:∀ x∈ls,x.1∈p.clear:=fun x hx=>by rw[← q3];exact List.mem_map_of_mem hx
 have HCO:=tH (show ∀ y∈p.clear,∀ x∈y,x.ok from fun y hy=>by
  rw[← q3] at hy
  obtain⟨z,hz,rfl⟩:=List.mem_map.1 hy
  exact(q1.nd z hz).1)
 have HLL:=tH hll
 have HRL:=tH hrl
 have HCM:=tH hcm
 have Q1:=tH q1
 have Q2:=tH q2
 clear q1 q2 q3 q4 q5 hll hrl hcm
 go_enter Tryz.func43,Tryz.ntmps43
 go_upto_region 1 with fail
 refine gen_world (fun W1 hW=>?_)
 have HC1:=tH (show Chg [g] w W1 by rw[hW];exact Ext.chg xE _)
 have HA1:=tH (show SrcA W1 g cv l by rw[hW];exact HS.out.ext xE)
 have HB1:=tH (show Blk W1 w.heap.size [.slice ca p.clear.length cc,.slice ja p.jobs.length jc,(.int .i64 p.now)] 26 by rw[hW];exact(Blk.new (w:=w) (cs:=#[.slice ca p.clear.length cc,.slice ja p.jobs.length jc,(.int .i64 p.now)]) (ty:=26) rfl).ext xE)
 have HR1:=tH (show Blk W1 (w.heap.size+1) [(.int .i64 0),(.int .i64 0)] 28 by rw[hW];exact Blk.new (by simp))
 have HQ1:=tH (show ClsR B0 W1 _ ls by rw[hW];exact Q1.out.ext xE)
 have HJ1:=tH (show JbsR B0 W1 _ rs by rw[hW];exact Q2.out.ext xE)
 clear hW Q1 Q2
 by_cases hj0:0 < p.jobs.length
 case neg =>
  have hjb:decide ((0:Int) < (p.jobs.length:Int))=false:=decide_eq_false (by omega)
  by_cases hc0:0 < p.clear.length
  case neg =>
   have hcb:decide ((0:Int) < (p.clear.length:Int))=false:=decide_eq_false (by omega)
   have p0:W1.cell? ⟨w.heap.size,0,none⟩=some (.slice ca p.clear.length cc):=HB1.out.cell 0
   have p1:W1.cell? ⟨w.heap.size,1,none⟩=some (.slice ja p.jobs.length jc):=HB1.out.cell 1
   have po:=HB1.out.old
   go_wp2_with fail
   refine(srcLabel_any g _ cv l (HA1.out.ext xE)).mono ?_
   rintro e W5 ⟨x,rfl,hxo,hc,hs⟩
   have HC5:=tH (HC1.out.trans hc)
   have HA5:=tH hs
   have HR5:=tH (HR1.out.chg hc (by have:=HG.out;simp;omega))
   have HXO:=tH hxo
   clear hc hs hxo
   clear p0 p1 po
   have r0:W5.cell? ⟨w.heap.size+1,0,none⟩=some (.int .i64 0):=HR5.out.cell 0
   have r1:W5.cell? ⟨w.heap.size+1,1,none⟩=some (.int .i64 0):=HR5.out.cell 1
   have ro:=HR5.out.old
   have rf:=HR5.out.fz
   go_wp2
   have hC:=set2_chg W5 (w.heap.size+1) (.int .i64 x.lv) (.int .i64 x.st)
   exact bodyPost_ret (v:=.agg #[(.int .i64 x.lv),(.int .i64 x.st)]) (by simp[results,Tryz.results43,go_sem,r0,r1]) rfl ⟨x,rfl,HXO.out,HC5.out.past hC (by simp),HA5.out.chg HS.out hC (by simp)⟩
  have hcb:decide ((0:Int) < (p.clear.length:Int))=true:=decide_eq_true (by omega)
  have p0:W1.cell? ⟨w.heap.size,0,none⟩=some (.slice ca p.clear.length cc):=HB1.out.cell 0
  have p1:W1.cell? ⟨w.heap.size,1,none⟩=some (.slice ja p.jobs.length jc):=HB1.out.cell 1
  have po:=HB1.out.old
  go_wp2_with fail
  refine(srcOne_any g 4 _ cv l HA1.out H4.out).mono ?_
  rintro e W5 ⟨b,rfl,hc,hs⟩
  have HC5:=tH (HC1.out.trans hc)
  have HA5:=tH hs
  have HR5:=tH (HR1.out.chg hc (by have:=HG.out;simp;omega))
  have HB5:=tH (HB1.out.chg hc (by have:=HG.out;simp;omega))
  have HQ5:=tH (HQ1.out.off hc (offP_g HGB.out))
  clear hc hs
  clear p0 p1 po
  cases b
  case true =>
   go_wp2_with fail
   refine(srcLabel_any g _ cv l HA5.out).mono ?_
   rintro e W6 ⟨x,rfl,hxo,hc,hs⟩
   have HC6:=tH (HC5.out.trans hc)
   have HA6:=tH hs
   have HR6:=tH (HR5.out.chg hc (by have:=HG.out;simp;omega))
   have HXO:=tH hxo
   clear hc hs hxo
   have r0:W6.cell? ⟨w.heap.size+1,0,none⟩=some (.int .i64 0):=HR6.out.cell 0
   have r1:W6.cell? ⟨w.heap.size+1,1,none⟩=some (.int .i64 0):=HR6.out.cell 1
   have ro:=HR6.out.old
   have rf:=HR6.out.fz
   go_wp2
   have hC:=set2_chg W6 (w.heap.size+1) (.int .i64 x.lv) (.int .i64 x.st)
   exact bodyPost_ret (v:=.agg #[(.int .i64 x.lv),(.int .i64 x.st)]) (by simp[results,Tryz.results43,go_sem,r0,r1]) rfl ⟨x,rfl,HXO.out,HC6.out.past hC (by simp),HA6.out.chg HS.out hC (by simp)⟩
  obtain⟨bC,oC,hca⟩:=slr_some (row_rc (f:=LW.cells) (fun _=>rfl) HQ5.out.row) (show 0 < ls.length by have:=HLL.out;omega)
  subst hca
  go_upto_region 4 with fail
  have HW0:=tH (HQ5.out.nd _ (List.getElem_mem (show 0 < ls.length by have:=HLL.out;omega))).2
  (refine wp_region_l (R:=SrcR g cv l) (SrcR.trans) 9 [(fun u _=>u=(.pointer (some ⟨w.heap.size,0,none⟩))),(fun u _=>u=(.slice (some ⟨bC,oC,none⟩) p.clear.length cc)),(fun u _=>u=(.pointer (some ⟨g,0,none⟩))),(fun u _=>u=(.pointer (some ⟨w.heap.size,0,none⟩))),(fun u _=>u=(.slice (some ⟨bC,oC,none⟩) p.clear.length cc)),(fun u _=>u=(.int .i64 (p.clear.length:Int))),kLt p.clear.length,kPtR bC oC p.clear.length,kClV B0 p.clear] (by kernel_rfl) (by kernel_rfl) (by kernel_rfl) rfl ?_ (by repeat' (first | exact trivial | exact XReg.GoodKL.same _ _ default | exact kI64_good | exact kLt_good (by decide) | exact kArr_good | exact kPt_good (by decide) | (first | exact kLt_good hc0 | exact kPtR_good hc0 | exact kClV_good (HCM.out _ (List.getElem_mem (show 0 < ls.length by have:=HLL.out;omega))) HW0.out HGB.out) | refine And.intro ?_ ?_)) (SrcR.ext (Ext.refl _).drew))
  (apply LReg.val (.pointer (some ⟨w.heap.size,0,none⟩));(case h=>(intro w' hw' hF';have HW':=tH hw';clear hF' hw';go_wp2_with fail;exact⟨rfl,SrcR.ext xE⟩));(case hv=>kernel_rfl))
  apply LReg.val (.slice (some ⟨bC,oC,none⟩) p.clear.length cc)
  case h =>
   intro w' hw' hF'
   (have hB:=HB5.out.chg hw'.1 (by have:=HG.out;simp;omega);have p0:w'.cell? ⟨w.heap.size,0,none⟩=some (.slice (some ⟨bC,oC,none⟩) p.clear.length cc):=hB.cell 0;have po:=hB.old;clear hB)
   clear hF' hw'
   go_wp2_with fail
   exact⟨rfl,SrcR.ext xE⟩
  case hv=>kernel_rfl
  (apply LReg.val (.pointer (some ⟨g,0,none⟩));(case h=>(intro w' hw' hF';have HW':=tH hw';clear hF' hw';go_wp2_with fail;exact⟨rfl,SrcR.ext xE⟩));(case hv=>kernel_rfl))
  (apply LReg.val (.pointer (some ⟨w.heap.size,0,none⟩));(case h=>(intro w' hw' hF';have HW':=tH hw';clear hF' hw';go_wp2_with fail;exact⟨rfl,SrcR.ext xE⟩));(case hv=>kernel_rfl))
  apply LReg.val (.slice (some ⟨bC,oC,none⟩) p.clear.length cc)
  case h =>
   intro w' hw' hF'
   (have hB:=HB5.out.chg hw'.1 (by have:=HG.out;simp;omega);have p0:w'.cell? ⟨w.heap.size,0,none⟩=some (.slice (some ⟨bC,oC,none⟩) p.clear.length cc):=hB.cell 0;have po:=hB.old;clear hB)
   clear hF' hw'
   go_wp2_with fail
   exact⟨rfl,SrcR.ext xE⟩
  case hv=>kernel_rfl
  (apply LReg.val (.int .i64 (p.clear.length:Int));(case h=>(intro w' hw' hF';have HW':=tH hw';clear hF' hw';go_wp2_with fail;exact⟨rfl,SrcR.ext xE⟩));(case hv=>kernel_rfl))
  refine LReg.kind (fun w' hw' hF'=>?_) (fun v w1 hK=>?_)
  ·have HW':=tH (hw'.2 HA5.out)
   clear hF' hw'
   go_wp2_with fail
   refine(srcN' g (p.clear.length:Int) _ cv l (HW'.out.ext xE) (i64_nat HPB.out.c1 (by decide))).mono ?_
   rintro e w8 ⟨n,rfl,hb,hc,hs⟩
   have HR8:=tH (SrcR.of (w:=w') xE hc hs)
   have hn:n < p.clear.length:=by omega
   clear hc hs hb
   go_wp2
   exact⟨HR8.out,_,rfl,hn⟩
  obtain⟨n6,rfl,hn6⟩:=hK
  clear w1
  refine LReg.kind (fun w' hw' hF'=>?_) (fun v w1 hK=>?_)
  ·clear hw' hF'
   go_wp2
   exact⟨SrcR.ext xE,n6,hn6,rfl⟩
  obtain⟨n7,hn7,rfl⟩:=hK
  clear w1
  refine LReg.kind (fun w' hw' hF'=>?_) (fun v w1 hK=>?_)
  ·have hQ:=HQ5.out.off hw'.1 (offP_g HGB.out)
   have hi:n7 < ls.length:=by have:=HLL.out;omega
   obtain⟨ho,hce⟩:=cls_at hQ hi
   have HY:=tH (And.intro (HCM.out _ (List.getElem_mem hi)) (hQ.nd _ (List.getElem_mem hi)).2)
   unfold LW.nv at hce HY
   generalize ls[n7]=r at hce HY
   obtain⟨r,ya,yc⟩:=r
   clear hw' hF' hQ hi
   go_wp2
   exact⟨SrcR.ext xE,ya,yc,r,HY.out.1,rfl,HY.out.2⟩
  obtain⟨ra,rc9,r,hr,rfl,-⟩:=hK
  clear w1
  refine LReg.done (fun w9 hw9 hF=>?_)
  obtain⟨ra',rc',q',hq',hv',hrw⟩:=hF 8 (kClV B0 p.clear,.slice ra r.length rc9) (by kernel_rfl)
  obtain⟨rfl,hql,rfl⟩:ra=ra'∧r.length=q'.length∧rc9=rc':=by simpa using hv'
  rw[hql] at hrw ⊢
  have HRW:=tH hrw
  have HC9:=tH (HC5.out.trans hw9.1)
  have HA9:=tH (hw9.2 HA5.out)
  have HR9:=tH (HR5.out.chg hw9.1 (by have:=HG.out;simp;omega))
  have HQB:=tH (show (1≤q'.length∧q'.length≤8)∧∀ x∈q',x.ok from ⟨HPB.out.c2 _ hq',HCO.out _ hq'⟩)
  clear hF hw9 hrw hql hv' hr hq' r HC5 HA5 HR5 HB5 HQ5 HW0
  have hq8:q'.length≤8:=HQB.out.1.2
  go_wp2_with fail
  refine(srcN' g (q'.length:Int) _ cv l HA9.out (i64_nat HQB.out.1.2 (by decide))).mono ?_
  rintro e W11 ⟨n8,rfl,hb,hc,hs⟩
  have hn8:n8 < q'.length:=by have:=HQB.out.1.1;omega
  have HC11:=tH (HC9.out.trans hc)
  have HA11:=tH hs
  have HR11:=tH (HR9.out.chg hc (by have:=HG.out;simp;omega))
  have HW11:=tH (HRW.out.chg hc (fun b hb=>by have:=(HRW.out.blk b hb).1;have:=HGB.out;simp;omega))
  clear hc hs hb HC9 HA9 HR9 HRW
  obtain⟨bR,oR,rfl⟩:=slr_some (row_lab9 HW11.out) hn8
  obtain⟨ho,g0,g1⟩:=labs_at9 (row_lab9 HW11.out) hn8
  have HXO:=tH (HQB.out.2 _ (List.getElem_mem hn8))
  generalize q'[n8]=x at g0 g1 HXO
  have r0:W11.cell? ⟨w.heap.size+1,0,none⟩=some (.int .i64 0):=HR11.out.cell 0
  have r1:W11.cell? ⟨w.heap.size+1,1,none⟩=some (.int .i64 0):=HR11.out.cell 1
  have ro:=HR11.out.old
  have rf:=HR11.out.fz
  go_wp2
  have hC:=set2_chg W11 (w.heap.size+1) (.int .i64 x.lv) (.int .i64 x.st)
  exact bodyPost_ret (v:=.agg #[(.int .i64 x.lv),(.int .i64 x.st)]) (by simp[results,Tryz.results43,go_sem,r0,r1]) rfl ⟨x,rfl,HXO.out,HC11.out.past hC (by simp),HA11.out.chg HS.out hC (by simp)⟩
 have hjb:decide ((0:Int) < (p.jobs.length:Int))=true:=decide_eq_true (by omega)
 have p0:W1.cell? ⟨w.heap.size,0,none⟩=some (.slice ca p.clear.length cc):=HB1.out.cell 0
 have p1:W1.cell? ⟨w.heap.size,1,none⟩=some (.slice ja p.jobs.length jc):=HB1.out.cell 1
 have po:=HB1.out.old
 go_wp2_with fail
 refine(srcOne_any g 2 _ cv l HA1.out H2.out).mono ?_
 rintro e W2 ⟨b,rfl,hc,hs⟩
 have HC2:=tH (HC1.out.trans hc)
 have HA2:=tH hs
 have HR2:=tH (HR1.out.chg hc (by have:=HG.out;simp;omega))
 have HB2:=tH (HB1.out.chg hc (by have:=HG.out;simp;omega))
 have HQ2:=tH (HQ1.out.off hc (offP_g HGB.out))
 have HJ2:=tH (HJ1.out.off hc (offP_g HGB.out))
 clear hc hs HC1 HA1 HR1 HB1 HQ1 HJ1
 clear p0 p1 po
 cases b
 case false =>
  by_cases hc0:0 < p.clear.length
  case neg =>
   have hcb:decide ((0:Int) < (p.clear.length:Int))=false:=decide_eq_false (by omega)
   have p0:W2.cell? ⟨w.heap.size,0,none⟩=some (.slice ca p.clear.length cc):=HB2.out.cell 0
   have p1:W2.cell? ⟨w.heap.size,1,none⟩=some (.slice ja p.jobs.length jc):=HB2.out.cell 1
   have po:=HB2.out.old
   go_wp2_with fail
   refine(srcLabel_any g _ cv l (HA2.out.ext xE)).mono ?_
   rintro e W5 ⟨x,rfl,hxo,hc,hs⟩
   have HC5:=tH (HC2.out.trans hc)
   have HA5:=tH hs
   have HR5:=tH (HR2.out.chg hc (by have:=HG.out;simp;omega))
   have HXO:=tH hxo
   clear hc hs hxo
   clear p0 p1 po
   have r0:W5.cell? ⟨w.heap.size+1,0,none⟩=some (.int .i64 0):=HR5.out.cell 0
   have r1:W5.cell? ⟨w.heap.size+1,1,none⟩=some (.int .i64 0):=HR5.out.cell 1
   have ro:=HR5.out.old
   have rf:=HR5.out.fz
   go_wp2
   have hC:=set2_chg W5 (w.heap.size+1) (.int .i64 x.lv) (.int .i64 x.st)
   exact bodyPost_ret (v:=.agg #[(.int .i64 x.lv),(.int .i64 x.st)]) (by simp[results,Tryz.results43,go_sem,r0,r1]) rfl ⟨x,rfl,HXO.out,HC5.out.past hC (by simp),HA5.out.chg HS.out hC (by simp)⟩
  have hcb:decide ((0:Int) < (p.clear.length:Int))=true:=decide_eq_true (by omega)
  have p0:W2.cell? ⟨w.heap.size,0,none⟩=some (.slice ca p.clear.length cc):=HB2.out.cell 0
  have p1:W2.cell? ⟨w.heap.size,1,none⟩=some (.slice ja p.jobs.length jc):=HB2.out.cell 1
  have po:=HB2.out.old
  go_wp2_with fail
  refine(srcOne_any g 4 _ cv l HA2.out H4.out).mono ?_
  rintro e W5 ⟨b,rfl,hc,hs⟩
  have HC5:=tH (HC2.out.trans hc)
  have HA5:=tH hs
  have HR5:=tH (HR2.out.chg hc (by have:=HG.out;simp;omega))
  have HB5:=tH (HB2.out.chg hc (by have:=HG.out;simp;omega))
  have HQ5:=tH (HQ2.out.off hc (offP_g HGB.out))
  clear hc hs
  clear p0 p1 po
  cases b
  case true =>
   go_wp2_with fail
   refine(srcLabel_any g _ cv l HA5.out).mono ?_
   rintro e W6 ⟨x,rfl,hxo,hc,hs⟩
   have HC6:=tH (HC5.out.trans hc)
   have HA6:=tH hs
   have HR6:=tH (HR5.out.chg hc (by have:=HG.out;simp;omega))
   have HXO:=tH hxo
   clear hc hs hxo
   have r0:W6.cell? ⟨w.heap.size+1,0,none⟩=some (.int .i64 0):=HR6.out.cell 0
   have r1:W6.cell? ⟨w.heap.size+1,1,none⟩=some (.int .i64 0):=HR6.out.cell 1
   have ro:=HR6.out.old
   have rf:=HR6.out.fz
   go_wp2
   have hC:=set2_chg W6 (w.heap.size+1) (.int .i64 x.lv) (.int .i64 x.st)
   exact bodyPost_ret (v:=.agg #[(.int .i64 x.lv),(.int .i64 x.st)]) (by simp[results,Tryz.results43,go_sem,r0,r1]) rfl ⟨x,rfl,HXO.out,HC6.out.past hC (by simp),HA6.out.chg HS.out hC (by simp)⟩
  obtain⟨bC,oC,hca⟩:=slr_some (row_rc (f:=LW.cells) (fun _=>rfl) HQ5.out.row) (show 0 < ls.length by have:=HLL.out;omega)
  subst hca
  go_upto_region 4 with fail
  have HW0:=tH (HQ5.out.nd _ (List.getElem_mem (show 0 < ls.length by have:=HLL.out;omega))).2
  (refine wp_region_l (R:=SrcR g cv l) (SrcR.trans) 9 [(fun u _=>u=(.pointer (some ⟨w.heap.size,0,none⟩))),(fun u _=>u=(.slice (some ⟨bC,oC,none⟩) p.clear.length cc)),(fun u _=>u=(.pointer (some ⟨g,0,none⟩))),(fun u _=>u=(.pointer (some ⟨w.heap.size,0,none⟩))),(fun u _=>u=(.slice (some ⟨bC,oC,none⟩) p.clear.length cc)),(fun u _=>u=(.int .i64 (p.clear.length:Int))),kLt p.clear.length,kPtR bC oC p.clear.length,kClV B0 p.clear] (by kernel_rfl) (by kernel_rfl) (by kernel_rfl) rfl ?_ (by repeat' (first | exact trivial | exact XReg.GoodKL.same _ _ default | exact kI64_good | exact kLt_good (by decide) | exact kArr_good | exact kPt_good (by decide) | (first | exact kLt_good hc0 | exact kPtR_good hc0 | exact kClV_good (HCM.out _ (List.getElem_mem (show 0 < ls.length by have:=HLL.out;omega))) HW0.out HGB.out) | refine And.intro ?_ ?_)) (SrcR.ext (Ext.refl _).drew))
  (apply LReg.val (.pointer (some ⟨w.heap.size,0,none⟩));(case h=>(intro w' hw' hF';have HW':=tH hw';clear hF' hw';go_wp2_with fail;exact⟨rfl,SrcR.ext xE⟩));(case hv=>kernel_rfl))
  apply LReg.val (.slice (some ⟨bC,oC,none⟩) p.clear.length cc)
  case h =>
   intro w' hw' hF'
   (have hB:=HB5.out.chg hw'.1 (by have:=HG.out;simp;omega);have p0:w'.cell? ⟨w.heap.size,0,none⟩=some (.slice (some ⟨bC,oC,none⟩) p.clear.length cc):=hB.cell 0;have po:=hB.old;clear hB)
   clear hF' hw'
   go_wp2_with fail
   exact⟨rfl,SrcR.ext xE⟩
  case hv=>kernel_rfl
  (apply LReg.val (.pointer (some ⟨g,0,none⟩));(case h=>(intro w' hw' hF';have HW':=tH hw';clear hF' hw';go_wp2_with fail;exact⟨rfl,SrcR.ext xE⟩));(case hv=>kernel_rfl))
  (apply LReg.val (.pointer (some ⟨w.heap.size,0,none⟩));(case h=>(intro w' hw' hF';have HW':=tH hw';clear hF' hw';go_wp2_with fail;exact⟨rfl,SrcR.ext xE⟩));(case hv=>kernel_rfl))
  apply LReg.val (.slice (some ⟨bC,oC,none⟩) p.clear.length cc)
  case h =>
   intro w' hw' hF'
   (have hB:=HB5.out.chg hw'.1 (by have:=HG.out;simp;omega);have p0:w'.cell? ⟨w.heap.size,0,none⟩=some (.slice (some ⟨bC,oC,none⟩) p.clear.length cc):=hB.cell 0;have po:=hB.old;clear hB)
   clear hF' hw'
   go_wp2_with fail
   exact⟨rfl,SrcR.ext xE⟩
  case hv=>kernel_rfl
  (apply LReg.val (.int .i64 (p.clear.length:Int));(case h=>(intro w' hw' hF';have HW':=tH hw';clear hF' hw';go_wp2_with fail;exact⟨rfl,SrcR.ext xE⟩));(case hv=>kernel_rfl))
  refine LReg.kind (fun w' hw' hF'=>?_) (fun v w1 hK=>?_)
  ·have HW':=tH (hw'.2 HA5.out)
   clear hF' hw'
   go_wp2_with fail
   refine(srcN' g (p.clear.length:Int) _ cv l (HW'.out.ext xE) (i64_nat HPB.out.c1 (by decide))).mono ?_
   rintro e w8 ⟨n,rfl,hb,hc,hs⟩
   have HR8:=tH (SrcR.of (w:=w') xE hc hs)
   have hn:n < p.clear.length:=by omega
   clear hc hs hb
   go_wp2
   exact⟨HR8.out,_,rfl,hn⟩
  obtain⟨n6,rfl,hn6⟩:=hK
  clear w1
  refine LReg.kind (fun w' hw' hF'=>?_) (fun v w1 hK=>?_)
  ·clear hw' hF'
   go_wp2
   exact⟨SrcR.ext xE,n6,hn6,rfl⟩
  obtain⟨n7,hn7,rfl⟩:=hK
  clear w1
  refine LReg.kind (fun w' hw' hF'=>?_) (fun v w1 hK=>?_)
  ·have hQ:=HQ5.out.off hw'.1 (offP_g HGB.out)
   have hi:n7 < ls.length:=by have:=HLL.out;omega
   obtain⟨ho,hce⟩:=cls_at hQ hi
   have HY:=tH (And.intro (HCM.out _ (List.getElem_mem hi)) (hQ.nd _ (List.getElem_mem hi)).2)
   unfold LW.nv at hce HY
   generalize ls[n7]=r at hce HY
   obtain⟨r,ya,yc⟩:=r
   clear hw' hF' hQ hi
   go_wp2
   exact⟨SrcR.ext xE,ya,yc,r,HY.out.1,rfl,HY.out.2⟩
  obtain⟨ra,rc9,r,hr,rfl,-⟩:=hK
  clear w1
  refine LReg.done (fun w9 hw9 hF=>?_)
  obtain⟨ra',rc',q',hq',hv',hrw⟩:=hF 8 (kClV B0 p.clear,.slice ra r.length rc9) (by kernel_rfl)
  obtain⟨rfl,hql,rfl⟩:ra=ra'∧r.length=q'.length∧rc9=rc':=by simpa using hv'
  rw[hql] at hrw ⊢
  have HRW:=tH hrw
  have HC9:=tH (HC5.out.trans hw9.1)
  have HA9:=tH (hw9.2 HA5.out)
  have HR9:=tH (HR5.out.chg hw9.1 (by have:=HG.out;simp;omega))
  have HQB:=tH (show (1≤q'.length∧q'.length≤8)∧∀ x∈q',x.ok from ⟨HPB.out.c2 _ hq',HCO.out _ hq'⟩)
  clear hF hw9 hrw hql hv' hr hq' r HC5 HA5 HR5 HB5 HQ5 HW0
  have hq8:q'.length≤8:=HQB.out.1.2
  go_wp2_with fail
  refine(srcN' g (q'.length:Int) _ cv l HA9.out (i64_nat HQB.out.1.2 (by decide))).mono ?_
  rintro e W11 ⟨n8,rfl,hb,hc,hs⟩
  have hn8:n8 < q'.length:=by have:=HQB.out.1.1;omega
  have HC11:=tH (HC9.out.trans hc)
  have HA11:=tH hs
  have HR11:=tH (HR9.out.chg hc (by have:=HG.out;simp;omega))
  have HW11:=tH (HRW.out.chg hc (fun b hb=>by have:=(HRW.out.blk b hb).1;have:=HGB.out;simp;omega))
  clear hc hs hb HC9 HA9 HR9 HRW
  obtain⟨bR,oR,rfl⟩:=slr_some (row_lab9 HW11.out) hn8
  obtain⟨ho,g0,g1⟩:=labs_at9 (row_lab9 HW11.out) hn8
  have HXO:=tH (HQB.out.2 _ (List.getElem_mem hn8))
  generalize q'[n8]=x at g0 g1 HXO
  have r0:W11.cell? ⟨w.heap.size+1,0,none⟩=some (.int .i64 0):=HR11.out.cell 0
  have r1:W11.cell? ⟨w.heap.size+1,1,none⟩=some (.int .i64 0):=HR11.out.cell 1
  have ro:=HR11.out.old
  have rf:=HR11.out.fz
  go_wp2
  have hC:=set2_chg W11 (w.heap.size+1) (.int .i64 x.lv) (.int .i64 x.st)
  exact bodyPost_ret (v:=.agg #[(.int .i64 x.lv),(.int .i64 x.st)]) (by simp[results,Tryz.results43,go_sem,r0,r1]) rfl ⟨x,rfl,HXO.out,HC11.out.past hC (by simp),HA11.out.chg HS.out hC (by simp)⟩
 obtain⟨bJ,oJ,hja⟩:=slr_some (row_rc (f:=RJ.cells) (fun _=>rfl) HJ2.out.row) (show 0 < rs.length by have:=HRL.out;omega)
 subst hja
 go_upto_region 2 with fail
 (refine wp_region_l (R:=SrcR g cv l) (SrcR.trans) 10 [(fun u _=>u=(.pointer (some ⟨w.heap.size,1,none⟩))),(fun u _=>u=(.slice (some ⟨bJ,oJ,none⟩) p.jobs.length jc)),(fun u _=>u=(.pointer (some ⟨g,0,none⟩))),(fun u _=>u=(.pointer (some ⟨w.heap.size,1,none⟩))),(fun u _=>u=(.slice (some ⟨bJ,oJ,none⟩) p.jobs.length jc)),(fun u _=>u=(.int .i64 (p.jobs.length:Int))),kLt p.jobs.length,kPtM bJ oJ 9 p.jobs.length,kPtM bJ oJ 9 p.jobs.length,lb9] (by kernel_rfl) (by kernel_rfl) (by kernel_rfl) rfl ?_ (by repeat' (first | exact trivial | exact XReg.GoodKL.same _ _ default | exact kI64_good | exact kLt_good (by decide) | exact kArr_good | exact kPt_good (by decide) | (first | exact kLt_good hj0 | exact kPtM_good hj0 | exact lb9_good) | refine And.intro ?_ ?_)) (SrcR.ext (Ext.refl _).drew))
 (apply LReg.val (.pointer (some ⟨w.heap.size,1,none⟩));(case h=>(intro w' hw' hF';have HW':=tH hw';clear hF' hw';go_wp2_with fail;exact⟨rfl,SrcR.ext xE⟩));(case hv=>kernel_rfl))
 apply LReg.val (.slice (some ⟨bJ,oJ,none⟩) p.jobs.length jc)
 case h =>
  intro w' hw' hF'
  (have hB:=HB2.out.chg hw'.1 (by have:=HG.out;simp;omega);have p1:w'.cell? ⟨w.heap.size,1,none⟩=some (.slice (some ⟨bJ,oJ,none⟩) p.jobs.length jc):=hB.cell 1;have po:=hB.old;clear hB)
  clear hF' hw'
  go_wp2_with fail
  exact⟨rfl,SrcR.ext xE⟩
 case hv=>kernel_rfl
 (apply LReg.val (.pointer (some ⟨g,0,none⟩));(case h=>(intro w' hw' hF';have HW':=tH hw';clear hF' hw';go_wp2_with fail;exact⟨rfl,SrcR.ext xE⟩));(case hv=>kernel_rfl))
 (apply LReg.val (.pointer (some ⟨w.heap.size,1,none⟩));(case h=>(intro w' hw' hF';have HW':=tH hw';clear hF' hw';go_wp2_with fail;exact⟨rfl,SrcR.ext xE⟩));(case hv=>kernel_rfl))
 apply LReg.val (.slice (some ⟨bJ,oJ,none⟩) p.jobs.length jc)
 case h =>
  intro w' hw' hF'
  (have hB:=HB2.out.chg hw'.1 (by have:=HG.out;simp;omega);have p1:w'.cell? ⟨w.heap.size,1,none⟩=some (.slice (some ⟨bJ,oJ,none⟩) p.jobs.length jc):=hB.cell 1;have po:=hB.old;clear hB)
  clear hF' hw'
  go_wp2_with fail
  exact⟨rfl,SrcR.ext xE⟩
 case hv=>kernel_rfl
 (apply LReg.val (.int .i64 (p.jobs.length:Int));(case h=>(intro w' hw' hF';have HW':=tH hw';clear hF' hw';go_wp2_with fail;exact⟨rfl,SrcR.ext xE⟩));(case hv=>kernel_rfl))
 refine LReg.kind (fun w' hw' hF'=>?_) (fun v w1 hK=>?_)
 ·have HW':=tH (hw'.2 HA2.out)
  clear hF' hw'
  go_wp2_with fail
  refine(srcN' g (p.jobs.length:Int) _ cv l (HW'.out.ext xE) (i64_nat HPB.out.j1 (by decide))).mono ?_
  rintro e w8 ⟨n,rfl,hb,hc,hs⟩
  have HR8:=tH (SrcR.of (w:=w') xE hc hs)
  have hn:n < p.jobs.length:=by omega
  clear hc hs hb
  go_wp2
  exact⟨HR8.out,_,rfl,hn⟩
 obtain⟨n6,rfl,hn6⟩:=hK
 clear w1
 refine LReg.kind (fun w' hw' hF'=>?_) (fun v w1 hK=>?_)
 ·clear hw' hF'
  go_wp2
  exact⟨SrcR.ext xE,n6,hn6,rfl⟩
 obtain⟨n7,hn7,rfl⟩:=hK
 clear w1
 refine LReg.kind (fun w' hw' hF'=>?_) (fun v w1 hK=>?_)
 ·clear hw' hF'
  go_wp2
  exact⟨SrcR.ext xE,n7,hn7,rfl⟩
 obtain⟨n8,hn8,rfl⟩:=hK
 clear w1
 refine LReg.kind (fun w' hw' hF'=>?_) (fun v w1 hK=>?_)
 ·have hQ:=HJ2.out.off hw'.1 (offP_g HGB.out)
  have hi:n8 < rs.length:=by have:=HRL.out;omega
  obtain⟨ho,hcs⟩:=jbs_at hQ hi
  have HF:=tH (hQ.nd _ (List.getElem_mem hi)).1
  generalize rs[n8]=r at hcs HF
  obtain⟨jb,na,nc⟩:=r
  have c0:w'.cell? ⟨bJ,oJ+n8*9,none⟩=some (.int .i64 jb.l.lv):=hcs 0 _ rfl
  have c1:w'.cell? ⟨bJ,oJ+n8*9+1,none⟩=some (.int .i64 jb.l.st):=hcs 1 _ rfl
  clear hw' hF' hQ hi hcs
  go_wp2
  exact⟨SrcR.ext xE,jb.l,rfl,HF.out.1.1⟩
 obtain⟨x,rfl,hxo⟩:=hK
 have HXO:=tH hxo
 clear w1 hxo
 refine LReg.done (fun w9 hw9 hF=>?_)
 have HC9:=tH (HC2.out.trans hw9.1)
 have HA9:=tH (hw9.2 HA2.out)
 have HR9:=tH (HR2.out.chg hw9.1 (by have:=HG.out;simp;omega))
 clear hF hw9 HC2 HA2 HR2 HB2 HQ2 HJ2
 have r0:w9.cell? ⟨w.heap.size+1,0,none⟩=some (.int .i64 0):=HR9.out.cell 0
 have r1:w9.cell? ⟨w.heap.size+1,1,none⟩=some (.int .i64 0):=HR9.out.cell 1
 have ro:=HR9.out.old
 have rf:=HR9.out.fz
 go_wp2
 have hC:=set2_chg w9 (w.heap.size+1) (.int .i64 x.lv) (.int .i64 x.st)
 exact bodyPost_ret (v:=.agg #[(.int .i64 x.lv),(.int .i64 x.st)]) (by simp[results,Tryz.results43,go_sem,r0,r1]) rfl ⟨x,rfl,HXO.out,HC9.out.past hC (by simp),HA9.out.chg HS.out hC (by simp)⟩
end Go.Proofs.YtdoeoojjabnboaaGreat
