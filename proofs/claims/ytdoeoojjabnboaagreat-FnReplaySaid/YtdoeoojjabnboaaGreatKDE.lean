/- The draws of entries. -/
import Derived.Test.YtdoeoojjabnboaaGreatKLL
set_option maxRecDepth 100000
set_option linter.unusedVariables false
namespace Go.Proofs.YtdoeoojjabnboaaGreat
open Go.RowKit Go.Fin1
theorem set6_chg9 (w:World) (g:Nat) (u0 u1 u2 u3 u4 u5:Value):Chg [g] w ((((((w.setCell ⟨g,0,none⟩ u0).setCell ⟨g,1,none⟩ u1).setCell ⟨g,2,none⟩ u2).setCell ⟨g,3,none⟩ u3).setCell ⟨g,4,none⟩ u4).setCell ⟨g,5,none⟩ u5) :=
 ((((((Chg.refl _ _).setCell (.inl (by simp)) _).setCell (.inl (by simp)) _).setCell (.inl (by simp)) _).setCell (.inl (by simp)) _).setCell (.inl (by simp)) _).setCell (.inl (by simp)) _
theorem set6_blk9 {w:World} {g:Nat} {t0 t1 t2 t3 t4 t5:Value} {ty:TypeId} (h:Blk w g [t0,t1,t2,t3,t4,t5] ty) (u0 u1 u2 u3 u4 u5:Value):Blk ((((((w.setCell ⟨g,0,none⟩ u0).setCell ⟨g,1,none⟩ u1).setCell ⟨g,2,none⟩ u2).setCell ⟨g,3,none⟩ u3).setCell ⟨g,4,none⟩ u4).setCell ⟨g,5,none⟩ u5) g [u0,u1,u2,u3,u4,u5] ty :=
 (((((h.set 0 u0).set 1 u1).set 2 u2).set 3 u3).set 4 u4).set 5 u5
structure EnD (w:World) (g:Nat) (cv:Value) (l:List Int) (W:World) (x:Ent):Prop where
 s0:SrcA w g cv l
 ok:x.ok
 c:Chg [g] w W
 s:SrcA W g cv l
 r:Blk W w.heap.size [(.int .i64 0),(.int .i64 0),(.int .i64 0),(.int .i64 0),(.int .i64 0),(.int .i64 0)] 57
 e:Blk W (w.heap.size+1) x.cells 57
theorem EnD.start {w:World} {g:Nat} {cv:Value} {l:List Int} (h:SrcA w g cv l):EnD w g cv l ((w.alloc (.cells #[(.int .i64 0),(.int .i64 0),(.int .i64 0),(.int .i64 0),(.int .i64 0),(.int .i64 0)] 57)).alloc (.cells #[(.int .i64 3),(.int .i64 0),(.int .i64 0),(.int .i64 0),(.int .i64 0),(.int .i64 0)] 57)) ⟨3,⟨0,0⟩,0,0,0⟩ :=
 ⟨h,by simp[Ent.ok,Lab.ok,I64],(((Ext.refl w).alloc _).alloc _).chg _,h.ext (((Ext.refl w).alloc _).alloc _),(Blk.new (w:=w) rfl).ext ((Ext.refl _).alloc _),Blk.new (cs:=#[(.int .i64 3),(.int .i64 0),(.int .i64 0),(.int .i64 0),(.int .i64 0),(.int .i64 0)]) (by simp)⟩
theorem EnD.src {w:World} {g:Nat} {cv:Value} {l:List Int} {W W':World} {x:Ent} (h:EnD w g cv l W x) (hc:Chg [g] W W') (hs:SrcA W' g cv l):EnD w g cv l W' x :=
 ⟨h.s0,h.ok,h.c.trans hc,hs,h.r.chg hc (by have:=h.s0.old;unfold World.old at this;simp;omega),h.e.chg hc (by have:=h.s0.old;unfold World.old at this;simp;omega)⟩
theorem EnD.ext {w:World} {g:Nat} {cv:Value} {l:List Int} {W W':World} {x:Ent} (h:EnD w g cv l W x) (hx:Ext W W'):EnD w g cv l W' x:=h.src (hx.chg _) (h.s.ext hx)
theorem EnD.put {w:World} {g:Nat} {cv:Value} {l:List Int} {W W':World} {x y:Ent} (h:EnD w g cv l W x) (hc:Chg [w.heap.size+1] W W') (hb:Blk W' (w.heap.size+1) y.cells 57) (hy:y.ok):EnD w g cv l W' y :=
 ⟨h.s0,hy,h.c.past hc (by simp),h.s.chg h.s0 hc (by simp),h.r.chg hc (by simp),hb⟩
set_option maxHeartbeats 3200000 in
theorem srcEntry_any (g:Nat) (w:World) (cv:Value) (l:List Int) (h:SrcA w g cv l) :
  Calls Tryz.prog 77 #[.pointer (some ⟨g,0,none⟩)] w fun e w'=>∃ x:Ent,e=.returned x.val∧x.ok∧Chg [g] w w'∧SrcA w' g cv l:=by
 have HS:=tH h
 have HG:=tH h.old
 clear h
 have H2:Hid (I64 2):=tH (by unfold I64;omega)
 have H3:Hid (I64 3):=tH (by unfold I64;omega)
 have H4:Hid (I64 4):=tH (by unfold I64;omega)
 have H5:Hid (I64 5):=tH (by unfold I64;omega)
 have H15:Hid (I64 15):=tH (by unfold I64;omega)
 go_enter Tryz.func77,Tryz.ntmps77
 go_wp2_with fail
 refine(srcN' g 4 _ cv l (HS.out.ext xE) H4.out).mono ?_
 rintro e w2 ⟨a,rfl,hb,hc,hs⟩
 have HE:=tH ((EnD.start HS.out).src hc hs)
 have ha:(a:Int)≤3:=by omega
 clear hc hs hb
 generalize hka:(a:Int)=ka at *
 have hka2:ka=0∨ka=1∨ka=2∨ka=3:=by omega
 clear hka ha
 rcases hka2 with rfl | rfl | rfl | rfl
 ·skip
  go_wp2_with fail
  refine(srcN' g 2 _ cv l HE.out.s H2.out).mono ?_
  rintro e w3 ⟨n1,rfl,hb,hc,hs⟩
  have HE3:=tH (HE.out.src hc hs)
  have hn1:n1 < 2:=by omega
  clear hc hs hb HE
  go_wp2_with fail
  refine(srcN' g 2 _ cv l HE3.out.s H2.out).mono ?_
  rintro e w4 ⟨n2,rfl,hb,hc,hs⟩
  have HE4:=tH (HE3.out.src hc hs)
  have hn2:n2 < 2:=by omega
  clear hc hs hb HE3
  have hw2:wrap64 (1+(n2:Int))=1+(n2:Int):=by unfold wrap64;omega
  go_wp2_with fail
  refine(srcN' g 5 _ cv l HE4.out.s H5.out).mono ?_
  rintro e w5 ⟨n3,rfl,hb,hc,hs⟩
  have HE5:=tH (HE4.out.src hc hs)
  have hn3:n3 < 5:=by omega
  clear hc hs hb HE4
  have hw3:wrap64 (1+(n3:Int))=1+(n3:Int):=by unfold wrap64;omega
  go_wp2_with fail
  refine(srcN' g 3 _ cv l HE5.out.s H3.out).mono ?_
  rintro e w6 ⟨n4,rfl,hb,hc,hs⟩
  have HE6:=tH (HE5.out.src hc hs)
  have hn4:n4 < 3:=by omega
  clear hc hs hb HE5
  have hr0:=HE6.out.e.cell 0
  have hr1:=HE6.out.e.cell 1
  have hr2:=HE6.out.e.cell 2
  have hr3:=HE6.out.e.cell 3
  have hr4:=HE6.out.e.cell 4
  have hr5:=HE6.out.e.cell 5
  simp only[Ent.cells,List.getElem?_cons_zero,List.getElem?_cons_succ] at hr0 hr1 hr2 hr3 hr4 hr5
  have hbo:=HE6.out.e.old
  have hbf:=HE6.out.e.fz
  go_upto_region 8 with fail
  refine gen_world (fun w7 hW=>?_)
  have HE7:=tH (show EnD w g cv l w7 ⟨1,⟨(n1:Int),0⟩,1+(n2:Int),1+(n3:Int),(n4:Int)⟩ by rw[hW];exact HE6.out.put (set6_chg9 _ _ _ _ _ _ _ _) (set6_blk9 HE6.out.e _ _ _ _ _ _) (by unfold Ent.ok Lab.ok I64;simp only;omega))
  clear hW hbo hbf HE6 hw2 hw3 hr0 hr1 hr2 hr3 hr4 hr5
  go_wp2_with fail
  refine(srcOne_any g 15 _ cv l HE7.out.s H15.out).mono ?_
  rintro e w8 ⟨b,rfl,hc,hs⟩
  have HE8:=tH (HE7.out.src hc hs)
  clear hc hs HE7
  cases b
  ·skip
   have hr0:=HE8.out.e.cell 0
   have hr1:=HE8.out.e.cell 1
   have hr2:=HE8.out.e.cell 2
   have hr3:=HE8.out.e.cell 3
   have hr4:=HE8.out.e.cell 4
   have hr5:=HE8.out.e.cell 5
   have hq0:=HE8.out.r.cell 0
   have hq1:=HE8.out.r.cell 1
   have hq2:=HE8.out.r.cell 2
   have hq3:=HE8.out.r.cell 3
   have hq4:=HE8.out.r.cell 4
   have hq5:=HE8.out.r.cell 5
   simp only[Ent.cells,List.getElem?_cons_zero,List.getElem?_cons_succ] at hr0 hr1 hr2 hr3 hr4 hr5 hq0 hq1 hq2 hq3 hq4 hq5
   have hro:=HE8.out.e.old
   have hqo:=HE8.out.r.old
   have hqf:=HE8.out.r.fz
   go_wp2
   exact bodyPost_ret (v:=Ent.val ⟨1,⟨(n1:Int),0⟩,1+(n2:Int),1+(n3:Int),(n4:Int)⟩) (by simp[Ent.val,results,Tryz.results77,go_sem,hq0,hq1,hq2,hq3,hq4,hq5]) rfl ⟨⟨1,⟨(n1:Int),0⟩,1+(n2:Int),1+(n3:Int),(n4:Int)⟩,rfl,HE8.out.ok,HE8.out.c.past (set6_chg9 _ _ _ _ _ _ _ _) (by simp),HE8.out.s.chg HS.out (set6_chg9 _ _ _ _ _ _ _ _) (by simp)⟩
  ·skip
   go_wp2_with fail
   refine(srcN' g 3 _ cv l HE8.out.s H3.out).mono ?_
   rintro e w9 ⟨q,rfl,hb,hc,hs⟩
   have HE9:=tH (HE8.out.src hc hs)
   have hq:q < 3:=by omega
   clear hc hs hb HE8
   generalize hkq:(q:Int)=kq at *
   have hkq2:kq=0∨kq=1∨kq=2:=by omega
   clear hkq hq
   have hok:=HE9.out.ok
   unfold Ent.ok at hok
   obtain⟨ho1,⟨ho2,ho3⟩,ho4,ho5,ho6⟩:=hok
   simp only at ho1 ho2 ho3 ho4 ho5 ho6
   have HO1:=tH ho1
   have HO2:=tH ho2
   have HO3:=tH ho3
   have HO4:=tH ho4
   have HO5:=tH ho5
   have HO6:=tH ho6
   clear ho1 ho2 ho3 ho4 ho5 ho6
   rcases hkq2 with rfl | rfl | rfl
   ·skip
    go_wp2_with fail
    refine(srcN' g 5 _ cv l HE9.out.s H5.out).mono ?_
    rintro e wa ⟨f,rfl,hb,hc,hs⟩
    have HEa:=tH (HE9.out.src hc hs)
    have hf:f < 5:=by omega
    clear hc hs hb HE9
    have hr0:=HEa.out.e.cell 0
    have hr1:=HEa.out.e.cell 1
    have hr2:=HEa.out.e.cell 2
    have hr3:=HEa.out.e.cell 3
    have hr4:=HEa.out.e.cell 4
    have hr5:=HEa.out.e.cell 5
    simp only[Ent.cells,List.getElem?_cons_zero,List.getElem?_cons_succ] at hr0 hr1 hr2 hr3 hr4 hr5
    have hbo:=HEa.out.e.old
    have hbf:=HEa.out.e.fz
    go_upto_region 15 with fail
    refine gen_world (fun wb hW=>?_)
    have HEb:=tH (show EnD w g cv l wb ⟨(f:Int),⟨(n1:Int),0⟩,1+(n2:Int),1+(n3:Int),(n4:Int)⟩ by rw[hW];exact HEa.out.put ((Chg.refl _ _).setCell (.inl (by simp)) _) (HEa.out.e.set 0 _) ⟨by unfold I64;simp only;omega,⟨HO2.out,HO3.out⟩,HO4.out,HO5.out,HO6.out⟩)
    clear hW hbo hbf HEa hr0 hr1 hr2 hr3 hr4 hr5
    have hr0:=HEb.out.e.cell 0
    have hr1:=HEb.out.e.cell 1
    have hr2:=HEb.out.e.cell 2
    have hr3:=HEb.out.e.cell 3
    have hr4:=HEb.out.e.cell 4
    have hr5:=HEb.out.e.cell 5
    have hq0:=HEb.out.r.cell 0
    have hq1:=HEb.out.r.cell 1
    have hq2:=HEb.out.r.cell 2
    have hq3:=HEb.out.r.cell 3
    have hq4:=HEb.out.r.cell 4
    have hq5:=HEb.out.r.cell 5
    simp only[Ent.cells,List.getElem?_cons_zero,List.getElem?_cons_succ] at hr0 hr1 hr2 hr3 hr4 hr5 hq0 hq1 hq2 hq3 hq4 hq5
    have hro:=HEb.out.e.old
    have hqo:=HEb.out.r.old
    have hqf:=HEb.out.r.fz
    go_wp2
    exact bodyPost_ret (v:=Ent.val ⟨(f:Int),⟨(n1:Int),0⟩,1+(n2:Int),1+(n3:Int),(n4:Int)⟩) (by simp[Ent.val,results,Tryz.results77,go_sem,hq0,hq1,hq2,hq3,hq4,hq5]) rfl ⟨⟨(f:Int),⟨(n1:Int),0⟩,1+(n2:Int),1+(n3:Int),(n4:Int)⟩,rfl,HEb.out.ok,HEb.out.c.past (set6_chg9 _ _ _ _ _ _ _ _) (by simp),HEb.out.s.chg HS.out (set6_chg9 _ _ _ _ _ _ _ _) (by simp)⟩
   ·skip
    go_wp2_with fail
    refine(srcN' g 3 _ cv l (HE9.out.s.ext ((Ext.refl _).alloc _)) H3.out).mono ?_
    rintro e wa ⟨f,rfl,hb,hc,hs⟩
    have HEa:=tH ((HE9.out.ext ((Ext.refl w9).alloc (.cells #[(.int .i64 (-1)),(.int .i64 100),(.int .i64 101)] 2))).src hc hs)
    have HT:=tH ((Blk.new (w:=w9) (cs:=#[(.int .i64 (-1)),(.int .i64 100),(.int .i64 101)]) (ty:=2) rfl).chg hc (by have:=HE9.out.s.old;unfold World.old at this;simp;omega))
    have hN3:f < 3:=by omega
    obtain⟨zz,hZ,hcz⟩:∃ z:Int,I64 z∧wa.cell? ⟨w9.heap.size,f,none⟩=some (.int .i64 z):=by
     have:f=0∨f=1∨f=2:=by omega
     rcases this with h | h | h<;>rw[h,HT.out.cell]<;>(refine⟨_,?_,rfl⟩;unfold I64;omega)
    have hto:=HT.out.old
    clear hc hs hb HE9
    have hr0:=HEa.out.e.cell 0
    have hr1:=HEa.out.e.cell 1
    have hr2:=HEa.out.e.cell 2
    have hr3:=HEa.out.e.cell 3
    have hr4:=HEa.out.e.cell 4
    have hr5:=HEa.out.e.cell 5
    simp only[Ent.cells,List.getElem?_cons_zero,List.getElem?_cons_succ] at hr0 hr1 hr2 hr3 hr4 hr5
    have hbo:=HEa.out.e.old
    have hbf:=HEa.out.e.fz
    go_upto_region 15 with fail
    refine gen_world (fun wb hW=>?_)
    have HEb:=tH (show EnD w g cv l wb ⟨1,⟨(n1:Int),0⟩,zz,1+(n3:Int),(n4:Int)⟩ by rw[hW];exact HEa.out.put ((Chg.refl _ _).setCell (.inl (by simp)) _) (HEa.out.e.set 3 _) ⟨HO1.out,⟨HO2.out,HO3.out⟩,hZ,HO5.out,HO6.out⟩)
    clear hW hbo hbf HEa hr0 hr1 hr2 hr3 hr4 hr5 HT hcz hto
    have hr0:=HEb.out.e.cell 0
    have hr1:=HEb.out.e.cell 1
    have hr2:=HEb.out.e.cell 2
    have hr3:=HEb.out.e.cell 3
    have hr4:=HEb.out.e.cell 4
    have hr5:=HEb.out.e.cell 5
    have hq0:=HEb.out.r.cell 0
    have hq1:=HEb.out.r.cell 1
    have hq2:=HEb.out.r.cell 2
    have hq3:=HEb.out.r.cell 3
    have hq4:=HEb.out.r.cell 4
    have hq5:=HEb.out.r.cell 5
    simp only[Ent.cells,List.getElem?_cons_zero,List.getElem?_cons_succ] at hr0 hr1 hr2 hr3 hr4 hr5 hq0 hq1 hq2 hq3 hq4 hq5
    have hro:=HEb.out.e.old
    have hqo:=HEb.out.r.old
    have hqf:=HEb.out.r.fz
    go_wp2
    exact bodyPost_ret (v:=Ent.val ⟨1,⟨(n1:Int),0⟩,zz,1+(n3:Int),(n4:Int)⟩) (by simp[Ent.val,results,Tryz.results77,go_sem,hq0,hq1,hq2,hq3,hq4,hq5]) rfl ⟨⟨1,⟨(n1:Int),0⟩,zz,1+(n3:Int),(n4:Int)⟩,rfl,HEb.out.ok,HEb.out.c.past (set6_chg9 _ _ _ _ _ _ _ _) (by simp),HEb.out.s.chg HS.out (set6_chg9 _ _ _ _ _ _ _ _) (by simp)⟩
   ·go_wp2_with fail
    refine(srcLabel_any g _ cv l HE9.out.s).mono ?_
    rintro e wa ⟨⟨y1,y2⟩,rfl,hy,hc,hs⟩
    have HEa:=tH (HE9.out.src hc hs)
    have HY:=tH hy
    clear hc hs hy HE9
    have hr0:=HEa.out.e.cell 0
    have hr1:=HEa.out.e.cell 1
    have hr2:=HEa.out.e.cell 2
    have hr3:=HEa.out.e.cell 3
    have hr4:=HEa.out.e.cell 4
    have hr5:=HEa.out.e.cell 5
    simp only[Ent.cells,List.getElem?_cons_zero,List.getElem?_cons_succ] at hr0 hr1 hr2 hr3 hr4 hr5
    have hbo:=HEa.out.e.old
    have hbf:=HEa.out.e.fz
    go_upto_region 15 with fail
    refine gen_world (fun wb hW=>?_)
    have HEb:=tH (show EnD w g cv l wb ⟨1,⟨y1,y2⟩,1+(n2:Int),1+(n3:Int),(n4:Int)⟩ by rw[hW];exact HEa.out.put (((Chg.refl _ _).setCell (.inl (by simp)) _).setCell (.inl (by simp)) _) ((HEa.out.e.set 1 _).set 2 _) ⟨HO1.out,HY.out,HO4.out,HO5.out,HO6.out⟩)
    clear hW hbo hbf HEa hr0 hr1 hr2 hr3 hr4 hr5
    have hr0:=HEb.out.e.cell 0
    have hr1:=HEb.out.e.cell 1
    have hr2:=HEb.out.e.cell 2
    have hr3:=HEb.out.e.cell 3
    have hr4:=HEb.out.e.cell 4
    have hr5:=HEb.out.e.cell 5
    have hq0:=HEb.out.r.cell 0
    have hq1:=HEb.out.r.cell 1
    have hq2:=HEb.out.r.cell 2
    have hq3:=HEb.out.r.cell 3
    have hq4:=HEb.out.r.cell 4
    have hq5:=HEb.out.r.cell 5
    simp only[Ent.cells,List.getElem?_cons_zero,List.getElem?_cons_succ] at hr0 hr1 hr2 hr3 hr4 hr5 hq0 hq1 hq2 hq3 hq4 hq5
    have hro:=HEb.out.e.old
    have hqo:=HEb.out.r.old
    have hqf:=HEb.out.r.fz
    go_wp2
    exact bodyPost_ret (v:=Ent.val ⟨1,⟨y1,y2⟩,1+(n2:Int),1+(n3:Int),(n4:Int)⟩) (by simp[Ent.val,results,Tryz.results77,go_sem,hq0,hq1,hq2,hq3,hq4,hq5]) rfl ⟨⟨1,⟨y1,y2⟩,1+(n2:Int),1+(n3:Int),(n4:Int)⟩,rfl,HEb.out.ok,HEb.out.c.past (set6_chg9 _ _ _ _ _ _ _ _) (by simp),HEb.out.s.chg HS.out (set6_chg9 _ _ _ _ _ _ _ _) (by simp)⟩
 ·skip
  go_wp2_with fail
  refine(srcN' g 2 _ cv l HE.out.s H2.out).mono ?_
  rintro e w3 ⟨n1,rfl,hb,hc,hs⟩
  have HE3:=tH (HE.out.src hc hs)
  have hn1:n1 < 2:=by omega
  clear hc hs hb HE
  go_wp2_with fail
  refine(srcN' g 2 _ cv l HE3.out.s H2.out).mono ?_
  rintro e w4 ⟨n2,rfl,hb,hc,hs⟩
  have HE4:=tH (HE3.out.src hc hs)
  have hn2:n2 < 2:=by omega
  clear hc hs hb HE3
  have hw2:wrap64 (1+(n2:Int))=1+(n2:Int):=by unfold wrap64;omega
  go_wp2_with fail
  refine(srcN' g 5 _ cv l HE4.out.s H5.out).mono ?_
  rintro e w5 ⟨n3,rfl,hb,hc,hs⟩
  have HE5:=tH (HE4.out.src hc hs)
  have hn3:n3 < 5:=by omega
  clear hc hs hb HE4
  have hw3:wrap64 (1+(n3:Int))=1+(n3:Int):=by unfold wrap64;omega
  go_wp2_with fail
  refine(srcN' g 3 _ cv l HE5.out.s H3.out).mono ?_
  rintro e w6 ⟨n4,rfl,hb,hc,hs⟩
  have HE6:=tH (HE5.out.src hc hs)
  have hn4:n4 < 3:=by omega
  clear hc hs hb HE5
  have hr0:=HE6.out.e.cell 0
  have hr1:=HE6.out.e.cell 1
  have hr2:=HE6.out.e.cell 2
  have hr3:=HE6.out.e.cell 3
  have hr4:=HE6.out.e.cell 4
  have hr5:=HE6.out.e.cell 5
  simp only[Ent.cells,List.getElem?_cons_zero,List.getElem?_cons_succ] at hr0 hr1 hr2 hr3 hr4 hr5
  have hbo:=HE6.out.e.old
  have hbf:=HE6.out.e.fz
  go_upto_region 8 with fail
  refine gen_world (fun w7 hW=>?_)
  have HE7:=tH (show EnD w g cv l w7 ⟨1,⟨(n1:Int),0⟩,1+(n2:Int),1+(n3:Int),(n4:Int)⟩ by rw[hW];exact HE6.out.put (set6_chg9 _ _ _ _ _ _ _ _) (set6_blk9 HE6.out.e _ _ _ _ _ _) (by unfold Ent.ok Lab.ok I64;simp only;omega))
  clear hW hbo hbf HE6 hw2 hw3 hr0 hr1 hr2 hr3 hr4 hr5
  go_wp2_with fail
  refine(srcOne_any g 15 _ cv l HE7.out.s H15.out).mono ?_
  rintro e w8 ⟨b,rfl,hc,hs⟩
  have HE8:=tH (HE7.out.src hc hs)
  clear hc hs HE7
  cases b
  ·skip
   have hr0:=HE8.out.e.cell 0
   have hr1:=HE8.out.e.cell 1
   have hr2:=HE8.out.e.cell 2
   have hr3:=HE8.out.e.cell 3
   have hr4:=HE8.out.e.cell 4
   have hr5:=HE8.out.e.cell 5
   have hq0:=HE8.out.r.cell 0
   have hq1:=HE8.out.r.cell 1
   have hq2:=HE8.out.r.cell 2
   have hq3:=HE8.out.r.cell 3
   have hq4:=HE8.out.r.cell 4
   have hq5:=HE8.out.r.cell 5
   simp only[Ent.cells,List.getElem?_cons_zero,List.getElem?_cons_succ] at hr0 hr1 hr2 hr3 hr4 hr5 hq0 hq1 hq2 hq3 hq4 hq5
   have hro:=HE8.out.e.old
   have hqo:=HE8.out.r.old
   have hqf:=HE8.out.r.fz
   go_wp2
   exact bodyPost_ret (v:=Ent.val ⟨1,⟨(n1:Int),0⟩,1+(n2:Int),1+(n3:Int),(n4:Int)⟩) (by simp[Ent.val,results,Tryz.results77,go_sem,hq0,hq1,hq2,hq3,hq4,hq5]) rfl ⟨⟨1,⟨(n1:Int),0⟩,1+(n2:Int),1+(n3:Int),(n4:Int)⟩,rfl,HE8.out.ok,HE8.out.c.past (set6_chg9 _ _ _ _ _ _ _ _) (by simp),HE8.out.s.chg HS.out (set6_chg9 _ _ _ _ _ _ _ _) (by simp)⟩
  ·skip
   go_wp2_with fail
   refine(srcN' g 3 _ cv l HE8.out.s H3.out).mono ?_
   rintro e w9 ⟨q,rfl,hb,hc,hs⟩
   have HE9:=tH (HE8.out.src hc hs)
   have hq:q < 3:=by omega
   clear hc hs hb HE8
   generalize hkq:(q:Int)=kq at *
   have hkq2:kq=0∨kq=1∨kq=2:=by omega
   clear hkq hq
   have hok:=HE9.out.ok
   unfold Ent.ok at hok
   obtain⟨ho1,⟨ho2,ho3⟩,ho4,ho5,ho6⟩:=hok
   simp only at ho1 ho2 ho3 ho4 ho5 ho6
   have HO1:=tH ho1
   have HO2:=tH ho2
   have HO3:=tH ho3
   have HO4:=tH ho4
   have HO5:=tH ho5
   have HO6:=tH ho6
   clear ho1 ho2 ho3 ho4 ho5 ho6
   rcases hkq2 with rfl | rfl | rfl
   ·skip
    go_wp2_with fail
    refine(srcN' g 5 _ cv l HE9.out.s H5.out).mono ?_
    rintro e wa ⟨f,rfl,hb,hc,hs⟩
    have HEa:=tH (HE9.out.src hc hs)
    have hf:f < 5:=by omega
    clear hc hs hb HE9
    have hr0:=HEa.out.e.cell 0
    have hr1:=HEa.out.e.cell 1
    have hr2:=HEa.out.e.cell 2
    have hr3:=HEa.out.e.cell 3
    have hr4:=HEa.out.e.cell 4
    have hr5:=HEa.out.e.cell 5
    simp only[Ent.cells,List.getElem?_cons_zero,List.getElem?_cons_succ] at hr0 hr1 hr2 hr3 hr4 hr5
    have hbo:=HEa.out.e.old
    have hbf:=HEa.out.e.fz
    go_upto_region 15 with fail
    refine gen_world (fun wb hW=>?_)
    have HEb:=tH (show EnD w g cv l wb ⟨(f:Int),⟨(n1:Int),0⟩,1+(n2:Int),1+(n3:Int),(n4:Int)⟩ by rw[hW];exact HEa.out.put ((Chg.refl _ _).setCell (.inl (by simp)) _) (HEa.out.e.set 0 _) ⟨by unfold I64;simp only;omega,⟨HO2.out,HO3.out⟩,HO4.out,HO5.out,HO6.out⟩)
    clear hW hbo hbf HEa hr0 hr1 hr2 hr3 hr4 hr5
    have hr0:=HEb.out.e.cell 0
    have hr1:=HEb.out.e.cell 1
    have hr2:=HEb.out.e.cell 2
    have hr3:=HEb.out.e.cell 3
    have hr4:=HEb.out.e.cell 4
    have hr5:=HEb.out.e.cell 5
    have hq0:=HEb.out.r.cell 0
    have hq1:=HEb.out.r.cell 1
    have hq2:=HEb.out.r.cell 2
    have hq3:=HEb.out.r.cell 3
    have hq4:=HEb.out.r.cell 4
    have hq5:=HEb.out.r.cell 5
    simp only[Ent.cells,List.getElem?_cons_zero,List.getElem?_cons_succ] at hr0 hr1 hr2 hr3 hr4 hr5 hq0 hq1 hq2 hq3 hq4 hq5
    have hro:=HEb.out.e.old
    have hqo:=HEb.out.r.old
    have hqf:=HEb.out.r.fz
    go_wp2
    exact bodyPost_ret (v:=Ent.val ⟨(f:Int),⟨(n1:Int),0⟩,1+(n2:Int),1+(n3:Int),(n4:Int)⟩) (by simp[Ent.val,results,Tryz.results77,go_sem,hq0,hq1,hq2,hq3,hq4,hq5]) rfl ⟨⟨(f:Int),⟨(n1:Int),0⟩,1+(n2:Int),1+(n3:Int),(n4:Int)⟩,rfl,HEb.out.ok,HEb.out.c.past (set6_chg9 _ _ _ _ _ _ _ _) (by simp),HEb.out.s.chg HS.out (set6_chg9 _ _ _ _ _ _ _ _) (by simp)⟩
   ·skip
    go_wp2_with fail
    refine(srcN' g 3 _ cv l (HE9.out.s.ext ((Ext.refl _).alloc _)) H3.out).mono ?_
    rintro e wa ⟨f,rfl,hb,hc,hs⟩
    have HEa:=tH ((HE9.out.ext ((Ext.refl w9).alloc (.cells #[(.int .i64 (-1)),(.int .i64 100),(.int .i64 101)] 2))).src hc hs)
    have HT:=tH ((Blk.new (w:=w9) (cs:=#[(.int .i64 (-1)),(.int .i64 100),(.int .i64 101)]) (ty:=2) rfl).chg hc (by have:=HE9.out.s.old;unfold World.old at this;simp;omega))
    have hN3:f < 3:=by omega
    obtain⟨zz,hZ,hcz⟩:∃ z:Int,I64 z∧wa.cell? ⟨w9.heap.size,f,none⟩=some (.int .i64 z):=by
     have:f=0∨f=1∨f=2:=by omega
     rcases this with h | h | h<;>rw[h,HT.out.cell]<;>(refine⟨_,?_,rfl⟩;unfold I64;omega)
    have hto:=HT.out.old
    clear hc hs hb HE9
    have hr0:=HEa.out.e.cell 0
    have hr1:=HEa.out.e.cell 1
    have hr2:=HEa.out.e.cell 2
    have hr3:=HEa.out.e.cell 3
    have hr4:=HEa.out.e.cell 4
    have hr5:=HEa.out.e.cell 5
    simp only[Ent.cells,List.getElem?_cons_zero,List.getElem?_cons_succ] at hr0 hr1 hr2 hr3 hr4 hr5
    have hbo:=HEa.out.e.old
    have hbf:=HEa.out.e.fz
    go_upto_region 15 with fail
    refine gen_world (fun wb hW=>?_)
    have HEb:=tH (show EnD w g cv l wb ⟨1,⟨(n1:Int),0⟩,zz,1+(n3:Int),(n4:Int)⟩ by rw[hW];exact HEa.out.put ((Chg.refl _ _).setCell (.inl (by simp)) _) (HEa.out.e.set 3 _) ⟨HO1.out,⟨HO2.out,HO3.out⟩,hZ,HO5.out,HO6.out⟩)
    clear hW hbo hbf HEa hr0 hr1 hr2 hr3 hr4 hr5 HT hcz hto
    have hr0:=HEb.out.e.cell 0
    have hr1:=HEb.out.e.cell 1
    have hr2:=HEb.out.e.cell 2
    have hr3:=HEb.out.e.cell 3
    have hr4:=HEb.out.e.cell 4
    have hr5:=HEb.out.e.cell 5
    have hq0:=HEb.out.r.cell 0
    have hq1:=HEb.out.r.cell 1
    have hq2:=HEb.out.r.cell 2
    have hq3:=HEb.out.r.cell 3
    have hq4:=HEb.out.r.cell 4
    have hq5:=HEb.out.r.cell 5
    simp only[Ent.cells,List.getElem?_cons_zero,List.getElem?_cons_succ] at hr0 hr1 hr2 hr3 hr4 hr5 hq0 hq1 hq2 hq3 hq4 hq5
    have hro:=HEb.out.e.old
    have hqo:=HEb.out.r.old
    have hqf:=HEb.out.r.fz
    go_wp2
    exact bodyPost_ret (v:=Ent.val ⟨1,⟨(n1:Int),0⟩,zz,1+(n3:Int),(n4:Int)⟩) (by simp[Ent.val,results,Tryz.results77,go_sem,hq0,hq1,hq2,hq3,hq4,hq5]) rfl ⟨⟨1,⟨(n1:Int),0⟩,zz,1+(n3:Int),(n4:Int)⟩,rfl,HEb.out.ok,HEb.out.c.past (set6_chg9 _ _ _ _ _ _ _ _) (by simp),HEb.out.s.chg HS.out (set6_chg9 _ _ _ _ _ _ _ _) (by simp)⟩
   ·go_wp2_with fail
    refine(srcLabel_any g _ cv l HE9.out.s).mono ?_
    rintro e wa ⟨⟨y1,y2⟩,rfl,hy,hc,hs⟩
    have HEa:=tH (HE9.out.src hc hs)
    have HY:=tH hy
    clear hc hs hy HE9
    have hr0:=HEa.out.e.cell 0
    have hr1:=HEa.out.e.cell 1
    have hr2:=HEa.out.e.cell 2
    have hr3:=HEa.out.e.cell 3
    have hr4:=HEa.out.e.cell 4
    have hr5:=HEa.out.e.cell 5
    simp only[Ent.cells,List.getElem?_cons_zero,List.getElem?_cons_succ] at hr0 hr1 hr2 hr3 hr4 hr5
    have hbo:=HEa.out.e.old
    have hbf:=HEa.out.e.fz
    go_upto_region 15 with fail
    refine gen_world (fun wb hW=>?_)
    have HEb:=tH (show EnD w g cv l wb ⟨1,⟨y1,y2⟩,1+(n2:Int),1+(n3:Int),(n4:Int)⟩ by rw[hW];exact HEa.out.put (((Chg.refl _ _).setCell (.inl (by simp)) _).setCell (.inl (by simp)) _) ((HEa.out.e.set 1 _).set 2 _) ⟨HO1.out,HY.out,HO4.out,HO5.out,HO6.out⟩)
    clear hW hbo hbf HEa hr0 hr1 hr2 hr3 hr4 hr5
    have hr0:=HEb.out.e.cell 0
    have hr1:=HEb.out.e.cell 1
    have hr2:=HEb.out.e.cell 2
    have hr3:=HEb.out.e.cell 3
    have hr4:=HEb.out.e.cell 4
    have hr5:=HEb.out.e.cell 5
    have hq0:=HEb.out.r.cell 0
    have hq1:=HEb.out.r.cell 1
    have hq2:=HEb.out.r.cell 2
    have hq3:=HEb.out.r.cell 3
    have hq4:=HEb.out.r.cell 4
    have hq5:=HEb.out.r.cell 5
    simp only[Ent.cells,List.getElem?_cons_zero,List.getElem?_cons_succ] at hr0 hr1 hr2 hr3 hr4 hr5 hq0 hq1 hq2 hq3 hq4 hq5
    have hro:=HEb.out.e.old
    have hqo:=HEb.out.r.old
    have hqf:=HEb.out.r.fz
    go_wp2
    exact bodyPost_ret (v:=Ent.val ⟨1,⟨y1,y2⟩,1+(n2:Int),1+(n3:Int),(n4:Int)⟩) (by simp[Ent.val,results,Tryz.results77,go_sem,hq0,hq1,hq2,hq3,hq4,hq5]) rfl ⟨⟨1,⟨y1,y2⟩,1+(n2:Int),1+(n3:Int),(n4:Int)⟩,rfl,HEb.out.ok,HEb.out.c.past (set6_chg9 _ _ _ _ _ _ _ _) (by simp),HEb.out.s.chg HS.out (set6_chg9 _ _ _ _ _ _ _ _) (by simp)⟩
 ·skip
  go_wp2_with fail
  refine(srcN' g 2 _ cv l HE.out.s H2.out).mono ?_
  rintro e w3 ⟨n1,rfl,hb,hc,hs⟩
  have HE3:=tH (HE.out.src hc hs)
  have hn1:n1 < 2:=by omega
  clear hc hs hb HE
  go_wp2_with fail
  refine(srcN' g 3 _ cv l HE3.out.s H3.out).mono ?_
  rintro e w4 ⟨n2,rfl,hb,hc,hs⟩
  have HE4:=tH (HE3.out.src hc hs)
  have hn2:n2 < 3:=by omega
  clear hc hs hb HE3
  have hw2:wrap64 (1+(n2:Int))=1+(n2:Int):=by unfold wrap64;omega
  go_wp2_with fail
  refine(srcN' g 3 _ cv l (HE4.out.s.ext ((Ext.refl _).alloc _)) H3.out).mono ?_
  rintro e w6 ⟨n3,rfl,hb,hc,hs⟩
  have HE6:=tH ((HE4.out.ext ((Ext.refl w4).alloc (.cells #[(.int .i64 1),(.int .i64 3),(.int .i64 4)] 2))).src hc hs)
  have HT:=tH ((Blk.new (w:=w4) (cs:=#[(.int .i64 1),(.int .i64 3),(.int .i64 4)]) (ty:=2) rfl).chg hc (by have:=HE4.out.s.old;unfold World.old at this;simp;omega))
  have hN3:n3 < 3:=by omega
  obtain⟨z,hZ,hcz⟩:∃ z:Int,I64 z∧w6.cell? ⟨w4.heap.size,n3,none⟩=some (.int .i64 z):=by
   have:n3=0∨n3=1∨n3=2:=by omega
   rcases this with h | h | h<;>rw[h,HT.out.cell]<;>(refine⟨_,?_,rfl⟩;unfold I64;omega)
  have hto:=HT.out.old
  clear hc hs hb HE4
  have hr0:=HE6.out.e.cell 0
  have hr1:=HE6.out.e.cell 1
  have hr2:=HE6.out.e.cell 2
  have hr3:=HE6.out.e.cell 3
  have hr4:=HE6.out.e.cell 4
  have hr5:=HE6.out.e.cell 5
  simp only[Ent.cells,List.getElem?_cons_zero,List.getElem?_cons_succ] at hr0 hr1 hr2 hr3 hr4 hr5
  have hbo:=HE6.out.e.old
  have hbf:=HE6.out.e.fz
  go_upto_region 8 with fail
  refine gen_world (fun w7 hW=>?_)
  have HE7:=tH (show EnD w g cv l w7 ⟨2,⟨(n1:Int),0⟩,1+(n2:Int),z,0⟩ by rw[hW];exact HE6.out.put (set6_chg9 _ _ _ _ _ _ _ _) (set6_blk9 HE6.out.e _ _ _ _ _ _) ⟨by unfold I64;simp only;omega,⟨by unfold I64;simp only;omega,by unfold I64;simp only;omega⟩,by unfold I64;simp only;omega,hZ,by unfold I64;simp only;omega⟩)
  clear hW hbo hbf HE6 hw2 hr0 hr1 hr2 hr3 hr4 hr5 HT hcz hto hN3
  go_wp2_with fail
  refine(srcOne_any g 15 _ cv l HE7.out.s H15.out).mono ?_
  rintro e w8 ⟨b,rfl,hc,hs⟩
  have HE8:=tH (HE7.out.src hc hs)
  clear hc hs HE7
  cases b
  ·skip
   have hr0:=HE8.out.e.cell 0
   have hr1:=HE8.out.e.cell 1
   have hr2:=HE8.out.e.cell 2
   have hr3:=HE8.out.e.cell 3
   have hr4:=HE8.out.e.cell 4
   have hr5:=HE8.out.e.cell 5
   have hq0:=HE8.out.r.cell 0
   have hq1:=HE8.out.r.cell 1
   have hq2:=HE8.out.r.cell 2
   have hq3:=HE8.out.r.cell 3
   have hq4:=HE8.out.r.cell 4
   have hq5:=HE8.out.r.cell 5
   simp only[Ent.cells,List.getElem?_cons_zero,List.getElem?_cons_succ] at hr0 hr1 hr2 hr3 hr4 hr5 hq0 hq1 hq2 hq3 hq4 hq5
   have hro:=HE8.out.e.old
   have hqo:=HE8.out.r.old
   have hqf:=HE8.out.r.fz
   go_wp2
   exact bodyPost_ret (v:=Ent.val ⟨2,⟨(n1:Int),0⟩,1+(n2:Int),z,0⟩) (by simp[Ent.val,results,Tryz.results77,go_sem,hq0,hq1,hq2,hq3,hq4,hq5]) rfl ⟨⟨2,⟨(n1:Int),0⟩,1+(n2:Int),z,0⟩,rfl,HE8.out.ok,HE8.out.c.past (set6_chg9 _ _ _ _ _ _ _ _) (by simp),HE8.out.s.chg HS.out (set6_chg9 _ _ _ _ _ _ _ _) (by simp)⟩
  ·skip
   go_wp2_with fail
   refine(srcN' g 3 _ cv l HE8.out.s H3.out).mono ?_
   rintro e w9 ⟨q,rfl,hb,hc,hs⟩
   have HE9:=tH (HE8.out.src hc hs)
   have hq:q < 3:=by omega
   clear hc hs hb HE8
   generalize hkq:(q:Int)=kq at *
   have hkq2:kq=0∨kq=1∨kq=2:=by omega
   clear hkq hq
   have hok:=HE9.out.ok
   unfold Ent.ok at hok
   obtain⟨ho1,⟨ho2,ho3⟩,ho4,ho5,ho6⟩:=hok
   simp only at ho1 ho2 ho3 ho4 ho5 ho6
   have HO1:=tH ho1
   have HO2:=tH ho2
   have HO3:=tH ho3
   have HO4:=tH ho4
   have HO5:=tH ho5
   have HO6:=tH ho6
   clear ho1 ho2 ho3 ho4 ho5 ho6
   rcases hkq2 with rfl | rfl | rfl
   ·skip
    go_wp2_with fail
    refine(srcN' g 5 _ cv l HE9.out.s H5.out).mono ?_
    rintro e wa ⟨f,rfl,hb,hc,hs⟩
    have HEa:=tH (HE9.out.src hc hs)
    have hf:f < 5:=by omega
    clear hc hs hb HE9
    have hr0:=HEa.out.e.cell 0
    have hr1:=HEa.out.e.cell 1
    have hr2:=HEa.out.e.cell 2
    have hr3:=HEa.out.e.cell 3
    have hr4:=HEa.out.e.cell 4
    have hr5:=HEa.out.e.cell 5
    simp only[Ent.cells,List.getElem?_cons_zero,List.getElem?_cons_succ] at hr0 hr1 hr2 hr3 hr4 hr5
    have hbo:=HEa.out.e.old
    have hbf:=HEa.out.e.fz
    go_upto_region 15 with fail
    refine gen_world (fun wb hW=>?_)
    have HEb:=tH (show EnD w g cv l wb ⟨(f:Int),⟨(n1:Int),0⟩,1+(n2:Int),z,0⟩ by rw[hW];exact HEa.out.put ((Chg.refl _ _).setCell (.inl (by simp)) _) (HEa.out.e.set 0 _) ⟨by unfold I64;simp only;omega,⟨HO2.out,HO3.out⟩,HO4.out,HO5.out,HO6.out⟩)
    clear hW hbo hbf HEa hr0 hr1 hr2 hr3 hr4 hr5
    have hr0:=HEb.out.e.cell 0
    have hr1:=HEb.out.e.cell 1
    have hr2:=HEb.out.e.cell 2
    have hr3:=HEb.out.e.cell 3
    have hr4:=HEb.out.e.cell 4
    have hr5:=HEb.out.e.cell 5
    have hq0:=HEb.out.r.cell 0
    have hq1:=HEb.out.r.cell 1
    have hq2:=HEb.out.r.cell 2
    have hq3:=HEb.out.r.cell 3
    have hq4:=HEb.out.r.cell 4
    have hq5:=HEb.out.r.cell 5
    simp only[Ent.cells,List.getElem?_cons_zero,List.getElem?_cons_succ] at hr0 hr1 hr2 hr3 hr4 hr5 hq0 hq1 hq2 hq3 hq4 hq5
    have hro:=HEb.out.e.old
    have hqo:=HEb.out.r.old
    have hqf:=HEb.out.r.fz
    go_wp2
    exact bodyPost_ret (v:=Ent.val ⟨(f:Int),⟨(n1:Int),0⟩,1+(n2:Int),z,0⟩) (by simp[Ent.val,results,Tryz.results77,go_sem,hq0,hq1,hq2,hq3,hq4,hq5]) rfl ⟨⟨(f:Int),⟨(n1:Int),0⟩,1+(n2:Int),z,0⟩,rfl,HEb.out.ok,HEb.out.c.past (set6_chg9 _ _ _ _ _ _ _ _) (by simp),HEb.out.s.chg HS.out (set6_chg9 _ _ _ _ _ _ _ _) (by simp)⟩
   ·skip
    go_wp2_with fail
    refine(srcN' g 3 _ cv l (HE9.out.s.ext ((Ext.refl _).alloc _)) H3.out).mono ?_
    rintro e wa ⟨f,rfl,hb,hc,hs⟩
    have HEa:=tH ((HE9.out.ext ((Ext.refl w9).alloc (.cells #[(.int .i64 (-1)),(.int .i64 100),(.int .i64 101)] 2))).src hc hs)
    have HT:=tH ((Blk.new (w:=w9) (cs:=#[(.int .i64 (-1)),(.int .i64 100),(.int .i64 101)]) (ty:=2) rfl).chg hc (by have:=HE9.out.s.old;unfold World.old at this;simp;omega))
    have hN3:f < 3:=by omega
    obtain⟨zz,hZ,hcz⟩:∃ z:Int,I64 z∧wa.cell? ⟨w9.heap.size,f,none⟩=some (.int .i64 z):=by
     have:f=0∨f=1∨f=2:=by omega
     rcases this with h | h | h<;>rw[h,HT.out.cell]<;>(refine⟨_,?_,rfl⟩;unfold I64;omega)
    have hto:=HT.out.old
    clear hc hs hb HE9
    have hr0:=HEa.out.e.cell 0
    have hr1:=HEa.out.e.cell 1
    have hr2:=HEa.out.e.cell 2
    have hr3:=HEa.out.e.cell 3
    have hr4:=HEa.out.e.cell 4
    have hr5:=HEa.out.e.cell 5
    simp only[Ent.cells,List.getElem?_cons_zero,List.getElem?_cons_succ] at hr0 hr1 hr2 hr3 hr4 hr5
    have hbo:=HEa.out.e.old
    have hbf:=HEa.out.e.fz
    go_upto_region 15 with fail
    refine gen_world (fun wb hW=>?_)
    have HEb:=tH (show EnD w g cv l wb ⟨2,⟨(n1:Int),0⟩,zz,z,0⟩ by rw[hW];exact HEa.out.put ((Chg.refl _ _).setCell (.inl (by simp)) _) (HEa.out.e.set 3 _) ⟨HO1.out,⟨HO2.out,HO3.out⟩,hZ,HO5.out,HO6.out⟩)
    clear hW hbo hbf HEa hr0 hr1 hr2 hr3 hr4 hr5 HT hcz hto
    have hr0:=HEb.out.e.cell 0
    have hr1:=HEb.out.e.cell 1
    have hr2:=HEb.out.e.cell 2
    have hr3:=HEb.out.e.cell 3
    have hr4:=HEb.out.e.cell 4
    have hr5:=HEb.out.e.cell 5
    have hq0:=HEb.out.r.cell 0
    have hq1:=HEb.out.r.cell 1
    have hq2:=HEb.out.r.cell 2
    have hq3:=HEb.out.r.cell 3
    have hq4:=HEb.out.r.cell 4
    have hq5:=HEb.out.r.cell 5
    simp only[Ent.cells,List.getElem?_cons_zero,List.getElem?_cons_succ] at hr0 hr1 hr2 hr3 hr4 hr5 hq0 hq1 hq2 hq3 hq4 hq5
    have hro:=HEb.out.e.old
    have hqo:=HEb.out.r.old
    have hqf:=HEb.out.r.fz
    go_wp2
    exact bodyPost_ret (v:=Ent.val ⟨2,⟨(n1:Int),0⟩,zz,z,0⟩) (by simp[Ent.val,results,Tryz.results77,go_sem,hq0,hq1,hq2,hq3,hq4,hq5]) rfl ⟨⟨2,⟨(n1:Int),0⟩,zz,z,0⟩,rfl,HEb.out.ok,HEb.out.c.past (set6_chg9 _ _ _ _ _ _ _ _) (by simp),HEb.out.s.chg HS.out (set6_chg9 _ _ _ _ _ _ _ _) (by simp)⟩
   ·go_wp2_with fail
    refine(srcLabel_any g _ cv l HE9.out.s).mono ?_
    rintro e wa ⟨⟨y1,y2⟩,rfl,hy,hc,hs⟩
    have HEa:=tH (HE9.out.src hc hs)
    have HY:=tH hy
    clear hc hs hy HE9
    have hr0:=HEa.out.e.cell 0
    have hr1:=HEa.out.e.cell 1
    have hr2:=HEa.out.e.cell 2
    have hr3:=HEa.out.e.cell 3
    have hr4:=HEa.out.e.cell 4
    have hr5:=HEa.out.e.cell 5
    simp only[Ent.cells,List.getElem?_cons_zero,List.getElem?_cons_succ] at hr0 hr1 hr2 hr3 hr4 hr5
    have hbo:=HEa.out.e.old
    have hbf:=HEa.out.e.fz
    go_upto_region 15 with fail
    refine gen_world (fun wb hW=>?_)
    have HEb:=tH (show EnD w g cv l wb ⟨2,⟨y1,y2⟩,1+(n2:Int),z,0⟩ by rw[hW];exact HEa.out.put (((Chg.refl _ _).setCell (.inl (by simp)) _).setCell (.inl (by simp)) _) ((HEa.out.e.set 1 _).set 2 _) ⟨HO1.out,HY.out,HO4.out,HO5.out,HO6.out⟩)
    clear hW hbo hbf HEa hr0 hr1 hr2 hr3 hr4 hr5
    have hr0:=HEb.out.e.cell 0
    have hr1:=HEb.out.e.cell 1
    have hr2:=HEb.out.e.cell 2
    have hr3:=HEb.out.e.cell 3
    have hr4:=HEb.out.e.cell 4
    have hr5:=HEb.out.e.cell 5
    have hq0:=HEb.out.r.cell 0
    have hq1:=HEb.out.r.cell 1
    have hq2:=HEb.out.r.cell 2
    have hq3:=HEb.out.r.cell 3
    have hq4:=HEb.out.r.cell 4
    have hq5:=HEb.out.r.cell 5
    simp only[Ent.cells,List.getElem?_cons_zero,List.getElem?_cons_succ] at hr0 hr1 hr2 hr3 hr4 hr5 hq0 hq1 hq2 hq3 hq4 hq5
    have hro:=HEb.out.e.old
    have hqo:=HEb.out.r.old
    have hqf:=HEb.out.r.fz
    go_wp2
    exact bodyPost_ret (v:=Ent.val ⟨2,⟨y1,y2⟩,1+(n2:Int),z,0⟩) (by simp[Ent.val,results,Tryz.results77,go_sem,hq0,hq1,hq2,hq3,hq4,hq5]) rfl ⟨⟨2,⟨y1,y2⟩,1+(n2:Int),z,0⟩,rfl,HEb.out.ok,HEb.out.c.past (set6_chg9 _ _ _ _ _ _ _ _) (by simp),HEb.out.s.chg HS.out (set6_chg9 _ _ _ _ _ _ _ _) (by simp)⟩
 ·skip
  go_wp2_with fail
  refine(srcOne_any g 15 _ cv l HE.out.s H15.out).mono ?_
  rintro e w8 ⟨b,rfl,hc,hs⟩
  have HE8:=tH (HE.out.src hc hs)
  clear hc hs HE
  cases b
  ·skip
   have hr0:=HE8.out.e.cell 0
   have hr1:=HE8.out.e.cell 1
   have hr2:=HE8.out.e.cell 2
   have hr3:=HE8.out.e.cell 3
   have hr4:=HE8.out.e.cell 4
   have hr5:=HE8.out.e.cell 5
   have hq0:=HE8.out.r.cell 0
   have hq1:=HE8.out.r.cell 1
   have hq2:=HE8.out.r.cell 2
   have hq3:=HE8.out.r.cell 3
   have hq4:=HE8.out.r.cell 4
   have hq5:=HE8.out.r.cell 5
   simp only[Ent.cells,List.getElem?_cons_zero,List.getElem?_cons_succ] at hr0 hr1 hr2 hr3 hr4 hr5 hq0 hq1 hq2 hq3 hq4 hq5
   have hro:=HE8.out.e.old
   have hqo:=HE8.out.r.old
   have hqf:=HE8.out.r.fz
   go_wp2
   exact bodyPost_ret (v:=Ent.val ⟨3,⟨0,0⟩,0,0,0⟩) (by simp[Ent.val,results,Tryz.results77,go_sem,hq0,hq1,hq2,hq3,hq4,hq5]) rfl ⟨⟨3,⟨0,0⟩,0,0,0⟩,rfl,HE8.out.ok,HE8.out.c.past (set6_chg9 _ _ _ _ _ _ _ _) (by simp),HE8.out.s.chg HS.out (set6_chg9 _ _ _ _ _ _ _ _) (by simp)⟩
  ·skip
   go_wp2_with fail
   refine(srcN' g 3 _ cv l HE8.out.s H3.out).mono ?_
   rintro e w9 ⟨q,rfl,hb,hc,hs⟩
   have HE9:=tH (HE8.out.src hc hs)
   have hq:q < 3:=by omega
   clear hc hs hb HE8
   generalize hkq:(q:Int)=kq at *
   have hkq2:kq=0∨kq=1∨kq=2:=by omega
   clear hkq hq
   have hok:=HE9.out.ok
   unfold Ent.ok at hok
   obtain⟨ho1,⟨ho2,ho3⟩,ho4,ho5,ho6⟩:=hok
   simp only at ho1 ho2 ho3 ho4 ho5 ho6
   have HO1:=tH ho1
   have HO2:=tH ho2
   have HO3:=tH ho3
   have HO4:=tH ho4
   have HO5:=tH ho5
   have HO6:=tH ho6
   clear ho1 ho2 ho3 ho4 ho5 ho6
   rcases hkq2 with rfl | rfl | rfl
   ·skip
    go_wp2_with fail
    refine(srcN' g 5 _ cv l HE9.out.s H5.out).mono ?_
    rintro e wa ⟨f,rfl,hb,hc,hs⟩
    have HEa:=tH (HE9.out.src hc hs)
    have hf:f < 5:=by omega
    clear hc hs hb HE9
    have hr0:=HEa.out.e.cell 0
    have hr1:=HEa.out.e.cell 1
    have hr2:=HEa.out.e.cell 2
    have hr3:=HEa.out.e.cell 3
    have hr4:=HEa.out.e.cell 4
    have hr5:=HEa.out.e.cell 5
    simp only[Ent.cells,List.getElem?_cons_zero,List.getElem?_cons_succ] at hr0 hr1 hr2 hr3 hr4 hr5
    have hbo:=HEa.out.e.old
    have hbf:=HEa.out.e.fz
    go_upto_region 15 with fail
    refine gen_world (fun wb hW=>?_)
    have HEb:=tH (show EnD w g cv l wb ⟨(f:Int),⟨0,0⟩,0,0,0⟩ by rw[hW];exact HEa.out.put ((Chg.refl _ _).setCell (.inl (by simp)) _) (HEa.out.e.set 0 _) ⟨by unfold I64;simp only;omega,⟨HO2.out,HO3.out⟩,HO4.out,HO5.out,HO6.out⟩)
    clear hW hbo hbf HEa hr0 hr1 hr2 hr3 hr4 hr5
    have hr0:=HEb.out.e.cell 0
    have hr1:=HEb.out.e.cell 1
    have hr2:=HEb.out.e.cell 2
    have hr3:=HEb.out.e.cell 3
    have hr4:=HEb.out.e.cell 4
    have hr5:=HEb.out.e.cell 5
    have hq0:=HEb.out.r.cell 0
    have hq1:=HEb.out.r.cell 1
    have hq2:=HEb.out.r.cell 2
    have hq3:=HEb.out.r.cell 3
    have hq4:=HEb.out.r.cell 4
    have hq5:=HEb.out.r.cell 5
    simp only[Ent.cells,List.getElem?_cons_zero,List.getElem?_cons_succ] at hr0 hr1 hr2 hr3 hr4 hr5 hq0 hq1 hq2 hq3 hq4 hq5
    have hro:=HEb.out.e.old
    have hqo:=HEb.out.r.old
    have hqf:=HEb.out.r.fz
    go_wp2
    exact bodyPost_ret (v:=Ent.val ⟨(f:Int),⟨0,0⟩,0,0,0⟩) (by simp[Ent.val,results,Tryz.results77,go_sem,hq0,hq1,hq2,hq3,hq4,hq5]) rfl ⟨⟨(f:Int),⟨0,0⟩,0,0,0⟩,rfl,HEb.out.ok,HEb.out.c.past (set6_chg9 _ _ _ _ _ _ _ _) (by simp),HEb.out.s.chg HS.out (set6_chg9 _ _ _ _ _ _ _ _) (by simp)⟩
   ·skip
    go_wp2_with fail
    refine(srcN' g 3 _ cv l (HE9.out.s.ext ((Ext.refl _).alloc _)) H3.out).mono ?_
    rintro e wa ⟨f,rfl,hb,hc,hs⟩
    have HEa:=tH ((HE9.out.ext ((Ext.refl w9).alloc (.cells #[(.int .i64 (-1)),(.int .i64 100),(.int .i64 101)] 2))).src hc hs)
    have HT:=tH ((Blk.new (w:=w9) (cs:=#[(.int .i64 (-1)),(.int .i64 100),(.int .i64 101)]) (ty:=2) rfl).chg hc (by have:=HE9.out.s.old;unfold World.old at this;simp;omega))
    have hN3:f < 3:=by omega
    obtain⟨zz,hZ,hcz⟩:∃ z:Int,I64 z∧wa.cell? ⟨w9.heap.size,f,none⟩=some (.int .i64 z):=by
     have:f=0∨f=1∨f=2:=by omega
     rcases this with h | h | h<;>rw[h,HT.out.cell]<;>(refine⟨_,?_,rfl⟩;unfold I64;omega)
    have hto:=HT.out.old
    clear hc hs hb HE9
    have hr0:=HEa.out.e.cell 0
    have hr1:=HEa.out.e.cell 1
    have hr2:=HEa.out.e.cell 2
    have hr3:=HEa.out.e.cell 3
    have hr4:=HEa.out.e.cell 4
    have hr5:=HEa.out.e.cell 5
    simp only[Ent.cells,List.getElem?_cons_zero,List.getElem?_cons_succ] at hr0 hr1 hr2 hr3 hr4 hr5
    have hbo:=HEa.out.e.old
    have hbf:=HEa.out.e.fz
    go_upto_region 15 with fail
    refine gen_world (fun wb hW=>?_)
    have HEb:=tH (show EnD w g cv l wb ⟨3,⟨0,0⟩,zz,0,0⟩ by rw[hW];exact HEa.out.put ((Chg.refl _ _).setCell (.inl (by simp)) _) (HEa.out.e.set 3 _) ⟨HO1.out,⟨HO2.out,HO3.out⟩,hZ,HO5.out,HO6.out⟩)
    clear hW hbo hbf HEa hr0 hr1 hr2 hr3 hr4 hr5 HT hcz hto
    have hr0:=HEb.out.e.cell 0
    have hr1:=HEb.out.e.cell 1
    have hr2:=HEb.out.e.cell 2
    have hr3:=HEb.out.e.cell 3
    have hr4:=HEb.out.e.cell 4
    have hr5:=HEb.out.e.cell 5
    have hq0:=HEb.out.r.cell 0
    have hq1:=HEb.out.r.cell 1
    have hq2:=HEb.out.r.cell 2
    have hq3:=HEb.out.r.cell 3
    have hq4:=HEb.out.r.cell 4
    have hq5:=HEb.out.r.cell 5
    simp only[Ent.cells,List.getElem?_cons_zero,List.getElem?_cons_succ] at hr0 hr1 hr2 hr3 hr4 hr5 hq0 hq1 hq2 hq3 hq4 hq5
    have hro:=HEb.out.e.old
    have hqo:=HEb.out.r.old
    have hqf:=HEb.out.r.fz
    go_wp2
    exact bodyPost_ret (v:=Ent.val ⟨3,⟨0,0⟩,zz,0,0⟩) (by simp[Ent.val,results,Tryz.results77,go_sem,hq0,hq1,hq2,hq3,hq4,hq5]) rfl ⟨⟨3,⟨0,0⟩,zz,0,0⟩,rfl,HEb.out.ok,HEb.out.c.past (set6_chg9 _ _ _ _ _ _ _ _) (by simp),HEb.out.s.chg HS.out (set6_chg9 _ _ _ _ _ _ _ _) (by simp)⟩
   ·go_wp2_with fail
    refine(srcLabel_any g _ cv l HE9.out.s).mono ?_
    rintro e wa ⟨⟨y1,y2⟩,rfl,hy,hc,hs⟩
    have HEa:=tH (HE9.out.src hc hs)
    have HY:=tH hy
    clear hc hs hy HE9
    have hr0:=HEa.out.e.cell 0
    have hr1:=HEa.out.e.cell 1
    have hr2:=HEa.out.e.cell 2
    have hr3:=HEa.out.e.cell 3
    have hr4:=HEa.out.e.cell 4
    have hr5:=HEa.out.e.cell 5
    simp only[Ent.cells,List.getElem?_cons_zero,List.getElem?_cons_succ] at hr0 hr1 hr2 hr3 hr4 hr5
    have hbo:=HEa.out.e.old
    have hbf:=HEa.out.e.fz
    go_upto_region 15 with fail
    refine gen_world (fun wb hW=>?_)
    have HEb:=tH (show EnD w g cv l wb ⟨3,⟨y1,y2⟩,0,0,0⟩ by rw[hW];exact HEa.out.put (((Chg.refl _ _).setCell (.inl (by simp)) _).setCell (.inl (by simp)) _) ((HEa.out.e.set 1 _).set 2 _) ⟨HO1.out,HY.out,HO4.out,HO5.out,HO6.out⟩)
    clear hW hbo hbf HEa hr0 hr1 hr2 hr3 hr4 hr5
    have hr0:=HEb.out.e.cell 0
    have hr1:=HEb.out.e.cell 1
    have hr2:=HEb.out.e.cell 2
    have hr3:=HEb.out.e.cell 3
    have hr4:=HEb.out.e.cell 4
    have hr5:=HEb.out.e.cell 5
    have hq0:=HEb.out.r.cell 0
    have hq1:=HEb.out.r.cell 1
    have hq2:=HEb.out.r.cell 2
    have hq3:=HEb.out.r.cell 3
    have hq4:=HEb.out.r.cell 4
    have hq5:=HEb.out.r.cell 5
    simp only[Ent.cells,List.getElem?_cons_zero,List.getElem?_cons_succ] at hr0 hr1 hr2 hr3 hr4 hr5 hq0 hq1 hq2 hq3 hq4 hq5
    have hro:=HEb.out.e.old
    have hqo:=HEb.out.r.old
    have hqf:=HEb.out.r.fz
    go_wp2
    exact bodyPost_ret (v:=Ent.val ⟨3,⟨y1,y2⟩,0,0,0⟩) (by simp[Ent.val,results,Tryz.results77,go_sem,hq0,hq1,hq2,hq3,hq4,hq5]) rfl ⟨⟨3,⟨y1,y2⟩,0,0,0⟩,rfl,HEb.out.ok,HEb.out.c.past (set6_chg9 _ _ _ _ _ _ _ _) (by simp),HEb.out.s.chg HS.out (set6_chg9 _ _ _ _ _ _ _ _) (by simp)⟩
end Go.Proofs.YtdoeoojjabnboaaGreat
