/- The draws of labels. -/
import Derived.Test.YtocadhcggkbimaaDoorLL
set_option maxRecDepth 100000
set_option linter.unusedVariables false
namespace Go.Proofs.YtocadhcggkbimaaDoor
open Go.RowKit Go.Fin1
set_option maxHeartbeats 1600000 in
theorem drawLabelText_any (v : Value) (l : List Int) (w : World) (h : SlR w 1 rU8 v l) (hl : l.length ≤ 1048576) :
    Calls Tryd.prog 8 #[v] w fun e w' => ∃ x : Lab, e = .returned (.agg #[(.int .i64 x.lv), (.int .i64 x.st)]) ∧ x.ok ∧ Ext w w' := by
  have HS := Lib.hid h
  clear h
  go_enter Tryd.func8, Tryd.ntmps8
  go_wp2_with fail
  refine (l01Source_any v l _ (HS.out.ext rU8_stable (by repeat (first | exact Ext.refl _ | apply Ext.plus | apply Ext.alloc | apply Ext.drew))) hl).mono ?_
  rintro e w2 ⟨g, rfl, hg, hx, hs⟩
  have hgr : w.heap.size < g := by simp at hg; omega
  have HG := Lib.hid hgr
  have HB2 := Lib.hid (heap_ext (heap_alloc_new w (.cells #[(.int .i64 0), (.int .i64 0)] 24)) hx)
  have HX := Lib.hid ((Ext.refl w).alloc (.cells #[(.int .i64 0), (.int .i64 0)] 24) |>.trans hx)
  have HA := Lib.hid hs
  clear hx hs hg hgr
  go_wp2_with fail
  refine (srcLabel_any g _ v l HA.out).mono ?_
  rintro e w3 ⟨x, rfl, hxo, hc, hs⟩
  have HC := Lib.hid hc
  have HXO := Lib.hid hxo
  have hb4 := heap_chg HB2.out hc (by have := HG.out; simp; omega)
  clear hc hs hxo HB2 HA
  obtain ⟨c0, c1, hf, ho⟩ := box2_cells hb4
  clear hb4
  go_wp2
  exact bodyPost_ret (v := .agg #[(.int .i64 x.lv), (.int .i64 x.st)]) (by simp [results, Tryd.results8, go_sem, c0, c1]) rfl ⟨x, rfl, HXO.out, (set2_chg _ _ _ _).ext (HC.out.ext HX.out (by have := HG.out; simp; omega)) (by simp)⟩
set_option maxHeartbeats 3200000 in
theorem drawBelow_any (v : Value) (l : List Int) (w : World) (h : SlR w 1 rU8 v l) (hl : l.length ≤ 1048576) :
    Calls Tryd.prog 7 #[v] w fun e w' => ∃ x y : Lab, e = .returned (.tuple #[.agg #[(.int .i64 x.lv), (.int .i64 x.st)], .agg #[(.int .i64 y.lv), (.int .i64 y.st)]]) ∧ x.ok ∧ y.ok ∧ Ext w w' := by
  have HS := Lib.hid h
  clear h
  go_enter Tryd.func7, Tryd.ntmps7
  go_wp2_with fail
  refine (l01Source_any v l _ (HS.out.ext rU8_stable (by repeat (first | exact Ext.refl _ | apply Ext.plus | apply Ext.alloc | apply Ext.drew))) hl).mono ?_
  rintro e w2 ⟨g, rfl, hg, hx, hs⟩
  have hgr : w.heap.size + 1 < g := by simp at hg; omega
  have HG := Lib.hid hgr
  have HGW := Lib.hid hg
  have HB2 := Lib.hid (heap_ext (heap_alloc_new (w.alloc (.cells #[(.int .i64 0), (.int .i64 0)] 24)) (.cells #[(.int .i64 0), (.int .i64 0)] 24)) hx)
  have HB1 := Lib.hid (heap_ext (heap_alloc_new w (.cells #[(.int .i64 0), (.int .i64 0)] 24)) (((Ext.refl _).alloc (.cells #[(.int .i64 0), (.int .i64 0)] 24)).trans hx))
  have HX := Lib.hid ((Ext.refl w).alloc (.cells #[(.int .i64 0), (.int .i64 0)] 24) |>.alloc (.cells #[(.int .i64 0), (.int .i64 0)] 24) |>.trans hx)
  have HA := Lib.hid hs
  clear hx hs hg hgr
  go_wp2_with fail
  refine (srcLabel_any g _ v l HA.out).mono ?_
  rintro e w3 ⟨x, rfl, hxo, hc, hs⟩
  have HXO := Lib.hid hxo
  have HC := Lib.hid hc
  have HA4 := Lib.hid hs
  have HAo := Lib.hid hs.old
  have HB1' := Lib.hid (heap_chg HB1.out hc (by have := HG.out; simp; omega))
  have HB2' := Lib.hid (heap_chg HB2.out hc (by have := HG.out; simp; omega))
  clear hc hs hxo HB1 HB2 HA
  go_upto_region 3 with fail
  have HA4 := Lib.hid (HA4.out.ext ((Ext.refl w3).alloc (.cells #[(.int .i64 x.lv), (.int .i64 x.st)] 24)))
  have HBX := Lib.hid (heap_alloc_new w3 (.cells #[(.int .i64 x.lv), (.int .i64 x.st)] 24))
  have HZ : Hid (w.heap.size + 1 < w3.heap.size ∧ g < w3.heap.size) := Lib.hid (by have := (Array.getElem?_eq_some_iff.1 HB2'.out).1; have := HAo.out; simp at *; omega)
  (refine wp_region_l (R := SrcR g v l) (SrcR.trans) 3 [(fun u _ => u = (.agg #[(.int .i64 x.lv), (.int .i64 x.st)])), (fun u _ => u = (.pointer (some ⟨g, 0, none⟩))), kLab] (by kernel_rfl) (by kernel_rfl) (by kernel_rfl) rfl ?_ (by repeat' (first | exact trivial | exact XReg.GoodKL.same _ _ default | exact kI64_good | exact kLt_good (by decide) | exact kArr_good | exact kPt_good (by decide) | exact kLab_goodL | refine And.intro ?_ ?_)) (SrcR.ext (Ext.refl _).drew))
  apply LReg.val (.agg #[(.int .i64 x.lv), (.int .i64 x.st)])
  case h =>
    intro w' hw' hF'
    have hb := heap_chg HBX.out hw'.1 (by have := HZ.out; simp; omega)
    have HW' := Lib.hid hw'
    obtain ⟨c0, c1, hf, ho⟩ := box2_cells hb
    clear hb hF' hw'
    go_wp2_with fail
    exact ⟨rfl, SrcR.ext (by repeat (first | exact Ext.refl _ | apply Ext.plus | apply Ext.alloc | apply Ext.drew))⟩
  case hv => kernel_rfl
  (apply LReg.val (.pointer (some ⟨g, 0, none⟩)); (case h => (intro w' hw' hF'; have HW' := Lib.hid hw'; clear hF' hw'; go_wp2_with fail; exact ⟨rfl, SrcR.ext (by repeat (first | exact Ext.refl _ | apply Ext.plus | apply Ext.alloc | apply Ext.drew))⟩)); (case hv => kernel_rfl))
  refine LReg.kind (fun w' hw' hF' => ?_) (fun v1 w1 hK => ?_)
  · have HW' := Lib.hid (hw'.2 HA4.out)
    clear hF' hw'
    go_wp2_with fail
    refine (srcLabel_any g _ v l (HW'.out.ext (by repeat (first | exact Ext.refl _ | apply Ext.plus | apply Ext.alloc | apply Ext.drew)))).mono ?_
    rintro e w8 ⟨y, rfl, hyo, hc, hs⟩
    have HR8 := Lib.hid (SrcR.of (w := w') (by repeat (first | exact Ext.refl _ | apply Ext.plus | apply Ext.alloc | apply Ext.drew)) hc hs)
    have HY := Lib.hid hyo
    clear hc hs hyo
    go_wp2
    exact ⟨HR8.out, y, rfl, HY.out.1, HY.out.2⟩
  obtain ⟨y, rfl, hy1, hy2⟩ := hK
  clear w1
  refine LReg.done (fun w4 hw9 hF => ?_)
  have HX9 := Lib.hid ((HC.out.trans ((((Ext.refl w3).alloc (.cells #[(.int .i64 x.lv), (.int .i64 x.st)] 24)).chg [g]).trans hw9.1)).ext HX.out (by have := HG.out; simp; omega))
  have hb1 := heap_chg (heap_ext HB1'.out ((Ext.refl w3).alloc (.cells #[(.int .i64 x.lv), (.int .i64 x.st)] 24))) hw9.1 (by have := HG.out; simp; omega)
  have hb2 := heap_chg (heap_ext HB2'.out ((Ext.refl w3).alloc (.cells #[(.int .i64 x.lv), (.int .i64 x.st)] 24))) hw9.1 (by have := HG.out; simp; omega)
  rw [World.size_alloc] at hb2
  obtain ⟨c0, c1, hf, ho⟩ := box2_cells hb1
  obtain ⟨e0, e1, he, ho2⟩ := box2_cells hb2
  clear hb1 hb2 hF hw9
  go_wp2
  exact bodyPost_ret (v := .tuple #[.agg #[(.int .i64 x.lv), (.int .i64 x.st)], .agg #[(.int .i64 y.lv), (.int .i64 y.st)]]) (by simp [results, Tryd.results7, go_sem, c0, c1, e0, e1]) rfl ⟨x, y, rfl, HXO.out, ⟨hy1, hy2⟩, (((((Chg.refl [w.heap.size, w.heap.size + 1] _).setCell (.inl (by simp)) _).setCell (.inl (by simp)) _).setCell (.inl (by simp)) _).setCell (.inl (by simp)) _).ext HX9.out (by simp)⟩
set_option maxHeartbeats 1600000 in
theorem drawJoinOf_any (v : Value) (l : List Int) (w : World) (h : SlR w 1 rU8 v l) (hl : l.length ≤ 1048576) :
    Calls Tryd.prog 4 #[v] w fun e w' => ∃ x y : Lab, e = .returned (.tuple #[.agg #[(.int .i64 x.lv), (.int .i64 x.st)], .agg #[(.int .i64 y.lv), (.int .i64 y.st)]]) ∧ x.ok ∧ y.ok ∧ Ext w w' := by
  have HS := Lib.hid h
  clear h
  go_enter Tryd.func4, Tryd.ntmps4
  go_wp2_with fail
  refine (drawBelow_any v l _ (HS.out.ext rU8_stable (by repeat (first | exact Ext.refl _ | apply Ext.plus | apply Ext.alloc | apply Ext.drew))) hl).mono ?_
  rintro e _ ⟨x, y, rfl, hx, hy, X, rfl⟩
  have HXO := Lib.hid (And.intro hx hy)
  clear hx hy
  go_wp2
  exact bodyPost_ret (v := .tuple #[.agg #[(.int .i64 x.lv), (.int .i64 x.st)], .agg #[(.int .i64 y.lv), (.int .i64 y.st)]]) (by simp [results, Tryd.results4, go_sem]) rfl ⟨x, y, rfl, HXO.out.1, HXO.out.2, (by repeat' (first | exact Ext.refl _ | exact Nat.le_refl _ | (dsimp only; omega) | apply Ext.setCell | apply Ext.plus | apply Ext.alloc | apply Ext.drew))⟩
end Go.Proofs.YtocadhcggkbimaaDoor
