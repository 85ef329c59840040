/- The law of Advance. -/
import Derived.Test.YtagdkpcdagknlaaGreatZZC
import Derived.Test.YtagdkpcdagknlaaGreatAF
import Derived.Test.YtagdkpcdagknlaaGreatAG
import Derived.Test.YtagdkpcdagknlaaGreatRRC
set_option maxRecDepth 100000
set_option linter.unusedVariables false
namespace Go.Proofs.YtagdkpcdagknlaaGreat
open Go.RowKit Go.Fin1
theorem argA {w W : World} {pa pb : Value} {pn : Int} (h : Ext (w.alloc (.cells #[pa, pb, (.int .i64 pn)] 81)) W) :
    W.cell? ⟨w.heap.size, 0, none⟩ = some pa ∧ W.cell? ⟨w.heap.size, 1, none⟩ = some pb ∧ W.cell? ⟨w.heap.size, 2, none⟩ = some (.int .i64 pn) ∧ W.old w.heap.size := by
  have h0 : W.cell? ⟨w.heap.size, 0, none⟩ = some pa := h.cell (by simp [go_sem])
  exact ⟨h0, h.cell (by simp [go_sem]), h.cell (by simp [go_sem]), World.old_of_cell h0⟩
set_option maxHeartbeats 3200000 in
theorem fnAdvance_any (a : Arg Pl) (w : World) (h : ePool w a.v a.x) :
    Calls Tryz.prog 6 #[a.v] w fun e w' => e = .returned (.bool true) ∧ Ext w w' := by
  obtain ⟨v, p⟩ := a
  change ePool w v p at h
  change Calls Tryz.prog 6 #[v] w _
  have HP := Lib.hid h
  obtain ⟨a0, k0, b0, d0, rfl, hnow, h1, h2⟩ := h
  have HI : Hid (I64 p.now ∧ (∀ x ∈ p.clear, ∀ y ∈ x, y.ok) ∧ ∀ j ∈ p.jobs, j.fit) := Lib.hid ⟨hnow, slr_labss h1, slr_jobs h2⟩
  clear h1 h2 hnow
  unfold Pl.val at HP ⊢
  by_cases hf : p.fits 1048576
  · have ht : decide (((1048576 - szL List.length p.clear - szL Jb.sz p.jobs : Nat) : Int) < 0) = false := decide_eq_false (by omega)
    have HRI := Lib.hid (advR_ok p)
    have hmx : wPl p ≤ 64 * 1048576 := by
      have e1 := wL_spans hf.1
      have e2 := wJb_le (Nat.le_trans hf.2 (Nat.sub_le _ _))
      unfold wPl; omega
    generalize hR : advR p = R at HRI
    obtain ⟨RP, RI, RC⟩ := R
    have hmr : wPl RP ≤ 64 * 1048576 := HRI.out.2.2
    have HEQ := Lib.hid hR
    clear hR
    go_enter Tryz.func6, Tryz.ntmps6
    go_wp2_with fail
    refine (szPool_any p _ 1048576 _ (HP.out.ext (by repeat (first | exact Ext.refl _ | apply Ext.plus | apply Ext.alloc | apply Ext.drew))) (Nat.le_refl _)).mono ?_
    rintro e _ ⟨rfl, ⟨X0, rfl⟩⟩
    rw [if_pos hf]
    go_upto_region 5 with fail
    refine gen_world (fun W hWg => ?_)
    have HE0 : Hid (Ext (w.alloc (.cells #[.slice a0 p.clear.length k0, .slice b0 p.jobs.length d0, (.int .i64 p.now)] 81)) W) := Lib.hid (by rw [hWg]; exact (by repeat (first | exact Ext.refl _ | apply Ext.plus | apply Ext.alloc | apply Ext.drew)))
    clear hWg X0
    obtain ⟨B0, hB0⟩ : ∃ B0, B0 = W.heap.size := ⟨_, rfl⟩
    have HB0 := Lib.hid hB0
    clear hB0
    obtain ⟨l0, l1, l2, lo⟩ := argA HE0.out
    go_wp2_with fail
    refine (toPool_any p _ _ ((HP.out.ext (by exact (Ext.refl w).alloc _)).ext (HE0.out.trans (by repeat (first | exact Ext.refl _ | apply Ext.plus | apply Ext.alloc | apply Ext.drew)))) hf).mono ?_
    rintro e _ ⟨c9, j9, fc9, fj9, rfl, ⟨Y9, rfl⟩, hO9⟩
    have H9 := Lib.hid (hO9.e HI.out.1 HI.out.2.1 HI.out.2.2)
    obtain ⟨a3, k3, rfl⟩ := hO9.1.shape
    obtain ⟨b3, d3, rfl⟩ := hO9.2.1.shape
    clear hO9
    unfold Pl.val at H9 ⊢
    go_wp2_with fail
    refine (specAdvance_any p _ _ (H9.out.ext (by repeat (first | exact Ext.refl _ | apply Ext.plus | apply Ext.alloc | apply Ext.drew))) hf).mono ?_
    rintro e _ ⟨cv9, jv9, fw1, fw2, rfl, ⟨Y8, rfl⟩, hO5⟩
    rw [HEQ.out] at hO5 ⊢
    obtain ⟨a5, e5, rfl⟩ := hO5.1.shape
    obtain ⟨b5, d5, rfl⟩ := hO5.2.1.shape
    unfold poV
    go_upto_region 6 with fail
    refine gen_world (fun W5 hW8 => ?_)
    have hfr := CellsAt.fresh ((W.plus Y9).plus Y8) [.slice a5 RP.clear.length e5, .slice b5 RP.jobs.length d5, (.int .i64 RP.now), (.int .i64 RI), (.int .i64 RC)] 44
    have hhi := hO5.high
    have hge : W.heap.size ≤ ((W.plus Y9).plus Y8).heap.size := by simp only [World.size_plus]; omega
    simp only [World.size_plus] at hfr hhi hge
    have hE9 : Ext W W5 := by rw [hW8]; exact (by repeat (first | exact Ext.refl _ | apply Ext.plus | apply Ext.alloc | apply Ext.drew))
    have hO9 : OwnP B0 W5 fw1 fw2 (.slice a5 RP.clear.length e5) (.slice b5 RP.jobs.length d5) RP := by rw [hW8]; exact (hO5.ext ((Ext.refl _).alloc _)).mono (by rw [HB0.out]; (try simp only [World.size_plus]); omega)
    have hB9 : CellsAt W5 (W.heap.size + Y9.n + Y8.n) [.slice a5 RP.clear.length e5, .slice b5 RP.jobs.length d5, (.int .i64 RP.now), (.int .i64 RI), (.int .i64 RC)] := by rw [hW8]; exact hfr
    generalize (W.heap.size + Y9.n + Y8.n) = g4 at hB9 hhi hge ⊢
    have HO4 := Lib.hid hO9
    have HB4 := Lib.hid hB9
    have HG4 : Hid (B0 ≤ g4) := Lib.hid (by rw [HB0.out]; exact hge)
    have HE5 := Lib.hid hE9
    have HN4 : Hid (g4 ∉ fw1 ++ fw2) := Lib.hid (fun hq => Nat.lt_irrefl _ (hhi _ hq))
    clear hW8 hfr hhi hge hE9 hO9 hB9 hO5
    clear l0 l1 l2 lo
    have hO4 := HO4.out
    obtain ⟨B0', hB0'⟩ : ∃ B0', B0' = B0 := ⟨_, rfl⟩
    rw [← hB0'] at hO4
    have HO4 := Lib.hid hO4
    clear hO4 hB0'
    have HW4 : Hid (∀ q ∈ fw1 ++ fw2, q < W5.heap.size) := Lib.hid HO4.out.high
    have HG4' : Hid (g4 < W5.heap.size) := Lib.hid (World.block_lt_of_cell? _ _ (HB4.out 0 _ rfl))
    have HE0' := Lib.hid (HE0.out.trans HE5.out)
    obtain ⟨l0, l1, l2, lo⟩ := argA HE0'.out
    go_wp2_with fail
    refine (toPool_any p _ _ ((HP.out.ext (by exact (Ext.refl w).alloc _)).ext (HE0'.out.trans (by repeat (first | exact Ext.refl _ | apply Ext.plus | apply Ext.alloc | apply Ext.drew)))) hf).mono ?_
    rintro e _ ⟨cx, jx, fx1, fx2, rfl, ⟨X1, rfl⟩, hO⟩
    obtain ⟨ax1, cx1, rfl⟩ := hO.1.shape
    obtain ⟨ax2, cx2, rfl⟩ := hO.2.1.shape
    unfold Pl.val
    clear l0 l1 l2 lo
    go_upto_region 7 with fail
    refine gen_world (fun W hWg => ?_)
    have h13 := CellsAt.fresh (W5.plus X1) [.slice ax1 p.clear.length cx1, .slice ax2 p.jobs.length cx2, (.int .i64 p.now)] 26
    simp only [World.size_plus] at h13
    have HE6 : Hid (Ext W5 W) := Lib.hid (by rw [hWg]; exact (by repeat (first | exact Ext.refl _ | apply Ext.plus | apply Ext.alloc | apply Ext.drew)))
    have hX6 : OwnP W5.heap.size W fx1 fx2 (.slice ax1 p.clear.length cx1) (.slice ax2 p.jobs.length cx2) p := by rw [hWg]; exact hO.ext ((Ext.refl _).alloc _)
    have h13' : CellsAt W (W5.heap.size + X1.n) [.slice ax1 p.clear.length cx1, .slice ax2 p.jobs.length cx2, (.int .i64 p.now)] := by rw [hWg]; exact h13
    have hXH : ∀ q ∈ fx1 ++ fx2, q < W5.heap.size + X1.n := fun q hq => by have := hO.high q hq; simpa using this
    have hge : W5.heap.size ≤ W5.heap.size + X1.n := Nat.le_add_right _ _
    generalize W5.heap.size + X1.n = g13 at h13' hXH hge ⊢
    have HX6 := Lib.hid hX6
    have HB13 := Lib.hid h13'
    have HXH := Lib.hid hXH
    have HG13 := Lib.hid hge
    clear hWg h13 hX6 h13' hXH hge hO
    have HE0 : Hid (Ext (w.alloc (.cells #[.slice a0 p.clear.length k0, .slice b0 p.jobs.length d0, (.int .i64 p.now)] 81)) W) := Lib.hid (HE0'.out.trans HE6.out)
    have HG13' : Hid (g13 < W.heap.size) := Lib.hid (World.block_lt_of_cell? _ _ (HB13.out 0 _ rfl))
    have HXP := Lib.hid (HX6.out.e' ⟨HI.out.1, HI.out.2.1, HI.out.2.2⟩)
    unfold Pl.val at HXP
    obtain ⟨B0, hB0⟩ : ∃ B0, B0 = W.heap.size := ⟨_, rfl⟩
    have HB0 := Lib.hid hB0
    clear hB0
    obtain ⟨l0, l1, l2, lo⟩ := argA HE0.out
    have y0 := HB13.out 0 _ rfl
    have y1 := HB13.out 1 _ rfl
    have y2 := HB13.out 2 _ rfl
    have yo := World.old_of_cell y0
    go_wp2_with fail
    refine (implAdvance_any p _ _ (HXP.out.ext (by repeat (first | exact Ext.refl _ | apply Ext.plus | apply Ext.alloc | apply Ext.drew))) hf).mono ?_
    rintro e _ ⟨cv9, jv9, fg1, fg2, rfl, ⟨Y8, rfl⟩, hO5⟩
    rw [HEQ.out] at hO5 ⊢
    obtain ⟨a6, e6, rfl⟩ := hO5.1.shape
    obtain ⟨b6, d6, rfl⟩ := hO5.2.1.shape
    unfold poV
    go_upto_region 8 with fail
    refine gen_world (fun W7 hW8 => ?_)
    have hfr := CellsAt.fresh (W.plus Y8) [.slice a6 RP.clear.length e6, .slice b6 RP.jobs.length d6, (.int .i64 RP.now), (.int .i64 RI), (.int .i64 RC)] 44
    have hhi := hO5.high
    have hge : W.heap.size ≤ (W.plus Y8).heap.size := by simp only [World.size_plus]; omega
    simp only [World.size_plus] at hfr hhi hge
    have hE9 : Ext W W7 := by rw [hW8]; exact (by repeat (first | exact Ext.refl _ | apply Ext.plus | apply Ext.alloc | apply Ext.drew))
    have hO9 : OwnP B0 W7 fg1 fg2 (.slice a6 RP.clear.length e6) (.slice b6 RP.jobs.length d6) RP := by rw [hW8]; exact (hO5.ext ((Ext.refl _).alloc _)).mono (by rw [HB0.out]; (try simp only [World.size_plus]); omega)
    have hB9 : CellsAt W7 (W.heap.size + Y8.n) [.slice a6 RP.clear.length e6, .slice b6 RP.jobs.length d6, (.int .i64 RP.now), (.int .i64 RI), (.int .i64 RC)] := by rw [hW8]; exact hfr
    generalize (W.heap.size + Y8.n) = g14 at hB9 hhi hge ⊢
    have HO14 := Lib.hid hO9
    have HB14 := Lib.hid hB9
    have HG14 : Hid (B0 ≤ g14) := Lib.hid (by rw [HB0.out]; exact hge)
    have HE7 := Lib.hid hE9
    have HN14 : Hid (g14 ∉ fg1 ++ fg2) := Lib.hid (fun hq => Nat.lt_irrefl _ (hhi _ hq))
    clear hW8 hfr hhi hge hE9 hO9 hB9 hO5
    clear l0 l1 l2 lo y0 y1 y2 yo
    have HE70 : Hid (Ext (w.alloc (.cells #[.slice a0 p.clear.length k0, .slice b0 p.jobs.length d0, (.int .i64 p.now)] 81)) W7) := Lib.hid (HE0.out.trans HE7.out)
    have HE57 : Hid (Ext W5 W7) := Lib.hid (HE6.out.trans HE7.out)
    have HG14u : Hid (g14 < W7.heap.size) := Lib.hid (World.block_lt_of_cell? _ _ (HB14.out 0 _ rfl))
    have HXlt : Hid (∀ q ∈ fx1 ++ fx2, q < B0) := Lib.hid (fun q hq => by have h1 := HXH.out q hq; have h2 := HG13'.out; rw [HB0.out]; omega)
    have HX7 : Hid (OwnP W5.heap.size W7 fx1 fx2 (.slice ax1 p.clear.length cx1) (.slice ax2 p.jobs.length cx2) p) := Lib.hid (HX6.out.ext HE7.out)
    have HW7 : Hid (OwnP B0' W7 fw1 fw2 (.slice a5 RP.clear.length e5) (.slice b5 RP.jobs.length d5) RP) := Lib.hid (HO4.out.ext HE57.out)
    have HB47 := Lib.hid (HB4.out.ext HE57.out)
    have HB137 := Lib.hid (HB13.out.ext HE7.out)
    have h5sz : Hid (W5.heap.size ≤ B0) := Lib.hid (by rw [HB0.out]; exact HE6.out.below.size)
    have c0 := HB47.out 0 _ rfl
    have c1 := HB47.out 1 _ rfl
    have c2 := HB47.out 2 _ rfl
    have c3 := HB47.out 3 _ rfl
    have c4 := HB47.out 4 _ rfl
    have co := World.old_of_cell c0
    have e0 := HB14.out 0 _ rfl
    have e1 := HB14.out 1 _ rfl
    have e2 := HB14.out 2 _ rfl
    have e3 := HB14.out 3 _ rfl
    have e4 := HB14.out 4 _ rfl
    have eo := World.old_of_cell e0
    go_wp2_with fail
    refine (eqPoolOut_self RP RI RC _ _ _ _ _ ((HO14.out.ext (by repeat (first | exact Ext.refl _ | apply Ext.plus | apply Ext.alloc | apply Ext.drew))).e' HRI.out.1) ((HW7.out.ext (by repeat (first | exact Ext.refl _ | apply Ext.plus | apply Ext.alloc | apply Ext.drew))).e' HRI.out.1)).mono ?_
    rintro e _ ⟨rfl, ⟨X8, rfl⟩⟩
    clear c0 c1 c2 c3 c4 co e0 e1 e2 e3 e4 eo
    go_upto_region 10 with fail
    refine gen_world (fun W10 hWg => ?_)
    have HE10 : Hid (Ext W7 W10) := Lib.hid (by rw [hWg]; exact (by repeat (first | exact Ext.refl _ | apply Ext.plus | apply Ext.alloc | apply Ext.drew)))
    clear hWg X8
    have HE100 : Hid (Ext (w.alloc (.cells #[.slice a0 p.clear.length k0, .slice b0 p.jobs.length d0, (.int .i64 p.now)] 81)) W10) := Lib.hid (HE70.out.trans HE10.out)
    have HB1310 := Lib.hid (HB137.out.ext HE10.out)
    have HX10 := Lib.hid (HX7.out.ext HE10.out)
    have HXP10 := Lib.hid (HX10.out.e' ⟨HI.out.1, HI.out.2.1, HI.out.2.2⟩)
    unfold Pl.val at HXP10
    obtain ⟨l0, l1, l2, lo⟩ := argA HE100.out
    have y0 := HB1310.out 0 _ rfl
    have y1 := HB1310.out 1 _ rfl
    have y2 := HB1310.out 2 _ rfl
    have yo := World.old_of_cell y0
    (refine wp_region_y 5 [(fun u _ => u = (.agg #[.slice ax1 p.clear.length cx1, .slice ax2 p.jobs.length cx2, (.int .i64 p.now)])), (fun u _ => u = (.agg #[.slice a0 p.clear.length k0, .slice b0 p.jobs.length d0, (.int .i64 p.now)])), kPoolE p, (fun u _ => u = (.bool true)), (fun u _ => u = (.bool false))] (by kernel_rfl) (by kernel_rfl) (by kernel_rfl) rfl ?_ (by (repeat' (first | exact trivial | exact XReg.GoodK.same _ default | refine And.intro ?_ ?_)); all_goals exact kPoolE_good HP.out))
    (apply YReg.val (.agg #[.slice ax1 p.clear.length cx1, .slice ax2 p.jobs.length cx2, (.int .i64 p.now)]); (case h => (intro w' hw' hF'; obtain ⟨X', rfl⟩ := hw'; have HF' := Lib.hid hF'; clear hF'; go_wp2_with (fail); exact ⟨rfl, (by repeat (first | exact Ext.refl _ | apply Ext.plus | apply Ext.alloc | apply Ext.drew))⟩)); (case hv => kernel_rfl))
    (apply YReg.val (.agg #[.slice a0 p.clear.length k0, .slice b0 p.jobs.length d0, (.int .i64 p.now)]); (case h => (intro w' hw' hF'; obtain ⟨X', rfl⟩ := hw'; have HF' := Lib.hid hF'; clear hF'; go_wp2_with (fail); exact ⟨rfl, (by repeat (first | exact Ext.refl _ | apply Ext.plus | apply Ext.alloc | apply Ext.drew))⟩)); (case hv => kernel_rfl))
    refine YReg.kind (fun w' hw' hF' => ?_) (fun v1 w1 hK => ?_)
    · have HP9 := Lib.hid ((HP.out.ext (by exact (Ext.refl w).alloc _)).ext (HE100.out.trans hw'))
      obtain ⟨X9, rfl⟩ := hw'
      clear hF'
      go_wp2_with fail
      refine (toPool_any p _ _ (HP9.out.ext (by repeat (first | exact Ext.refl _ | apply Ext.plus | apply Ext.alloc | apply Ext.drew))) hf).mono ?_
      rintro e _ ⟨c9, j9, fc9, fj9, rfl, ⟨Y9, rfl⟩, hO9⟩
      have H9 := Lib.hid (hO9.e HI.out.1 HI.out.2.1 HI.out.2.2)
      obtain ⟨a9, k9, rfl⟩ := hO9.1.shape
      obtain ⟨b9, d9, rfl⟩ := hO9.2.1.shape
      clear hO9
      unfold Pl.val at H9 ⊢
      go_wp2
      exact ⟨(by repeat (first | exact Ext.refl _ | apply Ext.plus | apply Ext.alloc | apply Ext.drew)), H9.out⟩
    obtain ⟨a7, k7, b7, d7, rfl, hq1, hq2, hq3⟩ := hK
    clear hq1 hq2 hq3 w1
    unfold Pl.val
    (apply YReg.val (.bool true); (case h => (intro w' hw' hF'; obtain ⟨X', rfl⟩ := hw'; have HF' := Lib.hid hF'; clear hF'; go_wp2_with ((go_at_call 53; refine (eqPool_self p _ _ _ (HXP10.out.ext (by repeat (first | exact Ext.refl _ | apply Ext.plus | apply Ext.alloc | apply Ext.drew))) (HF'.out.get 2 (p := (kPoolE p, (Value.agg #[.slice a7 p.clear.length k7, .slice b7 p.jobs.length d7, (.int .i64 p.now)]))) (by kernel_rfl) (by kernel_rfl))).mono ?_; rintro e _ ⟨rfl, Y3, rfl⟩)); exact ⟨rfl, (by repeat (first | exact Ext.refl _ | apply Ext.plus | apply Ext.alloc | apply Ext.drew))⟩)); (case hv => kernel_rfl))
    (apply YReg.val (.bool false); (case h => (intro w' hw' hF'; obtain ⟨X', rfl⟩ := hw'; have HF' := Lib.hid hF'; clear hF'; go_wp2_with (fail); exact ⟨rfl, (by repeat (first | exact Ext.refl _ | apply Ext.plus | apply Ext.alloc | apply Ext.drew))⟩)); (case hv => kernel_rfl))
    refine YReg.doneN (fun X4 _ => ?_)
    go_wp2_with fail
    refine (markPool_any p _ _ 1 _ fx1 fx2 _ (HX10.out.ext (by repeat (first | exact Ext.refl _ | apply Ext.plus | apply Ext.alloc | apply Ext.drew))) (by omega)).mono ?_
    rintro e wm ⟨rfl, hx, hmk⟩
    have HEm : Hid (Ext (w.alloc (.cells #[.slice a0 p.clear.length k0, .slice b0 p.jobs.length d0, (.int .i64 p.now)] 81)) wm) := Lib.hid (hx.ext (HE100.out.trans (by repeat (first | exact Ext.refl _ | apply Ext.plus | apply Ext.alloc | apply Ext.drew))) (fun q hq => by have h1 := HX6.out.low q hq; have h2 := HE5.out.below.size; have h3 := HE0'.out.below.size; simp at h3 ⊢; omega))
    have hGm : OwnP B0 wm fg1 fg2 (.slice a6 RP.clear.length e6) (.slice b6 RP.jobs.length d6) RP := (HO14.out.ext (HE10.out.trans (by repeat (first | exact Ext.refl _ | apply Ext.plus | apply Ext.alloc | apply Ext.drew)))).far hx (fun q hq hq2 => by have h1 := HO14.out.low q hq; have h2 := HXlt.out q hq2; omega)
    have hWm : OwnP B0' wm fw1 fw2 (.slice a5 RP.clear.length e5) (.slice b5 RP.jobs.length d5) RP := (HW7.out.ext (HE10.out.trans (by repeat (first | exact Ext.refl _ | apply Ext.plus | apply Ext.alloc | apply Ext.drew)))).far hx (fun q hq hq2 => by have h1 := HW4.out q hq; have h2 := HX6.out.low q hq2; omega)
    have HGm := Lib.hid hGm
    have HWm := Lib.hid hWm
    have HB4m := Lib.hid ((HB47.out.ext (HE10.out.trans (by repeat (first | exact Ext.refl _ | apply Ext.plus | apply Ext.alloc | apply Ext.drew)))).chg hx (fun hq => by have h1 := HX6.out.low _ hq; have h2 := HG4'.out; omega))
    have HB14m := Lib.hid ((HB14.out.ext (HE10.out.trans (by repeat (first | exact Ext.refl _ | apply Ext.plus | apply Ext.alloc | apply Ext.drew)))).chg hx (fun hq => by have h1 := HXlt.out _ hq; have h2 := HG14.out; omega))
    clear hx hmk hGm hWm l0 l1 l2 lo y0 y1 y2 yo
    have c0 := HB4m.out 0 _ rfl
    have c1 := HB4m.out 1 _ rfl
    have c2 := HB4m.out 2 _ rfl
    have c3 := HB4m.out 3 _ rfl
    have c4 := HB4m.out 4 _ rfl
    have co := World.old_of_cell c0
    have e0 := HB14m.out 0 _ rfl
    have e1 := HB14m.out 1 _ rfl
    have e2 := HB14m.out 2 _ rfl
    have e3 := HB14m.out 3 _ rfl
    have e4 := HB14m.out 4 _ rfl
    have eo := World.old_of_cell e0
    go_wp2_with fail
    refine (eqPoolOut_self RP RI RC _ _ _ _ _ ((HGm.out.ext (by repeat (first | exact Ext.refl _ | apply Ext.plus | apply Ext.alloc | apply Ext.drew))).e' HRI.out.1) ((HWm.out.ext (by repeat (first | exact Ext.refl _ | apply Ext.plus | apply Ext.alloc | apply Ext.drew))).e' HRI.out.1)).mono ?_
    rintro e _ ⟨rfl, ⟨X5, rfl⟩⟩
    go_wp2_with fail
    refine (markPoolOut_any RP RI RC _ _ 1 _ fg1 fg2 _ (HGm.out.ext (by repeat (first | exact Ext.refl _ | apply Ext.plus | apply Ext.alloc | apply Ext.drew))) (by omega)).mono ?_
    rintro e wm2 ⟨rfl, hx, hmk⟩
    have HEn : Hid (Ext (w.alloc (.cells #[.slice a0 p.clear.length k0, .slice b0 p.jobs.length d0, (.int .i64 p.now)] 81)) wm2) := Lib.hid (hx.ext (HEm.out.trans (by repeat (first | exact Ext.refl _ | apply Ext.plus | apply Ext.alloc | apply Ext.drew))) (fun q hq => by have h1 := HO14.out.low q hq; have h2 := HE0.out.below.size; rw [HB0.out] at h1; simp at h2 ⊢; omega))
    have hWn : OwnP B0' wm2 fw1 fw2 (.slice a5 RP.clear.length e5) (.slice b5 RP.jobs.length d5) RP := (HWm.out.ext (by repeat (first | exact Ext.refl _ | apply Ext.plus | apply Ext.alloc | apply Ext.drew))).far hx (fun q hq hq2 => by have h1 := HW4.out q hq; have h2 := HO14.out.low q hq2; have h3 := h5sz.out; omega)
    have HWn := Lib.hid hWn
    have HB4n := Lib.hid ((HB4m.out.ext (by repeat (first | exact Ext.refl _ | apply Ext.plus | apply Ext.alloc | apply Ext.drew))).chg hx (fun hq => by have h1 := HO14.out.low _ hq; have h2 := HG4'.out; have h3 := h5sz.out; omega))
    have HB14n := Lib.hid ((HB14m.out.ext (by repeat (first | exact Ext.refl _ | apply Ext.plus | apply Ext.alloc | apply Ext.drew))).chg hx HN14.out)
    have HM := Lib.hid hmk.reads
    clear hx hmk hWn HGm HWm
    clear c0 c1 c2 c3 c4 co e0 e1 e2 e3 e4 eo
    have c0 := HB4n.out 0 _ rfl
    have c1 := HB4n.out 1 _ rfl
    have c2 := HB4n.out 2 _ rfl
    have c3 := HB4n.out 3 _ rfl
    have c4 := HB4n.out 4 _ rfl
    have co := World.old_of_cell c0
    have e0 := HB14n.out 0 _ rfl
    have e1 := HB14n.out 1 _ rfl
    have e2 := HB14n.out 2 _ rfl
    have e3 := HB14n.out 3 _ rfl
    have e4 := HB14n.out 4 _ rfl
    have eo := World.old_of_cell e0
    go_wp2_with fail
    refine (heldPoolOut_any RP RI RC _ _ 1 _ (HM.out.1.ext (rSl_stable (rc_stable _)) (by repeat (first | exact Ext.refl _ | apply Ext.plus | apply Ext.alloc | apply Ext.drew))) (HM.out.2.ext rJm_stable (by repeat (first | exact Ext.refl _ | apply Ext.plus | apply Ext.alloc | apply Ext.drew))) (by omega)).mono ?_
    rintro e _ ⟨rfl, ⟨X6, rfl⟩⟩
    clear c0 c1 c2 c3 c4 co e0 e1 e2 e3 e4 eo
    go_upto_region 24 with fail
    refine gen_world (fun W hWg => ?_)
    have HE24 : Hid (Ext wm2 W) := Lib.hid (by rw [hWg]; exact (by repeat (first | exact Ext.refl _ | apply Ext.plus | apply Ext.alloc | apply Ext.drew)))
    clear hWg X6
    have HE0 : Hid (Ext (w.alloc (.cells #[.slice a0 p.clear.length k0, .slice b0 p.jobs.length d0, (.int .i64 p.now)] 81)) W) := Lib.hid (HEn.out.trans HE24.out)
    obtain ⟨B0, hB0⟩ : ∃ B0, B0 = W.heap.size := ⟨_, rfl⟩
    have HB0 := Lib.hid hB0
    clear hB0
    obtain ⟨l0, l1, l2, lo⟩ := argA HE0.out
    go_wp2_with fail
    refine (toPool_any p _ _ ((HP.out.ext (by exact (Ext.refl w).alloc _)).ext (HE0.out.trans (by repeat (first | exact Ext.refl _ | apply Ext.plus | apply Ext.alloc | apply Ext.drew)))) hf).mono ?_
    rintro e _ ⟨c9, j9, fc9, fj9, rfl, ⟨Y9, rfl⟩, hO9⟩
    have H9 := Lib.hid (hO9.e HI.out.1 HI.out.2.1 HI.out.2.2)
    obtain ⟨a3, k3, rfl⟩ := hO9.1.shape
    obtain ⟨b3, d3, rfl⟩ := hO9.2.1.shape
    clear hO9
    unfold Pl.val at H9 ⊢
    go_wp2_with fail
    refine (implAdvance_any p _ _ (H9.out.ext (by repeat (first | exact Ext.refl _ | apply Ext.plus | apply Ext.alloc | apply Ext.drew))) hf).mono ?_
    rintro e _ ⟨cv9, jv9, fh1, fh2, rfl, ⟨Y8, rfl⟩, hO5⟩
    rw [HEQ.out] at hO5 ⊢
    obtain ⟨a8, e8, rfl⟩ := hO5.1.shape
    obtain ⟨b8, d8, rfl⟩ := hO5.2.1.shape
    unfold poV
    go_upto_region 25 with fail
    refine gen_world (fun W25 hW8 => ?_)
    have hfr := CellsAt.fresh ((W.plus Y9).plus Y8) [.slice a8 RP.clear.length e8, .slice b8 RP.jobs.length d8, (.int .i64 RP.now), (.int .i64 RI), (.int .i64 RC)] 44
    have hhi := hO5.high
    have hge : W.heap.size ≤ ((W.plus Y9).plus Y8).heap.size := by simp only [World.size_plus]; omega
    simp only [World.size_plus] at hfr hhi hge
    have hE9 : Ext W W25 := by rw [hW8]; exact (by repeat (first | exact Ext.refl _ | apply Ext.plus | apply Ext.alloc | apply Ext.drew))
    have hO9 : OwnP B0 W25 fh1 fh2 (.slice a8 RP.clear.length e8) (.slice b8 RP.jobs.length d8) RP := by rw [hW8]; exact (hO5.ext ((Ext.refl _).alloc _)).mono (by rw [HB0.out]; (try simp only [World.size_plus]); omega)
    have hB9 : CellsAt W25 (W.heap.size + Y9.n + Y8.n) [.slice a8 RP.clear.length e8, .slice b8 RP.jobs.length d8, (.int .i64 RP.now), (.int .i64 RI), (.int .i64 RC)] := by rw [hW8]; exact hfr
    generalize (W.heap.size + Y9.n + Y8.n) = g18 at hB9 hhi hge ⊢
    have HO18 := Lib.hid hO9
    have HB18 := Lib.hid hB9
    have HG18 : Hid (B0 ≤ g18) := Lib.hid (by rw [HB0.out]; exact hge)
    have HE25 := Lib.hid hE9
    have HN18 : Hid (g18 ∉ fh1 ++ fh2) := Lib.hid (fun hq => Nat.lt_irrefl _ (hhi _ hq))
    clear hW8 hfr hhi hge hE9 hO9 hB9 hO5
    clear l0 l1 l2 lo
    have HE2 : Hid (Ext wm2 W25) := Lib.hid (HE24.out.trans HE25.out)
    have HB425 := Lib.hid (HB4n.out.ext HE2.out)
    have HB1425 := Lib.hid (HB14n.out.ext HE2.out)
    have HW25 := Lib.hid (HWn.out.ext HE2.out)
    have c0 := HB425.out 0 _ rfl
    have c1 := HB425.out 1 _ rfl
    have c2 := HB425.out 2 _ rfl
    have c3 := HB425.out 3 _ rfl
    have c4 := HB425.out 4 _ rfl
    have co := World.old_of_cell c0
    have e0 := HB18.out 0 _ rfl
    have e1 := HB18.out 1 _ rfl
    have e2 := HB18.out 2 _ rfl
    have e3 := HB18.out 3 _ rfl
    have e4 := HB18.out 4 _ rfl
    have eo := World.old_of_cell e0
    go_wp2_with fail
    refine (eqPoolOut_self RP RI RC _ _ _ _ _ ((HO18.out.ext (by repeat (first | exact Ext.refl _ | apply Ext.plus | apply Ext.alloc | apply Ext.drew))).e' HRI.out.1) ((HW25.out.ext (by repeat (first | exact Ext.refl _ | apply Ext.plus | apply Ext.alloc | apply Ext.drew))).e' HRI.out.1)).mono ?_
    rintro e _ ⟨rfl, ⟨X9, rfl⟩⟩
    clear c0 c1 c2 c3 c4 co e0 e1 e2 e3 e4 eo
    have c0 := HB425.out 0 _ rfl
    have c1 := HB425.out 1 _ rfl
    have c2 := HB425.out 2 _ rfl
    have c3 := HB425.out 3 _ rfl
    have c4 := HB425.out 4 _ rfl
    have co := World.old_of_cell c0
    have e0 := HB1425.out 0 _ rfl
    have e1 := HB1425.out 1 _ rfl
    have e2 := HB1425.out 2 _ rfl
    have e3 := HB1425.out 3 _ rfl
    have e4 := HB1425.out 4 _ rfl
    have eo := World.old_of_cell e0
    go_wp2_with fail
    refine (heldPoolOut_any RP RI RC _ _ 1 _ (HM.out.1.ext (rSl_stable (rc_stable _)) (HE2.out.trans (by repeat (first | exact Ext.refl _ | apply Ext.plus | apply Ext.alloc | apply Ext.drew)))) (HM.out.2.ext rJm_stable (HE2.out.trans (by repeat (first | exact Ext.refl _ | apply Ext.plus | apply Ext.alloc | apply Ext.drew)))) (by omega)).mono ?_
    rintro e _ ⟨rfl, ⟨Z9, rfl⟩⟩
    go_wp2
    go_ret
    exact ⟨rfl, ((Ext.refl w).alloc _).trans ((HE0.out.trans HE25.out).trans (by repeat (first | exact Ext.refl _ | apply Ext.plus | apply Ext.alloc | apply Ext.drew)))⟩
  · go_enter Tryz.func6, Tryz.ntmps6
    go_wp2_with fail
    refine (szPool_any p _ 1048576 _ (HP.out.ext (by repeat (first | exact Ext.refl _ | apply Ext.plus | apply Ext.alloc | apply Ext.drew))) (Nat.le_refl _)).mono ?_
    rintro e _ ⟨rfl, ⟨X0, rfl⟩⟩
    rw [if_neg hf]
    go_wp2
    go_ret
    exact ⟨rfl, (by repeat (first | exact Ext.refl _ | apply Ext.plus | apply Ext.alloc | apply Ext.drew))⟩
end Go.Proofs.YtagdkpcdagknlaaGreat
