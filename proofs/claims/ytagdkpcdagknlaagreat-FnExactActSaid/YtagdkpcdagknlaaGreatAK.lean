/- The law of Act. -/
import Derived.Test.YtagdkpcdagknlaaGreatZZC
import Derived.Test.YtagdkpcdagknlaaGreatAJ
import Derived.Test.YtagdkpcdagknlaaGreatRRC
set_option maxRecDepth 100000
set_option linter.unusedVariables false
namespace Go.Proofs.YtagdkpcdagknlaaGreat
open Go.RowKit Go.Fin1
theorem argC {w W : World} {pa pb : Value} {pn x0 x1 x2 x3 x4 x5 : Int} (h : Ext ((w.alloc (.cells #[pa, pb, (.int .i64 pn)] 81)).alloc (.cells #[(.int .i64 x0), (.int .i64 x1), (.int .i64 x2), (.int .i64 x3), (.int .i64 x4), (.int .i64 x5)] 89)) W) :
    (W.cell? ⟨w.heap.size, 0, none⟩ = some pa ∧ W.cell? ⟨w.heap.size, 1, none⟩ = some pb ∧ W.cell? ⟨w.heap.size, 2, none⟩ = some (.int .i64 pn) ∧ W.old w.heap.size) ∧
    W.cell? ⟨w.heap.size + 1, 0, none⟩ = some (.int .i64 x0) ∧ W.cell? ⟨w.heap.size + 1, 1, none⟩ = some (.int .i64 x1) ∧ W.cell? ⟨w.heap.size + 1, 2, none⟩ = some (.int .i64 x2) ∧ W.cell? ⟨w.heap.size + 1, 3, none⟩ = some (.int .i64 x3) ∧ W.cell? ⟨w.heap.size + 1, 4, none⟩ = some (.int .i64 x4) ∧ W.cell? ⟨w.heap.size + 1, 5, none⟩ = some (.int .i64 x5) ∧ W.old (w.heap.size + 1) := by
  have h0 : W.cell? ⟨w.heap.size, 0, none⟩ = some pa := h.cell (by simp [go_sem])
  have h1 : W.cell? ⟨w.heap.size + 1, 0, none⟩ = some (.int .i64 x0) := h.cell (by simp [go_sem])
  exact ⟨⟨h0, h.cell (by simp [go_sem]), h.cell (by simp [go_sem]), World.old_of_cell h0⟩, h1, h.cell (by simp [go_sem]), h.cell (by simp [go_sem]), h.cell (by simp [go_sem]), h.cell (by simp [go_sem]), h.cell (by simp [go_sem]), World.old_of_cell h1⟩
theorem subR_okR (p : Pl) (x : Lab) (need long prio : Int) : PlOk (subR p x need long prio).1 ∧ PlFit (subR p x need long prio).1 ∧ wPl (subR p x need long prio).1 ≤ 64 * 1048576 := by
  by_cases h : (subR p x need long prio).2.2 = 0
  · exact right_ok (subR_right h).2
  · have : (subR p x need long prio).1 = zPl := by
      unfold subR at h ⊢
      split
      · rfl
      · split
        · rfl
        · split
          · rfl
          · rename_i a b c; rw [if_neg a, if_neg b, if_neg c] at h; exact absurd rfl h
    rw [this]; exact zPl_ok
theorem chR_okR (p : Pl) (x : Lab) (id st : Int) : PlOk (chR p x id st).1 ∧ PlFit (chR p x id st).1 ∧ wPl (chR p x id st).1 ≤ 64 * 1048576 := by
  by_cases h : (chR p x id st).2.2 = 0
  · exact right_ok (chR_right h).2
  · have : (chR p x id st).1 = zPl := by
      unfold chR at h ⊢
      split
      · rfl
      · split
        · rfl
        · split
          · rfl
          · rename_i a b c; rw [if_neg a, if_neg b, if_neg c] at h; exact absurd rfl h
    rw [this]; exact zPl_ok
theorem actR_ok (p : Pl) (e : Ent) : PlOk (actR p e).1 ∧ PlFit (actR p e).1 ∧ wPl (actR p e).1 ≤ 64 * 1048576 := by
  unfold actR
  split
  · exact zPl_ok
  · split
    · exact subR_okR _ _ _ _ _
    · split
      · exact chR_okR _ _ _ _
      · exact advR_ok p
set_option maxHeartbeats 3200000 in
theorem fnAct_any (a : Arg Pl) (x : Ent) (w : World) (h : ePool w a.v a.x) (hx : x.ok) :
    Calls Tryz.prog 7 #[a.v, x.val] w fun e w' => e = .returned (.bool true) ∧ Ext w w' := by
  obtain ⟨v, p⟩ := a
  change ePool w v p at h
  change Calls Tryz.prog 7 #[v, _] w _
  obtain ⟨x0, ⟨x1, x2⟩, x3, x4, x5⟩ := x
  unfold Ent.val
  have HA := Lib.hid hx
  clear hx
  have HP := Lib.hid h
  obtain ⟨a0, k0, b0, d0, rfl, hnow, h1, h2⟩ := h
  have HI : Hid (I64 p.now ∧ (∀ x ∈ p.clear, ∀ y ∈ x, y.ok) ∧ ∀ j ∈ p.jobs, j.fit) := Lib.hid ⟨hnow, slr_labss h1, slr_jobs h2⟩
  clear h1 h2 hnow
  unfold Pl.val at HP ⊢
  by_cases hf : p.fits 1048576
  · have ht : decide (((1048576 - szL List.length p.clear - szL Jb.sz p.jobs : Nat) : Int) < 0) = false := decide_eq_false (by omega)
    have HRI := Lib.hid (actR_ok p ⟨x0, ⟨x1, x2⟩, x3, x4, x5⟩)
    have hmx : wPl p ≤ 64 * 1048576 := by
      have e1 := wL_spans hf.1
      have e2 := wJb_le (Nat.le_trans hf.2 (Nat.sub_le _ _))
      unfold wPl; omega
    generalize hR : actR p ⟨x0, ⟨x1, x2⟩, x3, x4, x5⟩ = R at HRI
    obtain ⟨RP, RI, RC⟩ := R
    have hmr : wPl RP ≤ 64 * 1048576 := HRI.out.2.2
    have HEQ := Lib.hid hR
    clear hR
    go_enter Tryz.func7, Tryz.ntmps7
    go_wp2_with fail
    refine (szPool_any p _ 1048576 _ (HP.out.ext (by repeat (first | exact Ext.refl _ | apply Ext.plus | apply Ext.alloc | apply Ext.drew))) (Nat.le_refl _)).mono ?_
    rintro e _ ⟨rfl, ⟨X0, rfl⟩⟩
    rw [if_pos hf]
    go_upto_region 5 with fail
    refine gen_world (fun W hWg => ?_)
    have HE0 : Hid (Ext ((w.alloc (.cells #[.slice a0 p.clear.length k0, .slice b0 p.jobs.length d0, (.int .i64 p.now)] 81)).alloc (.cells #[(.int .i64 x0), (.int .i64 x1), (.int .i64 x2), (.int .i64 x3), (.int .i64 x4), (.int .i64 x5)] 89)) W) := Lib.hid (by rw [hWg]; exact (by repeat (first | exact Ext.refl _ | apply Ext.plus | apply Ext.alloc | apply Ext.drew)))
    clear hWg X0
    obtain ⟨B0, hB0⟩ : ∃ B0, B0 = W.heap.size := ⟨_, rfl⟩
    have HB0 := Lib.hid hB0
    clear hB0
    obtain ⟨⟨l0, l1, l2, lo⟩, n0, n1, n2, n3, n4, n5, no⟩ := argC HE0.out
    (refine wp_region_y 6 [(fun u _ => u = (.agg #[.slice a0 p.clear.length k0, .slice b0 p.jobs.length d0, (.int .i64 p.now)])), kPoolE p, (fun u _ => u = (.agg #[(.int .i64 x0), (.int .i64 x1), (.int .i64 x2), (.int .i64 x3), (.int .i64 x4), (.int .i64 x5)])), (fun u _ => u = (.agg #[(.int .i64 x0), (.int .i64 x1), (.int .i64 x2), (.int .i64 x3), (.int .i64 x4), (.int .i64 x5)])), kOutO B0 RP RI RC, kBox B0 [.slice none 0 0, .slice none 0 0, (.int .i64 0), (.int .i64 0), (.int .i64 0)] 44] (by kernel_rfl) (by kernel_rfl) (by kernel_rfl) rfl ?_ (by (repeat' (first | exact trivial | exact XReg.GoodK.same _ default | refine And.intro ?_ ?_)); all_goals (first | exact kPoolE_good HP.out | exact kOutO_good HRI.out.2.1 | exact kBox_goodB _ _ _)))
    (apply YReg.val (.agg #[.slice a0 p.clear.length k0, .slice b0 p.jobs.length d0, (.int .i64 p.now)]); (case h => (intro w' hw' hF'; obtain ⟨X', rfl⟩ := hw'; have HF' := Lib.hid hF'; clear hF'; go_wp2_with (fail); exact ⟨rfl, (by repeat (first | exact Ext.refl _ | apply Ext.plus | apply Ext.alloc | apply Ext.drew))⟩)); (case hv => kernel_rfl))
    refine YReg.kind (fun w' hw' hF' => ?_) (fun v1 w1 hK => ?_)
    · have HP9 := Lib.hid ((HP.out.ext (by exact ((Ext.refl w).alloc _).alloc _)).ext (HE0.out.trans hw'))
      obtain ⟨X9, rfl⟩ := hw'
      clear hF'
      go_wp2_with fail
      refine (toPool_any p _ _ (HP9.out.ext (by repeat (first | exact Ext.refl _ | apply Ext.plus | apply Ext.alloc | apply Ext.drew))) hf).mono ?_
      rintro e _ ⟨c9, j9, fc9, fj9, rfl, ⟨Y9, rfl⟩, hO9⟩
      have H9 := Lib.hid (hO9.e HI.out.1 HI.out.2.1 HI.out.2.2)
      obtain ⟨a9, k9, rfl⟩ := hO9.1.shape
      obtain ⟨b9, d9, rfl⟩ := hO9.2.1.shape
      clear hO9
      unfold Pl.val at H9 ⊢
      go_wp2
      exact ⟨(by repeat (first | exact Ext.refl _ | apply Ext.plus | apply Ext.alloc | apply Ext.drew)), H9.out⟩
    obtain ⟨a3, k3, b3, d3, rfl, hq1, hq2, hq3⟩ := hK
    clear hq1 hq2 hq3 w1
    unfold Pl.val
    (apply YReg.val (.agg #[(.int .i64 x0), (.int .i64 x1), (.int .i64 x2), (.int .i64 x3), (.int .i64 x4), (.int .i64 x5)]); (case h => (intro w' hw' hF'; obtain ⟨X', rfl⟩ := hw'; have HF' := Lib.hid hF'; clear hF'; go_wp2_with (fail); exact ⟨rfl, (by repeat (first | exact Ext.refl _ | apply Ext.plus | apply Ext.alloc | apply Ext.drew))⟩)); (case hv => kernel_rfl))
    (apply YReg.val (.agg #[(.int .i64 x0), (.int .i64 x1), (.int .i64 x2), (.int .i64 x3), (.int .i64 x4), (.int .i64 x5)]); (case h => (intro w' hw' hF'; obtain ⟨X', rfl⟩ := hw'; have HF' := Lib.hid hF'; clear hF'; go_wp2_with ((go_at_call 57; refine (toEntry_any _ _ _ _ _ _ _).mono ?_; rintro e _ ⟨rfl, X, rfl⟩)); exact ⟨rfl, (by repeat (first | exact Ext.refl _ | apply Ext.plus | apply Ext.alloc | apply Ext.drew))⟩)); (case hv => kernel_rfl))
    refine YReg.kind (fun w' hw' hF' => ?_) (fun v1 w1 hK => ?_)
    · have HSW : Hid (B0 ≤ w'.heap.size) := Lib.hid (by rw [HB0.out]; exact hw'.below.size)
      have HK9 := Lib.hid (show ePool w' (.agg #[.slice a3 p.clear.length k3, .slice b3 p.jobs.length d3, (.int .i64 p.now)]) p from hF'.get 1 (p := (kPoolE p, .agg #[.slice a3 p.clear.length k3, .slice b3 p.jobs.length d3, (.int .i64 p.now)])) (by kernel_rfl) (by kernel_rfl))
      obtain ⟨X9, rfl⟩ := hw'
      clear hF'
      go_wp2_with fail
      refine (specAct_any p _ ⟨x0, ⟨x1, x2⟩, x3, x4, x5⟩ _ (HK9.out.ext (by repeat (first | exact Ext.refl _ | apply Ext.plus | apply Ext.alloc | apply Ext.drew))) hf HA.out).mono ?_
      rintro e _ ⟨cv9, jv9, fc9, fj9, rfl, ⟨Y9, rfl⟩, hO9⟩
      rw [HEQ.out] at hO9 ⊢
      have H9 := Lib.hid (kOutO_in (id := RI) (c := RC) (hO9.mono HSW.out))
      obtain ⟨a9, c9, rfl⟩ := hO9.1.shape
      obtain ⟨b9, d9, rfl⟩ := hO9.2.1.shape
      clear hO9
      unfold poV at H9 ⊢
      go_wp2
      exact ⟨(by repeat (first | exact Ext.refl _ | apply Ext.plus | apply Ext.alloc | apply Ext.drew)), H9.out⟩
    obtain ⟨a5, e5, b5, d5, fq1, fq2, rfl, hq9⟩ := hK
    clear hq9 w1 fq1 fq2
    unfold poV
    refine YReg.kind (fun w' hw' hF' => ?_) (fun v1 w1 hK => ?_)
    · have HSW : Hid (B0 ≤ w'.heap.size) := Lib.hid (by rw [HB0.out]; exact hw'.below.size)
      have HNB := Lib.hid (heap_alloc_new w' (.cells (List.toArray [.slice none 0 0, .slice none 0 0, (.int .i64 0), (.int .i64 0), (.int .i64 0)]) 44))
      clear hF' hw'
      go_wp2
      exact ⟨(by repeat (first | exact Ext.refl _ | apply Ext.plus | apply Ext.alloc | apply Ext.drew)), _, rfl, HSW.out, HNB.out⟩
    obtain ⟨g4, rfl, hgB, hgh⟩ := hK
    clear hgB hgh w1
    refine YReg.done1 (fun X3 hF => ?_)
    obtain ⟨fw1, fw2, hO5⟩ := kOutO_out (hF 4 (kOutO B0 RP RI RC, .agg #[.slice a5 RP.clear.length e5, .slice b5 RP.jobs.length d5, (.int .i64 RP.now), (.int .i64 RI), (.int .i64 RC)]) (by kernel_rfl))
    have hbx := kBox_g (hF 5 (kBox B0 [.slice none 0 0, .slice none 0 0, (.int .i64 0), (.int .i64 0), (.int .i64 0)] 44, .pointer (some ⟨g4, 0, none⟩)) (by kernel_rfl))
    clear hF
    have HO5 := Lib.hid hO5
    have HBH := Lib.hid hbx.2
    have HG4 := Lib.hid hbx.1
    have hbc := CellsAt.of_heap hbx.2
    have hfz := frozen_of_heap hbx.2
    have m0 := hbc 0 _ rfl
    have m1 := hbc 1 _ rfl
    have m2 := hbc 2 _ rfl
    have m3 := hbc 3 _ rfl
    have m4 := hbc 4 _ rfl
    have hog := World.old_of_cell m0
    clear hbx hbc hO5
    go_upto_region 6 with fail
    clear m0 m1 m2 m3 m4 hog hfz
    refine gen_world (fun W5 hW8 => ?_)
    have hLay : W5 = (W.plus X3).layCells g4 0 [.slice a5 RP.clear.length e5, .slice b5 RP.jobs.length d5, (.int .i64 RP.now), (.int .i64 RI), (.int .i64 RC)] := hW8
    have hC8 : Chg [g4] (W.plus X3) W5 := by rw [hLay]; exact layCells_chg _ _ _ _
    have HB4 : Hid (CellsAt W5 g4 [.slice a5 RP.clear.length e5, .slice b5 RP.jobs.length d5, (.int .i64 RP.now), (.int .i64 RI), (.int .i64 RC)]) := Lib.hid (by rw [hLay]; exact CellsAt.lay HBH.out (by kernel_rfl))
    have hbn := HO5.out.box HBH.out
    have HO4 := Lib.hid (HO5.out.far hC8 (fun q hq hq2 => by
      simp at hq2
      subst hq2
      rcases List.mem_append.1 hq with hq | hq
      · exact hbn.1 hq
      · exact hbn.2 hq))
    have HE5 : Hid (Ext W W5) := Lib.hid (hC8.ext ((Ext.refl _).plus X3) (fun q hq => by simp at hq; subst hq; have := HG4.out; rw [HB0.out] at this; exact this))
    have HN4 : Hid (g4 ∉ fw1 ++ fw2) := Lib.hid (fun hq => by
      rcases List.mem_append.1 hq with hq | hq
      · exact hbn.1 hq
      · exact hbn.2 hq)
    clear hW8 hLay hC8 hbn HBH HO5
    clear l0 l1 l2 lo n0 n1 n2 n3 n4 n5 no
    have hO4 := HO4.out
    obtain ⟨B0', hB0'⟩ : ∃ B0', B0' = B0 := ⟨_, rfl⟩
    rw [← hB0'] at hO4
    have HO4 := Lib.hid hO4
    clear hO4 hB0'
    have HW4 : Hid (∀ q ∈ fw1 ++ fw2, q < W5.heap.size) := Lib.hid HO4.out.high
    have HG4' : Hid (g4 < W5.heap.size) := Lib.hid (World.block_lt_of_cell? _ _ (HB4.out 0 _ rfl))
    have HE0' := Lib.hid (HE0.out.trans HE5.out)
    obtain ⟨⟨l0, l1, l2, lo⟩, n0, n1, n2, n3, n4, n5, no⟩ := argC HE0'.out
    go_wp2_with fail
    refine (toPool_any p _ _ ((HP.out.ext (by exact ((Ext.refl w).alloc _).alloc _)).ext (HE0'.out.trans (by repeat (first | exact Ext.refl _ | apply Ext.plus | apply Ext.alloc | apply Ext.drew)))) hf).mono ?_
    rintro e _ ⟨cx, jx, fx1, fx2, rfl, ⟨X1, rfl⟩, hO⟩
    obtain ⟨ax1, cx1, rfl⟩ := hO.1.shape
    obtain ⟨ax2, cx2, rfl⟩ := hO.2.1.shape
    unfold Pl.val
    clear l0 l1 l2 lo n0 n1 n2 n3 n4 n5 no
    go_upto_region 7 with fail
    refine gen_world (fun W hWg => ?_)
    have h13 := CellsAt.fresh (W5.plus X1) [.slice ax1 p.clear.length cx1, .slice ax2 p.jobs.length cx2, (.int .i64 p.now)] 26
    simp only [World.size_plus] at h13
    have HE6 : Hid (Ext W5 W) := Lib.hid (by rw [hWg]; exact (by repeat (first | exact Ext.refl _ | apply Ext.plus | apply Ext.alloc | apply Ext.drew)))
    have hX6 : OwnP W5.heap.size W fx1 fx2 (.slice ax1 p.clear.length cx1) (.slice ax2 p.jobs.length cx2) p := by rw [hWg]; exact hO.ext ((Ext.refl _).alloc _)
    have h13' : CellsAt W (W5.heap.size + X1.n) [.slice ax1 p.clear.length cx1, .slice ax2 p.jobs.length cx2, (.int .i64 p.now)] := by rw [hWg]; exact h13
    have hXH : ∀ q ∈ fx1 ++ fx2, q < W5.heap.size + X1.n := fun q hq => by have := hO.high q hq; simpa using this
    have hge : W5.heap.size ≤ W5.heap.size + X1.n := Nat.le_add_right _ _
    generalize W5.heap.size + X1.n = g13 at h13' hXH hge ⊢
    have HX6 := Lib.hid hX6
    have HB13 := Lib.hid h13'
    have HXH := Lib.hid hXH
    have HG13 := Lib.hid hge
    clear hWg h13 hX6 h13' hXH hge hO
    have HE0 : Hid (Ext ((w.alloc (.cells #[.slice a0 p.clear.length k0, .slice b0 p.jobs.length d0, (.int .i64 p.now)] 81)).alloc (.cells #[(.int .i64 x0), (.int .i64 x1), (.int .i64 x2), (.int .i64 x3), (.int .i64 x4), (.int .i64 x5)] 89)) W) := Lib.hid (HE0'.out.trans HE6.out)
    have HG13' : Hid (g13 < W.heap.size) := Lib.hid (World.block_lt_of_cell? _ _ (HB13.out 0 _ rfl))
    have HXP := Lib.hid (HX6.out.e' ⟨HI.out.1, HI.out.2.1, HI.out.2.2⟩)
    unfold Pl.val at HXP
    obtain ⟨B0, hB0⟩ : ∃ B0, B0 = W.heap.size := ⟨_, rfl⟩
    have HB0 := Lib.hid hB0
    clear hB0
    obtain ⟨⟨l0, l1, l2, lo⟩, n0, n1, n2, n3, n4, n5, no⟩ := argC HE0.out
    have y0 := HB13.out 0 _ rfl
    have y1 := HB13.out 1 _ rfl
    have y2 := HB13.out 2 _ rfl
    have yo := World.old_of_cell y0
    (refine wp_region_y 5 [(fun u _ => u = (.agg #[.slice ax1 p.clear.length cx1, .slice ax2 p.jobs.length cx2, (.int .i64 p.now)])), (fun u _ => u = (.agg #[(.int .i64 x0), (.int .i64 x1), (.int .i64 x2), (.int .i64 x3), (.int .i64 x4), (.int .i64 x5)])), (fun u _ => u = (.agg #[(.int .i64 x0), (.int .i64 x1), (.int .i64 x2), (.int .i64 x3), (.int .i64 x4), (.int .i64 x5)])), kOutO B0 RP RI RC, kBox B0 [.slice none 0 0, .slice none 0 0, (.int .i64 0), (.int .i64 0), (.int .i64 0)] 44] (by kernel_rfl) (by kernel_rfl) (by kernel_rfl) rfl ?_ (by (repeat' (first | exact trivial | exact XReg.GoodK.same _ default | refine And.intro ?_ ?_)); all_goals (first | exact kOutO_good HRI.out.2.1 | exact kBox_goodB _ _ _)))
    (apply YReg.val (.agg #[.slice ax1 p.clear.length cx1, .slice ax2 p.jobs.length cx2, (.int .i64 p.now)]); (case h => (intro w' hw' hF'; obtain ⟨X', rfl⟩ := hw'; have HF' := Lib.hid hF'; clear hF'; go_wp2_with (fail); exact ⟨rfl, (by repeat (first | exact Ext.refl _ | apply Ext.plus | apply Ext.alloc | apply Ext.drew))⟩)); (case hv => kernel_rfl))
    (apply YReg.val (.agg #[(.int .i64 x0), (.int .i64 x1), (.int .i64 x2), (.int .i64 x3), (.int .i64 x4), (.int .i64 x5)]); (case h => (intro w' hw' hF'; obtain ⟨X', rfl⟩ := hw'; have HF' := Lib.hid hF'; clear hF'; go_wp2_with (fail); exact ⟨rfl, (by repeat (first | exact Ext.refl _ | apply Ext.plus | apply Ext.alloc | apply Ext.drew))⟩)); (case hv => kernel_rfl))
    (apply YReg.val (.agg #[(.int .i64 x0), (.int .i64 x1), (.int .i64 x2), (.int .i64 x3), (.int .i64 x4), (.int .i64 x5)]); (case h => (intro w' hw' hF'; obtain ⟨X', rfl⟩ := hw'; have HF' := Lib.hid hF'; clear hF'; go_wp2_with ((go_at_call 57; refine (toEntry_any _ _ _ _ _ _ _).mono ?_; rintro e _ ⟨rfl, X, rfl⟩)); exact ⟨rfl, (by repeat (first | exact Ext.refl _ | apply Ext.plus | apply Ext.alloc | apply Ext.drew))⟩)); (case hv => kernel_rfl))
    refine YReg.kind (fun w' hw' hF' => ?_) (fun v1 w1 hK => ?_)
    · have HSW : Hid (B0 ≤ w'.heap.size) := Lib.hid (by rw [HB0.out]; exact hw'.below.size)
      have HK9 := Lib.hid (HXP.out.ext hw')
      obtain ⟨X9, rfl⟩ := hw'
      clear hF'
      go_wp2_with fail
      refine (implAct_any p _ ⟨x0, ⟨x1, x2⟩, x3, x4, x5⟩ _ (HK9.out.ext (by repeat (first | exact Ext.refl _ | apply Ext.plus | apply Ext.alloc | apply Ext.drew))) hf HA.out).mono ?_
      rintro e _ ⟨cv9, jv9, fc9, fj9, rfl, ⟨Y9, rfl⟩, hO9⟩
      rw [HEQ.out] at hO9 ⊢
      have H9 := Lib.hid (kOutO_in (id := RI) (c := RC) (hO9.mono HSW.out))
      obtain ⟨a9, c9, rfl⟩ := hO9.1.shape
      obtain ⟨b9, d9, rfl⟩ := hO9.2.1.shape
      clear hO9
      unfold poV at H9 ⊢
      go_wp2
      exact ⟨(by repeat (first | exact Ext.refl _ | apply Ext.plus | apply Ext.alloc | apply Ext.drew)), H9.out⟩
    obtain ⟨a6, e6, b6, d6, fq1, fq2, rfl, hq9⟩ := hK
    clear hq9 w1 fq1 fq2
    unfold poV
    refine YReg.kind (fun w' hw' hF' => ?_) (fun v1 w1 hK => ?_)
    · have HSW : Hid (B0 ≤ w'.heap.size) := Lib.hid (by rw [HB0.out]; exact hw'.below.size)
      have HNB := Lib.hid (heap_alloc_new w' (.cells (List.toArray [.slice none 0 0, .slice none 0 0, (.int .i64 0), (.int .i64 0), (.int .i64 0)]) 44))
      clear hF' hw'
      go_wp2
      exact ⟨(by repeat (first | exact Ext.refl _ | apply Ext.plus | apply Ext.alloc | apply Ext.drew)), _, rfl, HSW.out, HNB.out⟩
    obtain ⟨g14, rfl, hgB, hgh⟩ := hK
    clear hgB hgh w1
    refine YReg.done1 (fun X3 hF => ?_)
    obtain ⟨fg1, fg2, hO5⟩ := kOutO_out (hF 3 (kOutO B0 RP RI RC, .agg #[.slice a6 RP.clear.length e6, .slice b6 RP.jobs.length d6, (.int .i64 RP.now), (.int .i64 RI), (.int .i64 RC)]) (by kernel_rfl))
    have hbx := kBox_g (hF 4 (kBox B0 [.slice none 0 0, .slice none 0 0, (.int .i64 0), (.int .i64 0), (.int .i64 0)] 44, .pointer (some ⟨g14, 0, none⟩)) (by kernel_rfl))
    clear hF
    have HO5 := Lib.hid hO5
    have HBH := Lib.hid hbx.2
    have HG14 := Lib.hid hbx.1
    have hbc := CellsAt.of_heap hbx.2
    have hfz := frozen_of_heap hbx.2
    have m0 := hbc 0 _ rfl
    have m1 := hbc 1 _ rfl
    have m2 := hbc 2 _ rfl
    have m3 := hbc 3 _ rfl
    have m4 := hbc 4 _ rfl
    have hog := World.old_of_cell m0
    clear hbx hbc hO5
    go_upto_region 8 with fail
    clear m0 m1 m2 m3 m4 hog hfz
    refine gen_world (fun W7 hW8 => ?_)
    have hLay : W7 = (W.plus X3).layCells g14 0 [.slice a6 RP.clear.length e6, .slice b6 RP.jobs.length d6, (.int .i64 RP.now), (.int .i64 RI), (.int .i64 RC)] := hW8
    have hC8 : Chg [g14] (W.plus X3) W7 := by rw [hLay]; exact layCells_chg _ _ _ _
    have HB14 : Hid (CellsAt W7 g14 [.slice a6 RP.clear.length e6, .slice b6 RP.jobs.length d6, (.int .i64 RP.now), (.int .i64 RI), (.int .i64 RC)]) := Lib.hid (by rw [hLay]; exact CellsAt.lay HBH.out (by kernel_rfl))
    have hbn := HO5.out.box HBH.out
    have HO14 := Lib.hid (HO5.out.far hC8 (fun q hq hq2 => by
      simp at hq2
      subst hq2
      rcases List.mem_append.1 hq with hq | hq
      · exact hbn.1 hq
      · exact hbn.2 hq))
    have HE7 : Hid (Ext W W7) := Lib.hid (hC8.ext ((Ext.refl _).plus X3) (fun q hq => by simp at hq; subst hq; have := HG14.out; rw [HB0.out] at this; exact this))
    have HN14 : Hid (g14 ∉ fg1 ++ fg2) := Lib.hid (fun hq => by
      rcases List.mem_append.1 hq with hq | hq
      · exact hbn.1 hq
      · exact hbn.2 hq)
    clear hW8 hLay hC8 hbn HBH HO5
    clear l0 l1 l2 lo n0 n1 n2 n3 n4 n5 no y0 y1 y2 yo
    have HE70 : Hid (Ext ((w.alloc (.cells #[.slice a0 p.clear.length k0, .slice b0 p.jobs.length d0, (.int .i64 p.now)] 81)).alloc (.cells #[(.int .i64 x0), (.int .i64 x1), (.int .i64 x2), (.int .i64 x3), (.int .i64 x4), (.int .i64 x5)] 89)) W7) := Lib.hid (HE0.out.trans HE7.out)
    have HE57 : Hid (Ext W5 W7) := Lib.hid (HE6.out.trans HE7.out)
    have HG14u : Hid (g14 < W7.heap.size) := Lib.hid (World.block_lt_of_cell? _ _ (HB14.out 0 _ rfl))
    have HXlt : Hid (∀ q ∈ fx1 ++ fx2, q < B0) := Lib.hid (fun q hq => by have h1 := HXH.out q hq; have h2 := HG13'.out; rw [HB0.out]; omega)
    have HX7 : Hid (OwnP W5.heap.size W7 fx1 fx2 (.slice ax1 p.clear.length cx1) (.slice ax2 p.jobs.length cx2) p) := Lib.hid (HX6.out.ext HE7.out)
    have HW7 : Hid (OwnP B0' W7 fw1 fw2 (.slice a5 RP.clear.length e5) (.slice b5 RP.jobs.length d5) RP) := Lib.hid (HO4.out.ext HE57.out)
    have HB47 := Lib.hid (HB4.out.ext HE57.out)
    have HB137 := Lib.hid (HB13.out.ext HE7.out)
    have h5sz : Hid (W5.heap.size ≤ B0) := Lib.hid (by rw [HB0.out]; exact HE6.out.below.size)
    have c0 := HB47.out 0 _ rfl
    have c1 := HB47.out 1 _ rfl
    have c2 := HB47.out 2 _ rfl
    have c3 := HB47.out 3 _ rfl
    have c4 := HB47.out 4 _ rfl
    have co := World.old_of_cell c0
    have e0 := HB14.out 0 _ rfl
    have e1 := HB14.out 1 _ rfl
    have e2 := HB14.out 2 _ rfl
    have e3 := HB14.out 3 _ rfl
    have e4 := HB14.out 4 _ rfl
    have eo := World.old_of_cell e0
    go_wp2_with fail
    refine (eqPoolOut_self RP RI RC _ _ _ _ _ ((HO14.out.ext (by repeat (first | exact Ext.refl _ | apply Ext.plus | apply Ext.alloc | apply Ext.drew))).e' HRI.out.1) ((HW7.out.ext (by repeat (first | exact Ext.refl _ | apply Ext.plus | apply Ext.alloc | apply Ext.drew))).e' HRI.out.1)).mono ?_
    rintro e _ ⟨rfl, ⟨X8, rfl⟩⟩
    clear c0 c1 c2 c3 c4 co e0 e1 e2 e3 e4 eo
    go_upto_region 10 with fail
    refine gen_world (fun W10 hWg => ?_)
    have HE10 : Hid (Ext W7 W10) := Lib.hid (by rw [hWg]; exact (by repeat (first | exact Ext.refl _ | apply Ext.plus | apply Ext.alloc | apply Ext.drew)))
    clear hWg X8
    have HE100 : Hid (Ext ((w.alloc (.cells #[.slice a0 p.clear.length k0, .slice b0 p.jobs.length d0, (.int .i64 p.now)] 81)).alloc (.cells #[(.int .i64 x0), (.int .i64 x1), (.int .i64 x2), (.int .i64 x3), (.int .i64 x4), (.int .i64 x5)] 89)) W10) := Lib.hid (HE70.out.trans HE10.out)
    have HB1310 := Lib.hid (HB137.out.ext HE10.out)
    have HX10 := Lib.hid (HX7.out.ext HE10.out)
    have HXP10 := Lib.hid (HX10.out.e' ⟨HI.out.1, HI.out.2.1, HI.out.2.2⟩)
    unfold Pl.val at HXP10
    obtain ⟨⟨l0, l1, l2, lo⟩, n0, n1, n2, n3, n4, n5, no⟩ := argC HE100.out
    have y0 := HB1310.out 0 _ rfl
    have y1 := HB1310.out 1 _ rfl
    have y2 := HB1310.out 2 _ rfl
    have yo := World.old_of_cell y0
    (refine wp_region_y 5 [(fun u _ => u = (.agg #[.slice ax1 p.clear.length cx1, .slice ax2 p.jobs.length cx2, (.int .i64 p.now)])), (fun u _ => u = (.agg #[.slice a0 p.clear.length k0, .slice b0 p.jobs.length d0, (.int .i64 p.now)])), kPoolE p, (fun u _ => u = (.bool true)), (fun u _ => u = (.bool false))] (by kernel_rfl) (by kernel_rfl) (by kernel_rfl) rfl ?_ (by (repeat' (first | exact trivial | exact XReg.GoodK.same _ default | refine And.intro ?_ ?_)); all_goals exact kPoolE_good HP.out))
    (apply YReg.val (.agg #[.slice ax1 p.clear.length cx1, .slice ax2 p.jobs.length cx2, (.int .i64 p.now)]); (case h => (intro w' hw' hF'; obtain ⟨X', rfl⟩ := hw'; have HF' := Lib.hid hF'; clear hF'; go_wp2_with (fail); exact ⟨rfl, (by repeat (first | exact Ext.refl _ | apply Ext.plus | apply Ext.alloc | apply Ext.drew))⟩)); (case hv => kernel_rfl))
    (apply YReg.val (.agg #[.slice a0 p.clear.length k0, .slice b0 p.jobs.length d0, (.int .i64 p.now)]); (case h => (intro w' hw' hF'; obtain ⟨X', rfl⟩ := hw'; have HF' := Lib.hid hF'; clear hF'; go_wp2_with (fail); exact ⟨rfl, (by repeat (first | exact Ext.refl _ | apply Ext.plus | apply Ext.alloc | apply Ext.drew))⟩)); (case hv => kernel_rfl))
    refine YReg.kind (fun w' hw' hF' => ?_) (fun v1 w1 hK => ?_)
    · have HP9 := Lib.hid ((HP.out.ext (by exact ((Ext.refl w).alloc _).alloc _)).ext (HE100.out.trans hw'))
      obtain ⟨X9, rfl⟩ := hw'
      clear hF'
      go_wp2_with fail
      refine (toPool_any p _ _ (HP9.out.ext (by repeat (first | exact Ext.refl _ | apply Ext.plus | apply Ext.alloc | apply Ext.drew))) hf).mono ?_
      rintro e _ ⟨c9, j9, fc9, fj9, rfl, ⟨Y9, rfl⟩, hO9⟩
      have H9 := Lib.hid (hO9.e HI.out.1 HI.out.2.1 HI.out.2.2)
      obtain ⟨a9, k9, rfl⟩ := hO9.1.shape
      obtain ⟨b9, d9, rfl⟩ := hO9.2.1.shape
      clear hO9
      unfold Pl.val at H9 ⊢
      go_wp2
      exact ⟨(by repeat (first | exact Ext.refl _ | apply Ext.plus | apply Ext.alloc | apply Ext.drew)), H9.out⟩
    obtain ⟨a7, k7, b7, d7, rfl, hq1, hq2, hq3⟩ := hK
    clear hq1 hq2 hq3 w1
    unfold Pl.val
    (apply YReg.val (.bool true); (case h => (intro w' hw' hF'; obtain ⟨X', rfl⟩ := hw'; have HF' := Lib.hid hF'; clear hF'; go_wp2_with ((go_at_call 53; refine (eqPool_self p _ _ _ (HXP10.out.ext (by repeat (first | exact Ext.refl _ | apply Ext.plus | apply Ext.alloc | apply Ext.drew))) (HF'.out.get 2 (p := (kPoolE p, (Value.agg #[.slice a7 p.clear.length k7, .slice b7 p.jobs.length d7, (.int .i64 p.now)]))) (by kernel_rfl) (by kernel_rfl))).mono ?_; rintro e _ ⟨rfl, Y3, rfl⟩)); exact ⟨rfl, (by repeat (first | exact Ext.refl _ | apply Ext.plus | apply Ext.alloc | apply Ext.drew))⟩)); (case hv => kernel_rfl))
    (apply YReg.val (.bool false); (case h => (intro w' hw' hF'; obtain ⟨X', rfl⟩ := hw'; have HF' := Lib.hid hF'; clear hF'; go_wp2_with (fail); exact ⟨rfl, (by repeat (first | exact Ext.refl _ | apply Ext.plus | apply Ext.alloc | apply Ext.drew))⟩)); (case hv => kernel_rfl))
    refine YReg.doneN (fun X4 _ => ?_)
    go_wp2_with fail
    refine (markPool_any p _ _ 1 _ fx1 fx2 _ (HX10.out.ext (by repeat (first | exact Ext.refl _ | apply Ext.plus | apply Ext.alloc | apply Ext.drew))) (by omega)).mono ?_
    rintro e wm ⟨rfl, hx, hmk⟩
    have HEm : Hid (Ext ((w.alloc (.cells #[.slice a0 p.clear.length k0, .slice b0 p.jobs.length d0, (.int .i64 p.now)] 81)).alloc (.cells #[(.int .i64 x0), (.int .i64 x1), (.int .i64 x2), (.int .i64 x3), (.int .i64 x4), (.int .i64 x5)] 89)) wm) := Lib.hid (hx.ext (HE100.out.trans (by repeat (first | exact Ext.refl _ | apply Ext.plus | apply Ext.alloc | apply Ext.drew))) (fun q hq => by have h1 := HX6.out.low q hq; have h2 := HE5.out.below.size; have h3 := HE0'.out.below.size; simp at h3 ⊢; omega))
    have hGm : OwnP B0 wm fg1 fg2 (.slice a6 RP.clear.length e6) (.slice b6 RP.jobs.length d6) RP := (HO14.out.ext (HE10.out.trans (by repeat (first | exact Ext.refl _ | apply Ext.plus | apply Ext.alloc | apply Ext.drew)))).far hx (fun q hq hq2 => by have h1 := HO14.out.low q hq; have h2 := HXlt.out q hq2; omega)
    have hWm : OwnP B0' wm fw1 fw2 (.slice a5 RP.clear.length e5) (.slice b5 RP.jobs.length d5) RP := (HW7.out.ext (HE10.out.trans (by repeat (first | exact Ext.refl _ | apply Ext.plus | apply Ext.alloc | apply Ext.drew)))).far hx (fun q hq hq2 => by have h1 := HW4.out q hq; have h2 := HX6.out.low q hq2; omega)
    have HGm := Lib.hid hGm
    have HWm := Lib.hid hWm
    have HB4m := Lib.hid ((HB47.out.ext (HE10.out.trans (by repeat (first | exact Ext.refl _ | apply Ext.plus | apply Ext.alloc | apply Ext.drew)))).chg hx (fun hq => by have h1 := HX6.out.low _ hq; have h2 := HG4'.out; omega))
    have HB14m := Lib.hid ((HB14.out.ext (HE10.out.trans (by repeat (first | exact Ext.refl _ | apply Ext.plus | apply Ext.alloc | apply Ext.drew)))).chg hx (fun hq => by have h1 := HXlt.out _ hq; have h2 := HG14.out; omega))
    clear hx hmk hGm hWm l0 l1 l2 lo n0 n1 n2 n3 n4 n5 no y0 y1 y2 yo
    have c0 := HB4m.out 0 _ rfl
    have c1 := HB4m.out 1 _ rfl
    have c2 := HB4m.out 2 _ rfl
    have c3 := HB4m.out 3 _ rfl
    have c4 := HB4m.out 4 _ rfl
    have co := World.old_of_cell c0
    have e0 := HB14m.out 0 _ rfl
    have e1 := HB14m.out 1 _ rfl
    have e2 := HB14m.out 2 _ rfl
    have e3 := HB14m.out 3 _ rfl
    have e4 := HB14m.out 4 _ rfl
    have eo := World.old_of_cell e0
    go_wp2_with fail
    refine (eqPoolOut_self RP RI RC _ _ _ _ _ ((HGm.out.ext (by repeat (first | exact Ext.refl _ | apply Ext.plus | apply Ext.alloc | apply Ext.drew))).e' HRI.out.1) ((HWm.out.ext (by repeat (first | exact Ext.refl _ | apply Ext.plus | apply Ext.alloc | apply Ext.drew))).e' HRI.out.1)).mono ?_
    rintro e _ ⟨rfl, ⟨X5, rfl⟩⟩
    go_wp2_with fail
    refine (markPoolOut_any RP RI RC _ _ 1 _ fg1 fg2 _ (HGm.out.ext (by repeat (first | exact Ext.refl _ | apply Ext.plus | apply Ext.alloc | apply Ext.drew))) (by omega)).mono ?_
    rintro e wm2 ⟨rfl, hx, hmk⟩
    have HEn : Hid (Ext ((w.alloc (.cells #[.slice a0 p.clear.length k0, .slice b0 p.jobs.length d0, (.int .i64 p.now)] 81)).alloc (.cells #[(.int .i64 x0), (.int .i64 x1), (.int .i64 x2), (.int .i64 x3), (.int .i64 x4), (.int .i64 x5)] 89)) wm2) := Lib.hid (hx.ext (HEm.out.trans (by repeat (first | exact Ext.refl _ | apply Ext.plus | apply Ext.alloc | apply Ext.drew))) (fun q hq => by have h1 := HO14.out.low q hq; have h2 := HE0.out.below.size; rw [HB0.out] at h1; simp at h2 ⊢; omega))
    have hWn : OwnP B0' wm2 fw1 fw2 (.slice a5 RP.clear.length e5) (.slice b5 RP.jobs.length d5) RP := (HWm.out.ext (by repeat (first | exact Ext.refl _ | apply Ext.plus | apply Ext.alloc | apply Ext.drew))).far hx (fun q hq hq2 => by have h1 := HW4.out q hq; have h2 := HO14.out.low q hq2; have h3 := h5sz.out; omega)
    have HWn := Lib.hid hWn
    have HB4n := Lib.hid ((HB4m.out.ext (by repeat (first | exact Ext.refl _ | apply Ext.plus | apply Ext.alloc | apply Ext.drew))).chg hx (fun hq => by have h1 := HO14.out.low _ hq; have h2 := HG4'.out; have h3 := h5sz.out; omega))
    have HB14n := Lib.hid ((HB14m.out.ext (by repeat (first | exact Ext.refl _ | apply Ext.plus | apply Ext.alloc | apply Ext.drew))).chg hx HN14.out)
    have HM := Lib.hid hmk.reads
    clear hx hmk hWn HGm HWm
    clear c0 c1 c2 c3 c4 co e0 e1 e2 e3 e4 eo
    have c0 := HB4n.out 0 _ rfl
    have c1 := HB4n.out 1 _ rfl
    have c2 := HB4n.out 2 _ rfl
    have c3 := HB4n.out 3 _ rfl
    have c4 := HB4n.out 4 _ rfl
    have co := World.old_of_cell c0
    have e0 := HB14n.out 0 _ rfl
    have e1 := HB14n.out 1 _ rfl
    have e2 := HB14n.out 2 _ rfl
    have e3 := HB14n.out 3 _ rfl
    have e4 := HB14n.out 4 _ rfl
    have eo := World.old_of_cell e0
    go_wp2_with fail
    refine (heldPoolOut_any RP RI RC _ _ 1 _ (HM.out.1.ext (rSl_stable (rc_stable _)) (by repeat (first | exact Ext.refl _ | apply Ext.plus | apply Ext.alloc | apply Ext.drew))) (HM.out.2.ext rJm_stable (by repeat (first | exact Ext.refl _ | apply Ext.plus | apply Ext.alloc | apply Ext.drew))) (by omega)).mono ?_
    rintro e _ ⟨rfl, ⟨X6, rfl⟩⟩
    clear c0 c1 c2 c3 c4 co e0 e1 e2 e3 e4 eo
    go_upto_region 24 with fail
    refine gen_world (fun W hWg => ?_)
    have HE24 : Hid (Ext wm2 W) := Lib.hid (by rw [hWg]; exact (by repeat (first | exact Ext.refl _ | apply Ext.plus | apply Ext.alloc | apply Ext.drew)))
    clear hWg X6
    have HE0 : Hid (Ext ((w.alloc (.cells #[.slice a0 p.clear.length k0, .slice b0 p.jobs.length d0, (.int .i64 p.now)] 81)).alloc (.cells #[(.int .i64 x0), (.int .i64 x1), (.int .i64 x2), (.int .i64 x3), (.int .i64 x4), (.int .i64 x5)] 89)) W) := Lib.hid (HEn.out.trans HE24.out)
    obtain ⟨B0, hB0⟩ : ∃ B0, B0 = W.heap.size := ⟨_, rfl⟩
    have HB0 := Lib.hid hB0
    clear hB0
    obtain ⟨⟨l0, l1, l2, lo⟩, n0, n1, n2, n3, n4, n5, no⟩ := argC HE0.out
    (refine wp_region_y 6 [(fun u _ => u = (.agg #[.slice a0 p.clear.length k0, .slice b0 p.jobs.length d0, (.int .i64 p.now)])), kPoolE p, (fun u _ => u = (.agg #[(.int .i64 x0), (.int .i64 x1), (.int .i64 x2), (.int .i64 x3), (.int .i64 x4), (.int .i64 x5)])), (fun u _ => u = (.agg #[(.int .i64 x0), (.int .i64 x1), (.int .i64 x2), (.int .i64 x3), (.int .i64 x4), (.int .i64 x5)])), kOutO B0 RP RI RC, kBox B0 [.slice none 0 0, .slice none 0 0, (.int .i64 0), (.int .i64 0), (.int .i64 0)] 44] (by kernel_rfl) (by kernel_rfl) (by kernel_rfl) rfl ?_ (by (repeat' (first | exact trivial | exact XReg.GoodK.same _ default | refine And.intro ?_ ?_)); all_goals (first | exact kPoolE_good HP.out | exact kOutO_good HRI.out.2.1 | exact kBox_goodB _ _ _)))
    (apply YReg.val (.agg #[.slice a0 p.clear.length k0, .slice b0 p.jobs.length d0, (.int .i64 p.now)]); (case h => (intro w' hw' hF'; obtain ⟨X', rfl⟩ := hw'; have HF' := Lib.hid hF'; clear hF'; go_wp2_with (fail); exact ⟨rfl, (by repeat (first | exact Ext.refl _ | apply Ext.plus | apply Ext.alloc | apply Ext.drew))⟩)); (case hv => kernel_rfl))
    refine YReg.kind (fun w' hw' hF' => ?_) (fun v1 w1 hK => ?_)
    · have HP9 := Lib.hid ((HP.out.ext (by exact ((Ext.refl w).alloc _).alloc _)).ext (HE0.out.trans hw'))
      obtain ⟨X9, rfl⟩ := hw'
      clear hF'
      go_wp2_with fail
      refine (toPool_any p _ _ (HP9.out.ext (by repeat (first | exact Ext.refl _ | apply Ext.plus | apply Ext.alloc | apply Ext.drew))) hf).mono ?_
      rintro e _ ⟨c9, j9, fc9, fj9, rfl, ⟨Y9, rfl⟩, hO9⟩
      have H9 := Lib.hid (hO9.e HI.out.1 HI.out.2.1 HI.out.2.2)
      obtain ⟨a9, k9, rfl⟩ := hO9.1.shape
      obtain ⟨b9, d9, rfl⟩ := hO9.2.1.shape
      clear hO9
      unfold Pl.val at H9 ⊢
      go_wp2
      exact ⟨(by repeat (first | exact Ext.refl _ | apply Ext.plus | apply Ext.alloc | apply Ext.drew)), H9.out⟩
    obtain ⟨a3, k3, b3, d3, rfl, hq1, hq2, hq3⟩ := hK
    clear hq1 hq2 hq3 w1
    unfold Pl.val
    (apply YReg.val (.agg #[(.int .i64 x0), (.int .i64 x1), (.int .i64 x2), (.int .i64 x3), (.int .i64 x4), (.int .i64 x5)]); (case h => (intro w' hw' hF'; obtain ⟨X', rfl⟩ := hw'; have HF' := Lib.hid hF'; clear hF'; go_wp2_with (fail); exact ⟨rfl, (by repeat (first | exact Ext.refl _ | apply Ext.plus | apply Ext.alloc | apply Ext.drew))⟩)); (case hv => kernel_rfl))
    (apply YReg.val (.agg #[(.int .i64 x0), (.int .i64 x1), (.int .i64 x2), (.int .i64 x3), (.int .i64 x4), (.int .i64 x5)]); (case h => (intro w' hw' hF'; obtain ⟨X', rfl⟩ := hw'; have HF' := Lib.hid hF'; clear hF'; go_wp2_with ((go_at_call 57; refine (toEntry_any _ _ _ _ _ _ _).mono ?_; rintro e _ ⟨rfl, X, rfl⟩)); exact ⟨rfl, (by repeat (first | exact Ext.refl _ | apply Ext.plus | apply Ext.alloc | apply Ext.drew))⟩)); (case hv => kernel_rfl))
    refine YReg.kind (fun w' hw' hF' => ?_) (fun v1 w1 hK => ?_)
    · have HSW : Hid (B0 ≤ w'.heap.size) := Lib.hid (by rw [HB0.out]; exact hw'.below.size)
      have HK9 := Lib.hid (show ePool w' (.agg #[.slice a3 p.clear.length k3, .slice b3 p.jobs.length d3, (.int .i64 p.now)]) p from hF'.get 1 (p := (kPoolE p, .agg #[.slice a3 p.clear.length k3, .slice b3 p.jobs.length d3, (.int .i64 p.now)])) (by kernel_rfl) (by kernel_rfl))
      obtain ⟨X9, rfl⟩ := hw'
      clear hF'
      go_wp2_with fail
      refine (implAct_any p _ ⟨x0, ⟨x1, x2⟩, x3, x4, x5⟩ _ (HK9.out.ext (by repeat (first | exact Ext.refl _ | apply Ext.plus | apply Ext.alloc | apply Ext.drew))) hf HA.out).mono ?_
      rintro e _ ⟨cv9, jv9, fc9, fj9, rfl, ⟨Y9, rfl⟩, hO9⟩
      rw [HEQ.out] at hO9 ⊢
      have H9 := Lib.hid (kOutO_in (id := RI) (c := RC) (hO9.mono HSW.out))
      obtain ⟨a9, c9, rfl⟩ := hO9.1.shape
      obtain ⟨b9, d9, rfl⟩ := hO9.2.1.shape
      clear hO9
      unfold poV at H9 ⊢
      go_wp2
      exact ⟨(by repeat (first | exact Ext.refl _ | apply Ext.plus | apply Ext.alloc | apply Ext.drew)), H9.out⟩
    obtain ⟨a8, e8, b8, d8, fq1, fq2, rfl, hq9⟩ := hK
    clear hq9 w1 fq1 fq2
    unfold poV
    refine YReg.kind (fun w' hw' hF' => ?_) (fun v1 w1 hK => ?_)
    · have HSW : Hid (B0 ≤ w'.heap.size) := Lib.hid (by rw [HB0.out]; exact hw'.below.size)
      have HNB := Lib.hid (heap_alloc_new w' (.cells (List.toArray [.slice none 0 0, .slice none 0 0, (.int .i64 0), (.int .i64 0), (.int .i64 0)]) 44))
      clear hF' hw'
      go_wp2
      exact ⟨(by repeat (first | exact Ext.refl _ | apply Ext.plus | apply Ext.alloc | apply Ext.drew)), _, rfl, HSW.out, HNB.out⟩
    obtain ⟨g18, rfl, hgB, hgh⟩ := hK
    clear hgB hgh w1
    refine YReg.done1 (fun X3 hF => ?_)
    obtain ⟨fh1, fh2, hO5⟩ := kOutO_out (hF 4 (kOutO B0 RP RI RC, .agg #[.slice a8 RP.clear.length e8, .slice b8 RP.jobs.length d8, (.int .i64 RP.now), (.int .i64 RI), (.int .i64 RC)]) (by kernel_rfl))
    have hbx := kBox_g (hF 5 (kBox B0 [.slice none 0 0, .slice none 0 0, (.int .i64 0), (.int .i64 0), (.int .i64 0)] 44, .pointer (some ⟨g18, 0, none⟩)) (by kernel_rfl))
    clear hF
    have HO5 := Lib.hid hO5
    have HBH := Lib.hid hbx.2
    have HG18 := Lib.hid hbx.1
    have hbc := CellsAt.of_heap hbx.2
    have hfz := frozen_of_heap hbx.2
    have m0 := hbc 0 _ rfl
    have m1 := hbc 1 _ rfl
    have m2 := hbc 2 _ rfl
    have m3 := hbc 3 _ rfl
    have m4 := hbc 4 _ rfl
    have hog := World.old_of_cell m0
    clear hbx hbc hO5
    go_upto_region 25 with fail
    clear m0 m1 m2 m3 m4 hog hfz
    refine gen_world (fun W25 hW8 => ?_)
    have hLay : W25 = (W.plus X3).layCells g18 0 [.slice a8 RP.clear.length e8, .slice b8 RP.jobs.length d8, (.int .i64 RP.now), (.int .i64 RI), (.int .i64 RC)] := hW8
    have hC8 : Chg [g18] (W.plus X3) W25 := by rw [hLay]; exact layCells_chg _ _ _ _
    have HB18 : Hid (CellsAt W25 g18 [.slice a8 RP.clear.length e8, .slice b8 RP.jobs.length d8, (.int .i64 RP.now), (.int .i64 RI), (.int .i64 RC)]) := Lib.hid (by rw [hLay]; exact CellsAt.lay HBH.out (by kernel_rfl))
    have hbn := HO5.out.box HBH.out
    have HO18 := Lib.hid (HO5.out.far hC8 (fun q hq hq2 => by
      simp at hq2
      subst hq2
      rcases List.mem_append.1 hq with hq | hq
      · exact hbn.1 hq
      · exact hbn.2 hq))
    have HE25 : Hid (Ext W W25) := Lib.hid (hC8.ext ((Ext.refl _).plus X3) (fun q hq => by simp at hq; subst hq; have := HG18.out; rw [HB0.out] at this; exact this))
    have HN18 : Hid (g18 ∉ fh1 ++ fh2) := Lib.hid (fun hq => by
      rcases List.mem_append.1 hq with hq | hq
      · exact hbn.1 hq
      · exact hbn.2 hq)
    clear hW8 hLay hC8 hbn HBH HO5
    clear l0 l1 l2 lo n0 n1 n2 n3 n4 n5 no
    have HE2 : Hid (Ext wm2 W25) := Lib.hid (HE24.out.trans HE25.out)
    have HB425 := Lib.hid (HB4n.out.ext HE2.out)
    have HB1425 := Lib.hid (HB14n.out.ext HE2.out)
    have HW25 := Lib.hid (HWn.out.ext HE2.out)
    have c0 := HB425.out 0 _ rfl
    have c1 := HB425.out 1 _ rfl
    have c2 := HB425.out 2 _ rfl
    have c3 := HB425.out 3 _ rfl
    have c4 := HB425.out 4 _ rfl
    have co := World.old_of_cell c0
    have e0 := HB18.out 0 _ rfl
    have e1 := HB18.out 1 _ rfl
    have e2 := HB18.out 2 _ rfl
    have e3 := HB18.out 3 _ rfl
    have e4 := HB18.out 4 _ rfl
    have eo := World.old_of_cell e0
    go_wp2_with fail
    refine (eqPoolOut_self RP RI RC _ _ _ _ _ ((HO18.out.ext (by repeat (first | exact Ext.refl _ | apply Ext.plus | apply Ext.alloc | apply Ext.drew))).e' HRI.out.1) ((HW25.out.ext (by repeat (first | exact Ext.refl _ | apply Ext.plus | apply Ext.alloc | apply Ext.drew))).e' HRI.out.1)).mono ?_
    rintro e _ ⟨rfl, ⟨X9, rfl⟩⟩
    clear c0 c1 c2 c3 c4 co e0 e1 e2 e3 e4 eo
    have c0 := HB425.out 0 _ rfl
    have c1 := HB425.out 1 _ rfl
    have c2 := HB425.out 2 _ rfl
    have c3 := HB425.out 3 _ rfl
    have c4 := HB425.out 4 _ rfl
    have co := World.old_of_cell c0
    have e0 := HB1425.out 0 _ rfl
    have e1 := HB1425.out 1 _ rfl
    have e2 := HB1425.out 2 _ rfl
    have e3 := HB1425.out 3 _ rfl
    have e4 := HB1425.out 4 _ rfl
    have eo := World.old_of_cell e0
    go_wp2_with fail
    refine (heldPoolOut_any RP RI RC _ _ 1 _ (HM.out.1.ext (rSl_stable (rc_stable _)) (HE2.out.trans (by repeat (first | exact Ext.refl _ | apply Ext.plus | apply Ext.alloc | apply Ext.drew)))) (HM.out.2.ext rJm_stable (HE2.out.trans (by repeat (first | exact Ext.refl _ | apply Ext.plus | apply Ext.alloc | apply Ext.drew)))) (by omega)).mono ?_
    rintro e _ ⟨rfl, ⟨Z9, rfl⟩⟩
    go_wp2
    go_ret
    exact ⟨rfl, (((Ext.refl w).alloc _).alloc _).trans ((HE0.out.trans HE25.out).trans (by repeat (first | exact Ext.refl _ | apply Ext.plus | apply Ext.alloc | apply Ext.drew)))⟩
  · go_enter Tryz.func7, Tryz.ntmps7
    go_wp2_with fail
    refine (szPool_any p _ 1048576 _ (HP.out.ext (by repeat (first | exact Ext.refl _ | apply Ext.plus | apply Ext.alloc | apply Ext.drew))) (Nat.le_refl _)).mono ?_
    rintro e _ ⟨rfl, ⟨X0, rfl⟩⟩
    rw [if_neg hf]
    go_wp2
    go_ret
    exact ⟨rfl, (by repeat (first | exact Ext.refl _ | apply Ext.plus | apply Ext.alloc | apply Ext.drew))⟩
end Go.Proofs.YtagdkpcdagknlaaGreat
