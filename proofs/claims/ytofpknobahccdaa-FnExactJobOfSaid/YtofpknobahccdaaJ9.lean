/- The law of JobOf. -/
import Derived.Test.YtofpknobahccdaaE5
import Derived.Test.YtofpknobahccdaaC1
set_option maxRecDepth 100000
set_option linter.unusedVariables false
namespace Go.Proofs.Ytofpknobahccdaa
open Go.RowKit Go.Fin1


set_option maxHeartbeats 3200000 in
theorem fnJobOf_any (a : Arg (List Jb)) (x : Lab) (id : Int) (w : World) (h : SlR w 9 rJob a.v a.x) (_ : x.ok) (_ : I64 id) :
    Calls Try.prog 9 #[a.v, x.val, (.int .i64 id)] w fun e w' => e = .returned (.bool true) ∧ Ext w w' := by
  obtain ⟨v, l⟩ := a
  change SlR w 9 rJob v l at h
  change Calls Try.prog 9 #[v, _, _] w _
  unfold Lab.val
  obtain ⟨av, cv, rfl⟩ := h.len
  have HS := Lib.hid h
  have hi := Lib.hid (slr_jobs h)
  clear h
  by_cases hl : szL Jb.sz l ≤ 1048576
  · have ht : decide (((1048576 - szL Jb.sz l : Nat) : Int) < 0) = false := decide_eq_false (by omega)
    have HNN : Hid (∀ j ∈ l, j.nodes.length ≤ 1048576) := Lib.hid (fun j hj => by
      obtain ⟨k, hk, rfl⟩ := List.mem_iff_getElem.1 hj
      exact Nat.le_trans (szL_at Jb.sz hk) hl)
    have HRF := Lib.hid (jobOf_fit hi.out x id)
    have hmx : wL wJb l ≤ 16 * 1048576 := wJb_le hl
    have hmr : wL (fun _ : Int => 1) (jobOf l x id).nodes ≤ 1048576 := by rw [wL_const]; have := jobOf_len HNN.out x id; omega
    generalize hR : jobOf l x id = R at HRF hmr
    have HEQ := Lib.hid hR
    clear hR
    have HRK : Hid (XReg.GoodK (kJobO R)) := Lib.hid (by obtain ⟨_, _, _, h⟩ := oIntS_new default R.nodes (by rw [wL_const] at hmr; unfold maxLen; omega); exact kJobO_good h)
    go_enter Try.func9, Try.ntmps9
    go_wp2_with fail
    refine (szJobS_any _ l 1048576 _ (HS.out.ext rJob_stable (by repeat (first | exact Ext.refl _ | apply Ext.plus | apply Ext.alloc | apply Ext.drew))) (Nat.le_refl _)).mono ?_
    rintro e _ ⟨rfl, ⟨X0, rfl⟩⟩
    rw [if_pos hl]
    go_upto_region 5 with fail
    refine gen_world ?_
    intro W hW
    have hc0 : W.cell? ⟨w.heap.size, 0, none⟩ = some (.int .i64 x.lv) := by rw [hW]; simp [go_sem]
    have hc1 : W.cell? ⟨w.heap.size, 1, none⟩ = some (.int .i64 x.st) := by rw [hW]; simp [go_sem]
    have hcb := World.old_of_cell hc0
    have HSW := Lib.hid (HS.out.ext rJob_stable (show Ext w W by rw [hW]; exact (by repeat (first | exact Ext.refl _ | apply Ext.plus | apply Ext.alloc | apply Ext.drew))))
    have HWE := Lib.hid hW
    clear hW
    (refine wp_region_y 7 [(fun u _ => u = (.slice av l.length cv)), kSl 9 rJob l, (fun u _ => u = (.agg #[(.int .i64 x.lv), (.int .i64 x.st)])), (fun u _ => u = (.agg #[(.int .i64 x.lv), (.int .i64 x.st)])), (fun u _ => u = ((.int .i64 id))), kJobO R, kBox W.heap.size [(.int .i64 0), (.int .i64 0), (.int .i64 0), (.int .i64 0), (.int .i64 0), (.int .i64 0), (.int .i64 0), (.int .i64 0), .slice none 0 0] 31] (by kernel_rfl) (by kernel_rfl) (by kernel_rfl) rfl ?_ (by (repeat' (first | exact trivial | exact XReg.GoodK.same _ default | refine And.intro ?_ ?_)); all_goals (first | exact kSl_good rJob_stable HS.out | exact HRK.out | exact kBox_good _ _ _)))
    (apply YReg.val (.slice av l.length cv); (case h => (intro w' hw' hF'; obtain ⟨X', rfl⟩ := hw'; have HF' := Lib.hid hF'; clear hF'; go_wp2_with (fail); exact ⟨rfl, (by repeat (first | exact Ext.refl _ | apply Ext.plus | apply Ext.alloc | apply Ext.drew))⟩)); (case hv => kernel_rfl))
    refine YReg.kind (fun w' hw' hF' => ?_) (fun v w1 hK => ?_)
    · obtain ⟨X', rfl⟩ := hw'
      clear hF'
      go_wp2_with fail
      refine (toJobS_any _ l _ (HSW.out.ext rJob_stable (by repeat (first | exact Ext.refl _ | apply Ext.plus | apply Ext.alloc | apply Ext.drew))) hl).mono ?_
      rintro e _ ⟨v3, fp3, rfl, ⟨X3, rfl⟩, hO⟩
      have H3 := Lib.hid (oJobS_r hO.1 hi.out)
      clear hO
      obtain ⟨a3, c3, rfl⟩ := H3.out.len
      go_wp2
      exact ⟨(by repeat (first | exact Ext.refl _ | apply Ext.plus | apply Ext.alloc | apply Ext.drew)), _, _, rfl, H3.out⟩
    obtain ⟨a3, c3, rfl, hs3⟩ := hK
    clear hs3 w1
    (apply YReg.val (.agg #[(.int .i64 x.lv), (.int .i64 x.st)]); (case h => (intro w' hw' hF'; obtain ⟨X', rfl⟩ := hw'; have HF' := Lib.hid hF'; clear hF'; go_wp2_with (fail); exact ⟨rfl, (by repeat (first | exact Ext.refl _ | apply Ext.plus | apply Ext.alloc | apply Ext.drew))⟩)); (case hv => kernel_rfl))
    (apply YReg.val (.agg #[(.int .i64 x.lv), (.int .i64 x.st)]); (case h => (intro w' hw' hF'; obtain ⟨X', rfl⟩ := hw'; have HF' := Lib.hid hF'; clear hF'; go_wp2_with ((go_at_call 46; refine (toLabel_any _ _ _).mono ?_; rintro e _ ⟨rfl, X, rfl⟩)); exact ⟨rfl, (by repeat (first | exact Ext.refl _ | apply Ext.plus | apply Ext.alloc | apply Ext.drew))⟩)); (case hv => kernel_rfl))
    (apply YReg.val ((.int .i64 id)); (case h => (intro w' hw' hF'; obtain ⟨X', rfl⟩ := hw'; have HF' := Lib.hid hF'; clear hF'; go_wp2_with (fail); exact ⟨rfl, (by repeat (first | exact Ext.refl _ | apply Ext.plus | apply Ext.alloc | apply Ext.drew))⟩)); (case hv => kernel_rfl))
    refine YReg.kind (fun w' hw' hF' => ?_) (fun v w1 hK => ?_)
    · obtain ⟨X', rfl⟩ := hw'
      have HF' := Lib.hid hF'
      clear hF'
      go_wp2_with fail
      have hk := (HF'.out.get 1 (p := (kSl 9 rJob l, .slice a3 l.length c3)) (by kernel_rfl) (by kernel_rfl))
      refine (specJobOf_any _ l x id _ (kSl_r hk) HNN.out).mono ?_
      clear hk
      rintro e _ ⟨v3, fp3, rfl, ⟨X3, rfl⟩, hO⟩
      rw [HEQ.out] at hO ⊢
      obtain ⟨b3, d3, rfl⟩ := hO.shape
      have H3 := Lib.hid hO
      clear hO
      unfold Jb.val
      go_wp2
      exact ⟨(by repeat (first | exact Ext.refl _ | apply Ext.plus | apply Ext.alloc | apply Ext.drew)), kJobO_in H3.out.1⟩
    obtain ⟨b3, d3, fp4, rfl, hs3⟩ := hK
    clear hs3 w1 fp4
    unfold Jb.val
    refine YReg.kind (fun w' hw' hF' => ?_) (fun v w1 hK => ?_)
    · obtain ⟨X', rfl⟩ := hw'
      clear hF'
      go_wp2_with fail
      refine ⟨(by repeat (first | exact Ext.refl _ | apply Ext.plus | apply Ext.alloc | apply Ext.drew)), _, rfl, ?_, ?_⟩
      · first | omega | (simp only [World.size_plus, World.size_alloc]; omega)
      · have h := heap_alloc_new (W.plus X') (.cells (List.toArray [(.int .i64 0), (.int .i64 0), (.int .i64 0), (.int .i64 0), (.int .i64 0), (.int .i64 0), (.int .i64 0), (.int .i64 0), .slice none 0 0]) 31)
        simp only [World.size_plus] at h
        exact h
    obtain ⟨g5, rfl, hgB, hgh⟩ := hK
    have HGB := Lib.hid hgB
    clear hgB hgh w1
    refine YReg.done1 (fun X hF => ?_)
    obtain ⟨fp5, hO5⟩ := kJobO_r (hF 5 (kJobO R, R.val (.slice b3 R.nodes.length d3)) (by kernel_rfl))
    have hbx := kBox_g (hF 6 (kBox W.heap.size [(.int .i64 0), (.int .i64 0), (.int .i64 0), (.int .i64 0), (.int .i64 0), (.int .i64 0), (.int .i64 0), (.int .i64 0), .slice none 0 0] 31, .pointer (some ⟨g5, 0, none⟩)) (by kernel_rfl))
    clear hF
    have HO5 := Lib.hid hO5
    have HBH := Lib.hid hbx.2
    have hbc := CellsAt.of_heap hbx.2
    have hfz := frozen_of_heap hbx.2
    have c0 := hbc 0 _ rfl
    have c1 := hbc 1 _ rfl
    have c2 := hbc 2 _ rfl
    have c3 := hbc 3 _ rfl
    have c4 := hbc 4 _ rfl
    have c5 := hbc 5 _ rfl
    have c6 := hbc 6 _ rfl
    have c7 := hbc 7 _ rfl
    have c8 := hbc 8 _ rfl
    have hog := World.old_of_cell c0
    clear hbx hbc hO5
    go_upto_region 6 with fail
    clear c0 c1 c2 c3 c4 c5 c6 c7 c8 hog hfz hc0 hc1 hcb
    refine gen_world ?_
    intro W8 hW8
    have hLay : W8 = (W.plus X).layCells g5 0 (R.cells (.slice b3 R.nodes.length d3)) := hW8
    have hC8 : Chg [g5] (W.plus X) W8 := by rw [hLay]; exact layCells_chg _ _ _ _
    have hE8 : Ext W W8 := hC8.ext (by repeat (first | exact Ext.refl _ | apply Ext.plus | apply Ext.alloc | apply Ext.drew)) (fun b hb => by simp at hb; rw [hb]; exact HGB.out)
    have HB5 : Hid (CellsAt W8 g5 (R.cells (.slice b3 R.nodes.length d3))) := Lib.hid (by rw [hLay]; exact CellsAt.lay HBH.out (by kernel_rfl))
    have HO5' := Lib.hid (oIntS_local.chg oIntS_held hC8 (fun b hb hbg => by simp at hbg; subst hbg; exact apart_of_type HBH.out (by decide) (oFl_type HO5.out) hb) HO5.out)
    clear hW8 hLay hC8 HBH HO5 HGB HSW
    obtain ⟨Y5, rfl⟩ := hE8
    have hW := HWE.out
    clear HWE
    subst hW
    have HW := Lib.hid (oIntS_r HO5'.out HRF.out.2)
    have hb5 := HB5.out
    have c0 := hb5 0 _ rfl
    have c1 := hb5 1 _ rfl
    have c2 := hb5 2 _ rfl
    have c3 := hb5 3 _ rfl
    have c4 := hb5 4 _ rfl
    have c5 := hb5 5 _ rfl
    have c6 := hb5 6 _ rfl
    have c7 := hb5 7 _ rfl
    have c8 := hb5 8 _ rfl
    have ho5 := World.old_of_cell c0
    clear hb5
    go_wp2_with fail
    refine (toJobS_any _ l _ (HS.out.ext rJob_stable (by repeat (first | exact Ext.refl _ | apply Ext.plus | apply Ext.alloc | apply Ext.drew))) hl).mono ?_
    rintro e _ ⟨vx, fpx, rfl, ⟨X1, rfl⟩, hO⟩
    have HX := Lib.hid hO
    obtain ⟨ax, cx, rfl⟩ := hO.shape
    have h5x : g5 ∉ fpx := fun hb => absurd (hO.2.2 _ hb) (Nat.not_le.2 ho5)
    clear hO
    go_wp2_with ((go_at_call 46; refine (toLabel_any _ _ _).mono ?_; rintro e _ ⟨rfl, X, rfl⟩))
    have HXB := Lib.hid (oJobS_held _ _ _ _ (HX.out.ext oJobS_local oJobS_held ((Ext.refl _).plus X)).1)
    refine (implJobOf_any _ l x id _ ((oJobS_r HX.out.1 hi.out).ext rJob_stable (by repeat (first | exact Ext.refl _ | apply Ext.plus | apply Ext.alloc | apply Ext.drew))) HNN.out).mono ?_
    rintro e _ ⟨vg, fpg, rfl, ⟨X2, rfl⟩, hO⟩
    rw [HEQ.out] at hO ⊢
    obtain ⟨ag, cg, rfl⟩ := hO.shape
    have HG := Lib.hid hO
    have hnb := CellsAt.new hO (R.cells (.slice ag R.nodes.length cg)) 31
    have hgb := oIntS_held _ _ _ _ hO.1
    simp only [World.size_plus, World.size_alloc] at hnb hgb
    have HB10 := Lib.hid hnb
    have HGB := Lib.hid hgb
    clear hO hnb hgb
    unfold Jb.val
    go_wp2_with fail
    refine (eqJob_self R _ _ _ ((oIntS_r HG.out.1 HRF.out.2).ext rInt_stable (by repeat (first | exact Ext.refl _ | apply Ext.plus | apply Ext.alloc | apply Ext.drew))) (HW.out.ext rInt_stable (by repeat (first | exact Ext.refl _ | apply Ext.plus | apply Ext.alloc | apply Ext.drew)))).mono ?_
    rintro e _ ⟨rfl, ⟨X3, rfl⟩⟩
    go_wp2_with fail
    refine (toJobS_any _ l _ (HS.out.ext rJob_stable (by repeat (first | exact Ext.refl _ | apply Ext.plus | apply Ext.alloc | apply Ext.drew))) hl).mono ?_
    rintro e _ ⟨vy, fpy, rfl, ⟨X4, rfl⟩, hO⟩
    have H2 := Lib.hid (oJobS_r hO.1 hi.out)
    obtain ⟨ay, cy, rfl⟩ := hO.shape
    clear hO
    go_wp2_with fail
    refine (eqJobS_self _ _ l _ ((oJobS_r HX.out.1 hi.out).ext rJob_stable (by repeat (first | exact Ext.refl _ | apply Ext.plus | apply Ext.alloc | apply Ext.drew))) H2.out).mono ?_
    rintro e _ ⟨rfl, ⟨X5, rfl⟩⟩
    go_wp2_with fail
    clear c0 c1 c2 c3 c4 c5 c6 c7 c8
    refine (markJobS_any _ l 1 fpx _ (HX.out.ext oJobS_local oJobS_held (by repeat (first | exact Ext.refl _ | apply Ext.plus | apply Ext.alloc | apply Ext.drew))).1 HX.out.2.1 (by omega)).mono ?_
    rintro e wm ⟨rfl, hx, hmk⟩
    have hE : Ext (w.alloc (.cells #[(.int .i64 x.lv), (.int .i64 x.st)] 23)) wm := hx.grown (by repeat (first | exact Ext.refl _ | apply Ext.plus | apply Ext.alloc | apply Ext.drew)) HX.out.2.2 (by simp; omega)
    have HE1 := Lib.hid (show Ext _ wm from hx.grown ((Ext.refl _).plus X1 |>.plus X |>.plus X2 |>.alloc _ |>.plus X3 |>.plus X4 |>.plus X5) HX.out.2.2 (Nat.le_refl _))
    have HG1 := Lib.hid ((HG.out.ext oIntS_local oIntS_held (by repeat (first | exact Ext.refl _ | apply Ext.plus | apply Ext.alloc | apply Ext.drew))).chg oIntS_local oIntS_held hx (fun b hb => HXB.out b hb))
    have HW1 := Lib.hid (HW.out.ext rInt_stable HE1.out)
    have HB51 := Lib.hid (HB5.out.ext HE1.out)
    have HB101 := Lib.hid (CellsAt.chg (HB10.out.ext (by repeat (first | exact Ext.refl _ | apply Ext.plus | apply Ext.alloc | apply Ext.drew))) hx (fun hb => by have h := HXB.out _ hb; simp only [World.size_plus, World.size_alloc] at h; omega))
    have hb5 := HB51.out
    have hb10 := HB101.out
    clear hmk hx HX HXB H2 HG HB10 HB51 HB101 ho5
    obtain ⟨Y6, rfl⟩ := hE
    have c0 := hb5 0 _ rfl
    have c1 := hb5 1 _ rfl
    have c2 := hb5 2 _ rfl
    have c3 := hb5 3 _ rfl
    have c4 := hb5 4 _ rfl
    have c5 := hb5 5 _ rfl
    have c6 := hb5 6 _ rfl
    have c7 := hb5 7 _ rfl
    have c8 := hb5 8 _ rfl
    have ho5 := World.old_of_cell c0
    have e0 := hb10 0 _ rfl
    have e1 := hb10 1 _ rfl
    have e2 := hb10 2 _ rfl
    have e3 := hb10 3 _ rfl
    have e4 := hb10 4 _ rfl
    have e5 := hb10 5 _ rfl
    have e6 := hb10 6 _ rfl
    have e7 := hb10 7 _ rfl
    have e8 := hb10 8 _ rfl
    have ho10 := World.old_of_cell e0
    clear hb5
    have HB102 := Lib.hid hb10
    clear hb10
    go_wp2_with fail
    refine (eqJob_self R _ _ _ ((oIntS_r HG1.out.1 HRF.out.2).ext rInt_stable (by repeat (first | exact Ext.refl _ | apply Ext.plus | apply Ext.alloc | apply Ext.drew))) (HW1.out.ext rInt_stable (by repeat (first | exact Ext.refl _ | apply Ext.plus | apply Ext.alloc | apply Ext.drew)))).mono ?_
    rintro e _ ⟨rfl, ⟨X6, rfl⟩⟩
    go_wp2_with fail
    refine (markJob_any R _ 1 fpg _ (HG1.out.ext oIntS_local oIntS_held (by repeat (first | exact Ext.refl _ | apply Ext.plus | apply Ext.alloc | apply Ext.drew))).1 HG1.out.2.1 (by omega)).mono ?_
    rintro e wm ⟨rfl, hx, hmk⟩
    have hE : Ext (w.alloc (.cells #[(.int .i64 x.lv), (.int .i64 x.st)] 23)) wm := hx.grown (by repeat (first | exact Ext.refl _ | apply Ext.plus | apply Ext.alloc | apply Ext.drew)) HG1.out.2.2 (by simp; omega)
    have HE2 := Lib.hid (show Ext _ wm from hx.grown (HE1.out.plus X6) HG1.out.2.2 (by simp; omega))
    have HW2 := Lib.hid (HW.out.ext rInt_stable HE2.out)
    have HB52 := Lib.hid (HB5.out.ext HE2.out)
    have HB103 := Lib.hid (CellsAt.chg (HB102.out.ext (by repeat (first | exact Ext.refl _ | apply Ext.plus | apply Ext.alloc | apply Ext.drew))) hx (fun hb => by have h := HGB.out _ hb; omega))
    have HM := Lib.hid (oFl_reads (f := intCell) (fun _ => rfl) hmk)
    clear c0 c1 c2 c3 c4 c5 c6 c7 c8 ho5 e0 e1 e2 e3 e4 e5 e6 e7 e8 ho10
    clear hmk hx HG1 HW1 HW HE1 HE2 HB5 HB102 HGB
    have hb10 := HB103.out
    clear HB103
    obtain ⟨Y7, rfl⟩ := hE
    have e0 := hb10 0 _ rfl
    have e1 := hb10 1 _ rfl
    have e2 := hb10 2 _ rfl
    have e3 := hb10 3 _ rfl
    have e4 := hb10 4 _ rfl
    have e5 := hb10 5 _ rfl
    have e6 := hb10 6 _ rfl
    have e7 := hb10 7 _ rfl
    have e8 := hb10 8 _ rfl
    have ho10 := World.old_of_cell e0
    have HB104 := Lib.hid hb10
    clear hb10
    go_wp2_with fail
    refine (heldJob_any R _ 1 _ (HM.out.ext (rc_stable _) (by repeat (first | exact Ext.refl _ | apply Ext.plus | apply Ext.alloc | apply Ext.drew))) (by omega)).mono ?_
    rintro e _ ⟨rfl, ⟨X7, rfl⟩⟩
    clear e0 e1 e2 e3 e4 e5 e6 e7 e8 ho10
    go_upto_region 24 with fail
    refine gen_world ?_
    intro W hW
    have hc0 : W.cell? ⟨w.heap.size, 0, none⟩ = some (.int .i64 x.lv) := by rw [hW]; simp [go_sem]
    have hc1 : W.cell? ⟨w.heap.size, 1, none⟩ = some (.int .i64 x.st) := by rw [hW]; simp [go_sem]
    have hcb := World.old_of_cell hc0
    have HSW := Lib.hid (HS.out.ext rJob_stable (show Ext w W by rw [hW]; exact (by repeat (first | exact Ext.refl _ | apply Ext.plus | apply Ext.alloc | apply Ext.drew))))
    have HWE := Lib.hid hW
    clear hW
    (refine wp_region_y 7 [(fun u _ => u = (.slice av l.length cv)), kSl 9 rJob l, (fun u _ => u = (.agg #[(.int .i64 x.lv), (.int .i64 x.st)])), (fun u _ => u = (.agg #[(.int .i64 x.lv), (.int .i64 x.st)])), (fun u _ => u = ((.int .i64 id))), kJobO R, kBox W.heap.size [(.int .i64 0), (.int .i64 0), (.int .i64 0), (.int .i64 0), (.int .i64 0), (.int .i64 0), (.int .i64 0), (.int .i64 0), .slice none 0 0] 31] (by kernel_rfl) (by kernel_rfl) (by kernel_rfl) rfl ?_ (by (repeat' (first | exact trivial | exact XReg.GoodK.same _ default | refine And.intro ?_ ?_)); all_goals (first | exact kSl_good rJob_stable HS.out | exact HRK.out | exact kBox_good _ _ _)))
    (apply YReg.val (.slice av l.length cv); (case h => (intro w' hw' hF'; obtain ⟨X', rfl⟩ := hw'; have HF' := Lib.hid hF'; clear hF'; go_wp2_with (fail); exact ⟨rfl, (by repeat (first | exact Ext.refl _ | apply Ext.plus | apply Ext.alloc | apply Ext.drew))⟩)); (case hv => kernel_rfl))
    refine YReg.kind (fun w' hw' hF' => ?_) (fun v w1 hK => ?_)
    · obtain ⟨X', rfl⟩ := hw'
      clear hF'
      go_wp2_with fail
      refine (toJobS_any _ l _ (HSW.out.ext rJob_stable (by repeat (first | exact Ext.refl _ | apply Ext.plus | apply Ext.alloc | apply Ext.drew))) hl).mono ?_
      rintro e _ ⟨v3, fp3, rfl, ⟨X3, rfl⟩, hO⟩
      have H3 := Lib.hid (oJobS_r hO.1 hi.out)
      clear hO
      obtain ⟨a3, c3, rfl⟩ := H3.out.len
      go_wp2
      exact ⟨(by repeat (first | exact Ext.refl _ | apply Ext.plus | apply Ext.alloc | apply Ext.drew)), _, _, rfl, H3.out⟩
    obtain ⟨a3, c3, rfl, hs3⟩ := hK
    clear hs3 w1
    (apply YReg.val (.agg #[(.int .i64 x.lv), (.int .i64 x.st)]); (case h => (intro w' hw' hF'; obtain ⟨X', rfl⟩ := hw'; have HF' := Lib.hid hF'; clear hF'; go_wp2_with (fail); exact ⟨rfl, (by repeat (first | exact Ext.refl _ | apply Ext.plus | apply Ext.alloc | apply Ext.drew))⟩)); (case hv => kernel_rfl))
    (apply YReg.val (.agg #[(.int .i64 x.lv), (.int .i64 x.st)]); (case h => (intro w' hw' hF'; obtain ⟨X', rfl⟩ := hw'; have HF' := Lib.hid hF'; clear hF'; go_wp2_with ((go_at_call 46; refine (toLabel_any _ _ _).mono ?_; rintro e _ ⟨rfl, X, rfl⟩)); exact ⟨rfl, (by repeat (first | exact Ext.refl _ | apply Ext.plus | apply Ext.alloc | apply Ext.drew))⟩)); (case hv => kernel_rfl))
    (apply YReg.val ((.int .i64 id)); (case h => (intro w' hw' hF'; obtain ⟨X', rfl⟩ := hw'; have HF' := Lib.hid hF'; clear hF'; go_wp2_with (fail); exact ⟨rfl, (by repeat (first | exact Ext.refl _ | apply Ext.plus | apply Ext.alloc | apply Ext.drew))⟩)); (case hv => kernel_rfl))
    refine YReg.kind (fun w' hw' hF' => ?_) (fun v w1 hK => ?_)
    · obtain ⟨X', rfl⟩ := hw'
      have HF' := Lib.hid hF'
      clear hF'
      go_wp2_with fail
      have hk := (HF'.out.get 1 (p := (kSl 9 rJob l, .slice a3 l.length c3)) (by kernel_rfl) (by kernel_rfl))
      refine (implJobOf_any _ l x id _ (kSl_r hk) HNN.out).mono ?_
      clear hk
      rintro e _ ⟨v3, fp3, rfl, ⟨X3, rfl⟩, hO⟩
      rw [HEQ.out] at hO ⊢
      obtain ⟨b3, d3, rfl⟩ := hO.shape
      have H3 := Lib.hid hO
      clear hO
      unfold Jb.val
      go_wp2
      exact ⟨(by repeat (first | exact Ext.refl _ | apply Ext.plus | apply Ext.alloc | apply Ext.drew)), kJobO_in H3.out.1⟩
    obtain ⟨b3, d3, fp4, rfl, hs3⟩ := hK
    clear hs3 w1 fp4
    unfold Jb.val
    refine YReg.kind (fun w' hw' hF' => ?_) (fun v w1 hK => ?_)
    · obtain ⟨X', rfl⟩ := hw'
      clear hF'
      go_wp2_with fail
      refine ⟨(by repeat (first | exact Ext.refl _ | apply Ext.plus | apply Ext.alloc | apply Ext.drew)), _, rfl, ?_, ?_⟩
      · first | omega | (simp only [World.size_plus, World.size_alloc]; omega)
      · have h := heap_alloc_new (W.plus X') (.cells (List.toArray [(.int .i64 0), (.int .i64 0), (.int .i64 0), (.int .i64 0), (.int .i64 0), (.int .i64 0), (.int .i64 0), (.int .i64 0), .slice none 0 0]) 31)
        simp only [World.size_plus] at h
        exact h
    obtain ⟨g24, rfl, hgB, hgh⟩ := hK
    have HGB := Lib.hid hgB
    clear hgB hgh w1
    refine YReg.done1 (fun X hF => ?_)
    obtain ⟨fp6, hO5⟩ := kJobO_r (hF 5 (kJobO R, R.val (.slice b3 R.nodes.length d3)) (by kernel_rfl))
    have hbx := kBox_g (hF 6 (kBox W.heap.size [(.int .i64 0), (.int .i64 0), (.int .i64 0), (.int .i64 0), (.int .i64 0), (.int .i64 0), (.int .i64 0), (.int .i64 0), .slice none 0 0] 31, .pointer (some ⟨g24, 0, none⟩)) (by kernel_rfl))
    clear hF
    have HO5 := Lib.hid hO5
    have HBH := Lib.hid hbx.2
    have hbc := CellsAt.of_heap hbx.2
    have hfz := frozen_of_heap hbx.2
    have c0 := hbc 0 _ rfl
    have c1 := hbc 1 _ rfl
    have c2 := hbc 2 _ rfl
    have c3 := hbc 3 _ rfl
    have c4 := hbc 4 _ rfl
    have c5 := hbc 5 _ rfl
    have c6 := hbc 6 _ rfl
    have c7 := hbc 7 _ rfl
    have c8 := hbc 8 _ rfl
    have hog := World.old_of_cell c0
    clear hbx hbc hO5
    go_upto_region 25 with fail
    clear c0 c1 c2 c3 c4 c5 c6 c7 c8 hog hfz hc0 hc1 hcb
    refine gen_world ?_
    intro W8 hW8
    have hLay : W8 = (W.plus X).layCells g24 0 (R.cells (.slice b3 R.nodes.length d3)) := hW8
    have hC8 : Chg [g24] (W.plus X) W8 := by rw [hLay]; exact layCells_chg _ _ _ _
    have hE8 : Ext W W8 := hC8.ext (by repeat (first | exact Ext.refl _ | apply Ext.plus | apply Ext.alloc | apply Ext.drew)) (fun b hb => by simp at hb; rw [hb]; exact HGB.out)
    have HB24 : Hid (CellsAt W8 g24 (R.cells (.slice b3 R.nodes.length d3))) := Lib.hid (by rw [hLay]; exact CellsAt.lay HBH.out (by kernel_rfl))
    have HO24 := Lib.hid (oIntS_local.chg oIntS_held hC8 (fun b hb hbg => by simp at hbg; subst hbg; exact apart_of_type HBH.out (by decide) (oFl_type HO5.out) hb) HO5.out)
    clear hW8 hLay hC8 HBH HO5 HGB HSW
    obtain ⟨Y8, rfl⟩ := hE8
    have hW := HWE.out
    clear HWE
    subst hW
    have HE52 := Lib.hid (HB52.out.ext (show Ext _ _ from ((Ext.refl _).plus X7 |>.plus Y8)))
    have hb5 := HE52.out
    have c0 := hb5 0 _ rfl
    have c1 := hb5 1 _ rfl
    have c2 := hb5 2 _ rfl
    have c3 := hb5 3 _ rfl
    have c4 := hb5 4 _ rfl
    have c5 := hb5 5 _ rfl
    have c6 := hb5 6 _ rfl
    have c7 := hb5 7 _ rfl
    have c8 := hb5 8 _ rfl
    have ho5 := World.old_of_cell c0
    have hb10 := HB24.out
    have e0 := hb10 0 _ rfl
    have e1 := hb10 1 _ rfl
    have e2 := hb10 2 _ rfl
    have e3 := hb10 3 _ rfl
    have e4 := hb10 4 _ rfl
    have e5 := hb10 5 _ rfl
    have e6 := hb10 6 _ rfl
    have e7 := hb10 7 _ rfl
    have e8 := hb10 8 _ rfl
    have ho24 := World.old_of_cell e0
    have hb104 := HB104.out.ext (show Ext _ _ from ((Ext.refl _).plus X7 |>.plus Y8))
    have f0 := hb104 0 _ rfl
    have f1 := hb104 1 _ rfl
    have f2 := hb104 2 _ rfl
    have f3 := hb104 3 _ rfl
    have f4 := hb104 4 _ rfl
    have f5 := hb104 5 _ rfl
    have f6 := hb104 6 _ rfl
    have f7 := hb104 7 _ rfl
    have f8 := hb104 8 _ rfl
    have ho104 := World.old_of_cell f0
    clear hb5 hb10 hb104
    go_wp2_with fail
    refine (eqJob_self R _ _ _ ((oIntS_r HO24.out HRF.out.2).ext rInt_stable (by repeat (first | exact Ext.refl _ | apply Ext.plus | apply Ext.alloc | apply Ext.drew))) (HW2.out.ext rInt_stable (by repeat (first | exact Ext.refl _ | apply Ext.plus | apply Ext.alloc | apply Ext.drew)))).mono ?_
    rintro e _ ⟨rfl, ⟨X8, rfl⟩⟩
    go_wp2_with fail
    refine (heldJob_any R _ 1 _ (HM.out.ext (rc_stable _) (by repeat (first | exact Ext.refl _ | apply Ext.plus | apply Ext.alloc | apply Ext.drew))) (by omega)).mono ?_
    rintro e _ ⟨rfl, ⟨X9, rfl⟩⟩
    go_wp2
    go_ret
    exact ⟨rfl, (by repeat (first | exact Ext.refl _ | apply Ext.plus | apply Ext.alloc | apply Ext.drew))⟩
  · go_enter Try.func9, Try.ntmps9
    go_wp2_with fail
    refine (szJobS_any _ l 1048576 _ (HS.out.ext rJob_stable (by repeat (first | exact Ext.refl _ | apply Ext.plus | apply Ext.alloc | apply Ext.drew))) (Nat.le_refl _)).mono ?_
    rintro e _ ⟨rfl, ⟨X0, rfl⟩⟩
    rw [if_neg hl]
    go_wp2
    go_ret
    exact ⟨rfl, (by repeat (first | exact Ext.refl _ | apply Ext.plus | apply Ext.alloc | apply Ext.drew))⟩
end Go.Proofs.Ytofpknobahccdaa
