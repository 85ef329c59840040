/- The law of NextTime. -/
import Derived.Test.YtgildaidogjogaaD17
import Derived.Test.YtgildaidogjogaaD14
set_option maxRecDepth 100000
set_option linter.unusedVariables false
namespace Go.Proofs.Ytgildaidogjogaa
open Go.RowKit Go.Fin1

theorem nextR_ok {d : Dk} (h0 : I64 d.used) (hp : ∀ x ∈ d.pairs, x.ok) (ha : ∀ x ∈ d.audit, x.ok) : I64 (nextR d).1.used ∧ I64 (nextR d).1.now ∧ (∀ x ∈ (nextR d).1.pairs, x.ok) ∧ (∀ x ∈ (nextR d).1.box, x.ok) ∧ (∀ x ∈ (nextR d).1.audit, x.ok) ∧ (nextR d).1.sz ≤ d.sz := by
  have z : I64 0 := by unfold I64; constructor <;> decide
  have zz : I64 zD.used ∧ I64 zD.now ∧ (∀ x ∈ zD.pairs, x.ok) ∧ (∀ x ∈ zD.box, x.ok) ∧ (∀ x ∈ zD.audit, x.ok) ∧ zD.sz ≤ d.sz := ⟨z, z, (fun x hx => by cases hx), (fun x hx => by cases hx), (fun x hx => by cases hx), Nat.zero_le _⟩
  cases hb : boxR d
  · rw [nextR_no hb]; exact zz
  · by_cases hn : d.now = 999900
    · rw [nextR_full hb hn]; exact zz
    · rw [nextR_yes hb hn]
      have hnow := isIn_iff.1 (boxR_at hb).2.1
      refine ⟨z, (by show I64 (d.now + 1); unfold I64; omega), hp, (fun x hx => by cases hx), ha, ?_⟩
      show d.pairs.length + 0 + d.audit.length ≤ d.pairs.length + d.box.length + d.audit.length
      omega
theorem OwnD.reads {B : Nat} {w : World} {f1 f2 f3 : List Nat} {p b a : Value} {d : Dk} (h : OwnD B w f1 f2 f3 p b a d) : SlR w 6 (rc Ltr.cells) p d.pairs ∧ SlR w 6 (rc Ltr.cells) b d.box ∧ SlR w 6 (rc Ltr.cells) a d.audit :=
  ⟨oFl_reads (f := Ltr.cells) (fun _ => rfl) h.p.1, oFl_reads (f := Ltr.cells) (fun _ => rfl) h.b.1, oFl_reads (f := Ltr.cells) (fun _ => rfl) h.a.1⟩


set_option maxHeartbeats 3200000 in
theorem fnNextTime_any (a : Arg Dk) (w : World) (h : eDesk w a.v a.x) :
    Calls Try.prog 5 #[a.v] w fun e w' => e = .returned (.bool true) ∧ Ext w w' := by
  obtain ⟨v, d⟩ := a
  change eDesk w v d at h
  change Calls Try.prog 5 #[v] w _
  have HP := Lib.hid h
  obtain ⟨ap0, kp0, ab0, kb0, as0, ks0, rfl, hu, hn, h1, h2, h3⟩ := h
  have HI : Hid (I64 d.used ∧ I64 d.now ∧ (∀ x ∈ d.pairs, x.ok) ∧ (∀ x ∈ d.box, x.ok) ∧ ∀ x ∈ d.audit, x.ok) := Lib.hid ⟨hu, hn, slr_ltrs h1, slr_ltrs h2, slr_ltrs h3⟩
  clear h1 h2 h3 hn hu
  unfold Dk.val at HP ⊢
  by_cases hf : d.sz ≤ 1048576
  · have ht : decide (((1048576 - d.sz : Nat) : Int) < 0) = false := decide_eq_false (by omega)
    have HRI := Lib.hid (nextR_ok HI.out.1 HI.out.2.2.1 HI.out.2.2.2.2)
    have hmx : wDk d ≤ 6 * 1048576 := wDk_le hf
    have hmr : wDk (nextR d).1 ≤ 6 * 1048576 := wDk_le (Nat.le_trans HRI.out.2.2.2.2.2 hf)
    generalize hR : nextR d = R at HRI hmr
    obtain ⟨RD, RC⟩ := R
    have HEQ := Lib.hid hR
    simp only at HRI hmr
    clear hR
    go_enter Try.func5, Try.ntmps5
    go_wp2_with fail
    refine (szDesk_any d _ 1048576 _ (HP.out.ext (by repeat (first | exact Ext.refl _ | apply Ext.plus | apply Ext.alloc | apply Ext.drew))) (Nat.le_refl _)).mono ?_
    rintro e _ ⟨rfl, ⟨X0, rfl⟩⟩
    rw [if_pos hf]
    go_wp2_with fail
    refine (toDesk_any d _ _ (HP.out.ext (by repeat (first | exact Ext.refl _ | apply Ext.plus | apply Ext.alloc | apply Ext.drew))) hf).mono ?_
    rintro e _ ⟨p0z, b0z, s0z, fp0z, fb0z, fs0z, rfl, ⟨X0z, rfl⟩, hO⟩
    have HT := Lib.hid (hO.e HI.out.1 HI.out.2.1 HI.out.2.2.1 HI.out.2.2.2.1 HI.out.2.2.2.2)
    have OT := Lib.hid hO
    obtain ⟨ap0z, kp0z, rfl⟩ := hO.p.shape
    obtain ⟨ab0z, kb0z, rfl⟩ := hO.b.shape
    obtain ⟨as0z, ks0z, rfl⟩ := hO.a.shape
    clear hO
    unfold Dk.val at HT ⊢
    clear OT
    go_wp2_with fail
    refine (specNextTime_any d _ _ HT.out hf).mono ?_
    rintro e _ ⟨pw, bw, aw, fw1, fw2, fw3, rfl, ⟨Y0, rfl⟩, ow1, ow2, ow3⟩
    rw [HEQ.out] at ow1 ow2 ow3 ⊢
    obtain ⟨aw1, cw1, rfl⟩ := ow1.shape
    obtain ⟨aw2, cw2, rfl⟩ := ow2.shape
    obtain ⟨aw3, cw3, rfl⟩ := ow3.shape
    have HW := Lib.hid ((own_eDesk ow1 ow2 ow3 HRI.out.1 HRI.out.2.1 HRI.out.2.2.1 HRI.out.2.2.2.1 HRI.out.2.2.2.2.1).ext (Ext.alloc (Ext.refl _) (.cells #[.slice aw1 RD.pairs.length cw1, .slice aw2 RD.box.length cw2, .slice aw3 RD.audit.length cw3, (.int .i64 RD.used), (.int .i64 RD.now), (.int .i64 RC)] 44)))
    have hnb := CellsAt.new ow1 [.slice aw1 RD.pairs.length cw1, .slice aw2 RD.box.length cw2, .slice aw3 RD.audit.length cw3, (.int .i64 RD.used), (.int .i64 RD.now), (.int .i64 RC)] 44
    simp only [World.size_plus, World.size_alloc] at hnb
    have HB4 := Lib.hid hnb
    clear ow1 ow2 ow3 hnb HT
    unfold stV
    go_wp2_with fail
    refine (toDesk_any d _ _ (HP.out.ext (by repeat (first | exact Ext.refl _ | apply Ext.plus | apply Ext.alloc | apply Ext.drew))) hf).mono ?_
    rintro e _ ⟨p1, b1, s1, fp1, fb1, fs1, rfl, ⟨X1, rfl⟩, hO⟩
    have HX := Lib.hid (hO.e HI.out.1 HI.out.2.1 HI.out.2.2.1 HI.out.2.2.2.1 HI.out.2.2.2.2)
    have OX := Lib.hid hO
    obtain ⟨ap1, kp1, rfl⟩ := hO.p.shape
    obtain ⟨ab1, kb1, rfl⟩ := hO.b.shape
    obtain ⟨as1, ks1, rfl⟩ := hO.a.shape
    clear hO
    unfold Dk.val at HX ⊢
    have HXU := Lib.hid OX.out.high
    have HXL := Lib.hid OX.out.low
    simp only [World.size_plus, World.size_alloc] at HXU HXL
    go_wp2_with fail
    refine (implNextTime_any d _ _ (HX.out.ext (by repeat (first | exact Ext.refl _ | apply Ext.plus | apply Ext.alloc | apply Ext.drew))) hf).mono ?_
    rintro e _ ⟨pg, bg, ag, fg1, fg2, fg3, rfl, ⟨Y1, rfl⟩, hO⟩
    rw [HEQ.out] at hO ⊢
    obtain ⟨ag1, cg1, rfl⟩ := hO.p.shape
    obtain ⟨ag2, cg2, rfl⟩ := hO.b.shape
    obtain ⟨ag3, cg3, rfl⟩ := hO.a.shape
    have HG := Lib.hid hO
    have HGU := Lib.hid hO.high
    have hnb := CellsAt.new hO.p [.slice ag1 RD.pairs.length cg1, .slice ag2 RD.box.length cg2, .slice ag3 RD.audit.length cg3, (.int .i64 RD.used), (.int .i64 RD.now), (.int .i64 RC)] 44
    simp only [World.size_plus, World.size_alloc] at hnb HGU
    have HB6 := Lib.hid hnb
    clear hO hnb
    unfold stV
    go_wp2_with fail
    refine (eqDeskStep_self RD RC _ _ _ _ _ _ _ ((HG.out.ext (by repeat (first | exact Ext.refl _ | apply Ext.plus | apply Ext.alloc | apply Ext.drew))).e HRI.out.1 HRI.out.2.1 HRI.out.2.2.1 HRI.out.2.2.2.1 HRI.out.2.2.2.2.1) (HW.out.ext (by repeat (first | exact Ext.refl _ | apply Ext.plus | apply Ext.alloc | apply Ext.drew)))).mono ?_
    rintro e _ ⟨rfl, ⟨X3, rfl⟩⟩
    go_upto_region 10 with fail
    (refine wp_region_y 5 [(fun u _ => u = (.agg #[.slice ap1 d.pairs.length kp1, .slice ab1 d.box.length kb1, .slice as1 d.audit.length ks1, (.int .i64 d.used), (.int .i64 d.now)])), (fun u _ => u = (.agg #[.slice ap0 d.pairs.length kp0, .slice ab0 d.box.length kb0, .slice as0 d.audit.length ks0, (.int .i64 d.used), (.int .i64 d.now)])), kDesk d, (fun u _ => u = (.bool true)), (fun u _ => u = (.bool false))] (by kernel_rfl) (by kernel_rfl) (by kernel_rfl) rfl ?_ (by (repeat' (first | exact trivial | exact XReg.GoodK.same _ default | refine And.intro ?_ ?_)); all_goals exact kDesk_good HX.out))
    (apply YReg.val (.agg #[.slice ap1 d.pairs.length kp1, .slice ab1 d.box.length kb1, .slice as1 d.audit.length ks1, (.int .i64 d.used), (.int .i64 d.now)]); (case h => (intro w' hw' hF'; obtain ⟨X', rfl⟩ := hw'; have HF' := Lib.hid hF'; clear hF'; go_wp2_with (fail); exact ⟨rfl, (by repeat (first | exact Ext.refl _ | apply Ext.plus | apply Ext.alloc | apply Ext.drew))⟩)); (case hv => kernel_rfl))
    (apply YReg.val (.agg #[.slice ap0 d.pairs.length kp0, .slice ab0 d.box.length kb0, .slice as0 d.audit.length ks0, (.int .i64 d.used), (.int .i64 d.now)]); (case h => (intro w' hw' hF'; obtain ⟨X', rfl⟩ := hw'; have HF' := Lib.hid hF'; clear hF'; go_wp2_with (fail); exact ⟨rfl, (by repeat (first | exact Ext.refl _ | apply Ext.plus | apply Ext.alloc | apply Ext.drew))⟩)); (case hv => kernel_rfl))
    refine YReg.kind (fun w' hw' hF' => ?_) (fun v w1 hK => ?_)
    · obtain ⟨X', rfl⟩ := hw'
      clear hF'
      go_wp2_with fail
      refine (toDesk_any d _ _ (HP.out.ext (by repeat (first | exact Ext.refl _ | apply Ext.plus | apply Ext.alloc | apply Ext.drew))) hf).mono ?_
      rintro e _ ⟨p3, b3, s3, fp3, fb3, fs3, rfl, ⟨X3, rfl⟩, hO⟩
      have H3 := Lib.hid (hO.e HI.out.1 HI.out.2.1 HI.out.2.2.1 HI.out.2.2.2.1 HI.out.2.2.2.2)
      have O3 := Lib.hid hO
      obtain ⟨ap3, kp3, rfl⟩ := hO.p.shape
      obtain ⟨ab3, kb3, rfl⟩ := hO.b.shape
      obtain ⟨as3, ks3, rfl⟩ := hO.a.shape
      clear hO
      unfold Dk.val at H3 ⊢
      go_wp2
      exact ⟨(by repeat (first | exact Ext.refl _ | apply Ext.plus | apply Ext.alloc | apply Ext.drew)), H3.out⟩
    obtain ⟨ap4, kp4, ab4, kb4, as4, ks4, rfl, hq1, hq2, hq3, hq4, hq5⟩ := hK
    clear hq1 hq2 hq3 hq4 hq5 w1
    unfold Dk.val
    (apply YReg.val (.bool true); (case h => (intro w' hw' hF'; obtain ⟨X', rfl⟩ := hw'; have HF' := Lib.hid hF'; clear hF'; go_wp2_with ((go_at_call 20; refine (eqDesk_self d _ _ _ (HX.out.ext (by repeat (first | exact Ext.refl _ | apply Ext.plus | apply Ext.alloc | apply Ext.drew))) (HF'.out.get 2 (p := (kDesk d, (Value.agg #[.slice ap4 d.pairs.length kp4, .slice ab4 d.box.length kb4, .slice as4 d.audit.length ks4, (.int .i64 d.used), (.int .i64 d.now)]))) (by kernel_rfl) (by kernel_rfl))).mono ?_; rintro e _ ⟨rfl, Y3, rfl⟩)); exact ⟨rfl, (by repeat (first | exact Ext.refl _ | apply Ext.plus | apply Ext.alloc | apply Ext.drew))⟩)); (case hv => kernel_rfl))
    (apply YReg.val (.bool false); (case h => (intro w' hw' hF'; obtain ⟨X', rfl⟩ := hw'; have HF' := Lib.hid hF'; clear hF'; go_wp2_with (fail); exact ⟨rfl, (by repeat (first | exact Ext.refl _ | apply Ext.plus | apply Ext.alloc | apply Ext.drew))⟩)); (case hv => kernel_rfl))
    refine YReg.doneN (fun X4 _ => ?_)
    go_wp2_with fail
    refine (markDesk_any d _ _ _ 1 _ fp1 fb1 fs1 _ (OX.out.ext (by repeat (first | exact Ext.refl _ | apply Ext.plus | apply Ext.alloc | apply Ext.drew))) (by omega)).mono ?_
    rintro e wm ⟨rfl, hx, hmk⟩
    have hE : Ext (w.alloc (.cells #[.slice ap0 d.pairs.length kp0, .slice ab0 d.box.length kb0, .slice as0 d.audit.length ks0, (.int .i64 d.used), (.int .i64 d.now)] 24)) wm := hx.grown (by repeat (first | exact Ext.refl _ | apply Ext.plus | apply Ext.alloc | apply Ext.drew)) HXL.out (by simp; try omega)
    have HG1 := Lib.hid ((HG.out.ext (by repeat (first | exact Ext.refl _ | apply Ext.plus | apply Ext.alloc | apply Ext.drew))).chg hx (fun b hb => Nat.lt_of_lt_of_le (HXU.out b hb) (by simp)))
    have HE1 := Lib.hid (show Ext _ wm from hx.grown ((Ext.refl _).plus X1 |>.alloc _ |>.plus Y1 |>.alloc _ |>.plus X3 |>.plus X4) HXL.out (by simp))
    have HW1 := Lib.hid (HW.out.ext HE1.out)
    have HB41 := Lib.hid (HB4.out.ext HE1.out)
    have HB61 := Lib.hid (CellsAt.chg (HB6.out.ext (by repeat (first | exact Ext.refl _ | apply Ext.plus | apply Ext.alloc | apply Ext.drew))) hx (fun hb => by have h := HXU.out _ hb; omega))
    have hb4 := HB41.out
    have hb6 := HB61.out
    clear hmk hx HX HG OX HXU HXL HB6
    obtain ⟨Y5, rfl⟩ := hE
    have c0 := hb4 0 _ rfl
    have c1 := hb4 1 _ rfl
    have c2 := hb4 2 _ rfl
    have c3 := hb4 3 _ rfl
    have c4 := hb4 4 _ rfl
    have c5 := hb4 5 _ rfl
    have ho4 := World.old_of_cell c0
    have e0 := hb6 0 _ rfl
    have e1 := hb6 1 _ rfl
    have e2 := hb6 2 _ rfl
    have e3 := hb6 3 _ rfl
    have e4 := hb6 4 _ rfl
    have e5 := hb6 5 _ rfl
    have ho6 := World.old_of_cell e0
    clear hb4 hb6
    go_wp2_with fail
    refine (eqDeskStep_self RD RC _ _ _ _ _ _ _ ((HG1.out.ext (by repeat (first | exact Ext.refl _ | apply Ext.plus | apply Ext.alloc | apply Ext.drew))).e HRI.out.1 HRI.out.2.1 HRI.out.2.2.1 HRI.out.2.2.2.1 HRI.out.2.2.2.2.1) (HW1.out.ext (by repeat (first | exact Ext.refl _ | apply Ext.plus | apply Ext.alloc | apply Ext.drew)))).mono ?_
    rintro e _ ⟨rfl, ⟨X6, rfl⟩⟩
    go_wp2_with fail
    refine (markDeskStep_any RD RC _ _ _ 1 _ fg1 fg2 fg3 _ (HG1.out.ext (by repeat (first | exact Ext.refl _ | apply Ext.plus | apply Ext.alloc | apply Ext.drew))) (by omega)).mono ?_
    rintro e wm2 ⟨rfl, hx, hmk⟩
    have hE : Ext (w.alloc (.cells #[.slice ap0 d.pairs.length kp0, .slice ab0 d.box.length kb0, .slice as0 d.audit.length ks0, (.int .i64 d.used), (.int .i64 d.now)] 24)) wm2 := hx.grown (by repeat (first | exact Ext.refl _ | apply Ext.plus | apply Ext.alloc | apply Ext.drew)) HG1.out.low (by simp; try omega)
    have HE2 := Lib.hid (show Ext _ wm2 from hx.grown (HE1.out.plus X6) HG1.out.low (by simp; try omega))
    have HW2 := Lib.hid (HW.out.ext HE2.out)
    have HB42 := Lib.hid (HB4.out.ext HE2.out)
    have HB62 := Lib.hid (CellsAt.chg (HB61.out.ext (by repeat (first | exact Ext.refl _ | apply Ext.plus | apply Ext.alloc | apply Ext.drew))) hx (fun hb => Nat.lt_irrefl _ (HGU.out _ hb)))
    have HM := Lib.hid hmk.reads
    have hb4 := HB42.out
    have hb6 := HB62.out
    clear hmk hx HG1 HW1 HW HE1 HE2 HB4 HB41 HB61 HGU c0 c1 c2 c3 c4 c5 ho4 e0 e1 e2 e3 e4 e5 ho6
    obtain ⟨Y6, rfl⟩ := hE
    have c0 := hb4 0 _ rfl
    have c1 := hb4 1 _ rfl
    have c2 := hb4 2 _ rfl
    have c3 := hb4 3 _ rfl
    have c4 := hb4 4 _ rfl
    have c5 := hb4 5 _ rfl
    have ho4 := World.old_of_cell c0
    have e0 := hb6 0 _ rfl
    have e1 := hb6 1 _ rfl
    have e2 := hb6 2 _ rfl
    have e3 := hb6 3 _ rfl
    have e4 := hb6 4 _ rfl
    have e5 := hb6 5 _ rfl
    have ho6 := World.old_of_cell e0
    clear hb4 hb6
    go_wp2_with fail
    refine (heldDeskStep_any RD RC _ _ _ 1 _ (HM.out.1.ext (rc_stable _) (by repeat (first | exact Ext.refl _ | apply Ext.plus | apply Ext.alloc | apply Ext.drew))) (HM.out.2.1.ext (rc_stable _) (by repeat (first | exact Ext.refl _ | apply Ext.plus | apply Ext.alloc | apply Ext.drew))) (HM.out.2.2.ext (rc_stable _) (by repeat (first | exact Ext.refl _ | apply Ext.plus | apply Ext.alloc | apply Ext.drew))) (by omega)).mono ?_
    rintro e _ ⟨rfl, ⟨X7, rfl⟩⟩
    go_wp2_with fail
    refine (toDesk_any d _ _ (HP.out.ext (by repeat (first | exact Ext.refl _ | apply Ext.plus | apply Ext.alloc | apply Ext.drew))) hf).mono ?_
    rintro e _ ⟨p5, b5, s5, fp5, fb5, fs5, rfl, ⟨X5, rfl⟩, hO⟩
    have HY := Lib.hid (hO.e HI.out.1 HI.out.2.1 HI.out.2.2.1 HI.out.2.2.2.1 HI.out.2.2.2.2)
    have OY := Lib.hid hO
    obtain ⟨ap5, kp5, rfl⟩ := hO.p.shape
    obtain ⟨ab5, kb5, rfl⟩ := hO.b.shape
    obtain ⟨as5, ks5, rfl⟩ := hO.a.shape
    clear hO
    unfold Dk.val at HY ⊢
    clear OY
    go_wp2_with fail
    refine (implNextTime_any d _ _ HY.out hf).mono ?_
    rintro e _ ⟨ph, bh, ah, fh1, fh2, fh3, rfl, ⟨Y7, rfl⟩, hO⟩
    rw [HEQ.out] at hO ⊢
    obtain ⟨ah1, ch1, rfl⟩ := hO.p.shape
    obtain ⟨ah2, ch2, rfl⟩ := hO.b.shape
    obtain ⟨ah3, ch3, rfl⟩ := hO.a.shape
    have HH := Lib.hid (hO.e HRI.out.1 HRI.out.2.1 HRI.out.2.2.1 HRI.out.2.2.2.1 HRI.out.2.2.2.2.1)
    clear hO HY
    unfold stV
    go_wp2_with fail
    refine (eqDeskStep_self RD RC _ _ _ _ _ _ _ (HH.out.ext (by repeat (first | exact Ext.refl _ | apply Ext.plus | apply Ext.alloc | apply Ext.drew))) (HW2.out.ext (by repeat (first | exact Ext.refl _ | apply Ext.plus | apply Ext.alloc | apply Ext.drew)))).mono ?_
    rintro e _ ⟨rfl, ⟨X8, rfl⟩⟩
    go_wp2_with fail
    refine (heldDeskStep_any RD RC _ _ _ 1 _ (HM.out.1.ext (rc_stable _) (by repeat (first | exact Ext.refl _ | apply Ext.plus | apply Ext.alloc | apply Ext.drew))) (HM.out.2.1.ext (rc_stable _) (by repeat (first | exact Ext.refl _ | apply Ext.plus | apply Ext.alloc | apply Ext.drew))) (HM.out.2.2.ext (rc_stable _) (by repeat (first | exact Ext.refl _ | apply Ext.plus | apply Ext.alloc | apply Ext.drew))) (by omega)).mono ?_
    rintro e _ ⟨rfl, ⟨X9, rfl⟩⟩
    go_wp2
    go_ret
    exact ⟨rfl, (by repeat (first | exact Ext.refl _ | apply Ext.plus | apply Ext.alloc | apply Ext.drew))⟩
  · go_enter Try.func5, Try.ntmps5
    go_wp2_with fail
    refine (szDesk_any d _ 1048576 _ (HP.out.ext (by repeat (first | exact Ext.refl _ | apply Ext.plus | apply Ext.alloc | apply Ext.drew))) (Nat.le_refl _)).mono ?_
    rintro e _ ⟨rfl, ⟨X0, rfl⟩⟩
    rw [if_neg hf]
    go_wp2
    go_ret
    exact ⟨rfl, (by repeat (first | exact Ext.refl _ | apply Ext.plus | apply Ext.alloc | apply Ext.drew))⟩
end Go.Proofs.Ytgildaidogjogaa
