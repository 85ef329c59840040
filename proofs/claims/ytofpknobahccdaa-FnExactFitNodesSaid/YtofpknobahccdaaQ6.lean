/- The law of FitNodes. -/
import Derived.Test.YtofpknobahccdaaQ5
import Derived.Test.YtofpknobahccdaaQ3
import Derived.Test.YtofpknobahccdaaE3
set_option maxRecDepth 100000
set_option linter.unusedVariables false
namespace Go.Proofs.Ytofpknobahccdaa
open Go.RowKit Go.Fin1

set_option maxHeartbeats 3200000 in
theorem fnFitNodes_any (a : Arg (List (List Spn))) (need : Int) (x : Spn) (w : World) (h : SlR w 1 (rSl 2 rSpn) a.v a.x) (_ : I64 need) (_ : x.ok) :
    Calls Try.prog 5 #[a.v, (.int .i64 need), x.val] w fun e w' => e = .returned (.bool true) ∧ Ext w w' := by
  obtain ⟨v, l⟩ := a
  change SlR w 1 (rSl 2 rSpn) v l at h
  change Calls Try.prog 5 #[v, _, _] w _
  unfold Spn.val
  obtain ⟨av, cv, rfl⟩ := h.len
  have HS := Lib.hid h
  have hi := Lib.hid (slr_spnss h)
  clear h
  by_cases hl : szL List.length l ≤ 1048576
  · have ht : decide (((1048576 - szL List.length l : Nat) : Int) < 0) = false := decide_eq_false (by omega)
    have HLL := Lib.hid (show l.length ≤ 1048576 from Nat.le_trans (szL_len _ _) hl)
    have HRI := Lib.hid (fitNodes_i64 (rows := l) (need := need) (x := x) HLL.out)
    have hmx : wL (wL (fun _ : Spn => 2)) l ≤ 4 * 1048576 := wL_spans hl
    have hmr : wL (fun _ : Int => 1) (fitNodes l need x) ≤ 1048576 := by rw [wL_const]; have := fitNodes_len l need x; have := HLL.out; omega
    generalize hR : fitNodes l need x = R at HRI hmr
    have HEQ := Lib.hid hR
    clear hR
    go_enter Try.func5, Try.ntmps5
    go_wp2_with fail
    refine (szSpanSS_any _ l 1048576 _ (HS.out.ext rSpnS_stable (by repeat (first | exact Ext.refl _ | apply Ext.plus | apply Ext.alloc | apply Ext.drew))) (Nat.le_refl _)).mono ?_
    rintro e _ ⟨rfl, ⟨X0, rfl⟩⟩
    rw [if_pos hl]
    go_upto_region 5 with fail
    (refine wp_region_y 7 [(fun u _ => u = (.slice av l.length cv)), kSl 1 rSpnS l, (fun u _ => u = ((.int .i64 need))), (fun u _ => u = (.agg #[(.int .i64 x.f), (.int .i64 x.t)])), (fun u _ => u = (.agg #[(.int .i64 x.f), (.int .i64 x.t)])), kSl 1 rInt R, kSl 1 rInt R] (by kernel_rfl) (by kernel_rfl) (by kernel_rfl) rfl ?_ (by (repeat' (first | exact trivial | exact XReg.GoodK.same _ default | refine And.intro ?_ ?_)); all_goals (first | exact kSl_good rSpnS_stable HS.out | exact kSl_good rInt_stable (sl_new default 0 _ HRI.out (by rw [wL_const] at hmr; unfold maxLen; omega)))))
    (apply YReg.val (.slice av l.length cv); (case h => (intro w' hw' hF'; obtain ⟨X', rfl⟩ := hw'; have HF' := Lib.hid hF'; clear hF'; go_wp2_with (fail); exact ⟨rfl, (by repeat (first | exact Ext.refl _ | apply Ext.plus | apply Ext.alloc | apply Ext.drew))⟩)); (case hv => kernel_rfl))
    refine YReg.kind (fun w' hw' hF' => ?_) (fun v w1 hK => ?_)
    · obtain ⟨X', rfl⟩ := hw'
      clear hF'
      go_wp2_with fail
      refine (toSpanSS_any _ l _ (HS.out.ext rSpnS_stable (by repeat (first | exact Ext.refl _ | apply Ext.plus | apply Ext.alloc | apply Ext.drew))) hl).mono ?_
      rintro e _ ⟨v3, fp3, rfl, ⟨X3, rfl⟩, hO⟩
      have H3 := Lib.hid (oSpanSS_r hO.1 hi.out)
      clear hO
      obtain ⟨a3, c3, rfl⟩ := H3.out.len
      go_wp2
      exact ⟨(by repeat (first | exact Ext.refl _ | apply Ext.plus | apply Ext.alloc | apply Ext.drew)), _, _, rfl, H3.out⟩
    obtain ⟨a3, c3, rfl, hs3⟩ := hK
    clear hs3 w1
    (apply YReg.val ((.int .i64 need)); (case h => (intro w' hw' hF'; obtain ⟨X', rfl⟩ := hw'; have HF' := Lib.hid hF'; clear hF'; go_wp2_with (fail); exact ⟨rfl, (by repeat (first | exact Ext.refl _ | apply Ext.plus | apply Ext.alloc | apply Ext.drew))⟩)); (case hv => kernel_rfl))
    (apply YReg.val (.agg #[(.int .i64 x.f), (.int .i64 x.t)]); (case h => (intro w' hw' hF'; obtain ⟨X', rfl⟩ := hw'; have HF' := Lib.hid hF'; clear hF'; go_wp2_with (fail); exact ⟨rfl, (by repeat (first | exact Ext.refl _ | apply Ext.plus | apply Ext.alloc | apply Ext.drew))⟩)); (case hv => kernel_rfl))
    (apply YReg.val (.agg #[(.int .i64 x.f), (.int .i64 x.t)]); (case h => (intro w' hw' hF'; obtain ⟨X', rfl⟩ := hw'; have HF' := Lib.hid hF'; clear hF'; go_wp2_with ((go_at_call 26; refine (toSpan_any _ _ _).mono ?_; rintro e _ ⟨rfl, X, rfl⟩)); exact ⟨rfl, (by repeat (first | exact Ext.refl _ | apply Ext.plus | apply Ext.alloc | apply Ext.drew))⟩)); (case hv => kernel_rfl))
    refine YReg.kind (fun w' hw' hF' => ?_) (fun v w1 hK => ?_)
    · obtain ⟨X', rfl⟩ := hw'
      have HF' := Lib.hid hF'
      clear hF'
      go_wp2_with fail
      have hk := (HF'.out.get 1 (p := (kSl 1 rSpnS l, .slice a3 l.length c3)) (by kernel_rfl) (by kernel_rfl))
      refine (specFitNodes_any _ l need x _ (kSl_r hk) HLL.out).mono ?_
      clear hk
      rintro e _ ⟨v3, rfl, ⟨X3, rfl⟩, hO⟩
      obtain ⟨fp3, hO⟩ := Row.own (f := intCell) (K := 1) (fun _ => rfl) hO
      rw [HEQ.out] at hO
      have H3 := Lib.hid (oIntS_r hO.1 HRI.out)
      clear hO
      obtain ⟨b3, d3, rfl⟩ := H3.out.len
      go_wp2
      exact ⟨(by repeat (first | exact Ext.refl _ | apply Ext.plus | apply Ext.alloc | apply Ext.drew)), _, _, rfl, H3.out⟩
    obtain ⟨b3, d3, rfl, hs3⟩ := hK
    clear hs3 w1
    refine YReg.kind (fun w' hw' hF' => ?_) (fun v w1 hK => ?_)
    · obtain ⟨X', rfl⟩ := hw'
      have HF' := Lib.hid hF'
      clear hF'
      go_wp2_with fail
      have hk := (HF'.out.get 5 (p := (kSl 1 rInt R, .slice b3 R.length d3)) (by kernel_rfl) (by kernel_rfl))
      exact ⟨(by repeat (first | exact Ext.refl _ | apply Ext.plus | apply Ext.alloc | apply Ext.drew)), hk⟩
    obtain ⟨b4, d4, rfl, hs3⟩ := hK
    clear hs3 w1
    refine YReg.doneN (fun X hF => ?_)
    have HW := Lib.hid (kSl_r (hF 6 (kSl 1 rInt R, .slice b4 R.length d4) (by kernel_rfl)))
    clear hF
    go_wp2_with fail
    refine (toSpanSS_any _ l _ (HS.out.ext rSpnS_stable (by repeat (first | exact Ext.refl _ | apply Ext.plus | apply Ext.alloc | apply Ext.drew))) hl).mono ?_
    rintro e _ ⟨vx, fpx, rfl, ⟨X1, rfl⟩, hO⟩
    have HX := Lib.hid hO
    obtain ⟨ax, cx, rfl⟩ := hO.shape
    clear hO
    go_wp2_with ((go_at_call 26; refine (toSpan_any _ _ _).mono ?_; rintro e _ ⟨rfl, X, rfl⟩))
    have HXB := Lib.hid (oSpanSS_held _ _ _ _ (HX.out.ext oSpanSS_local oSpanSS_held ((Ext.refl _).plus X)).1)
    refine (implFitNodes_any _ l need x _ ((oSpanSS_r HX.out.1 hi.out).ext rSpnS_stable (by repeat (first | exact Ext.refl _ | apply Ext.plus | apply Ext.alloc | apply Ext.drew))) HLL.out).mono ?_
    rintro e _ ⟨vg, rfl, ⟨X2, rfl⟩, hO⟩
    obtain ⟨fpg, hO⟩ := Row.own (f := intCell) (K := 1) (fun _ => rfl) hO
    rw [HEQ.out] at hO
    have HG := Lib.hid hO
    obtain ⟨ag, cg, rfl⟩ := hO.shape
    clear hO
    go_wp2_with fail
    refine (eqInt64S_self _ _ R _ (oIntS_r HG.out.1 HRI.out) (HW.out.ext rInt_stable (by repeat (first | exact Ext.refl _ | apply Ext.plus | apply Ext.alloc | apply Ext.drew)))).mono ?_
    rintro e _ ⟨rfl, ⟨X3, rfl⟩⟩
    go_wp2_with fail
    refine (toSpanSS_any _ l _ (HS.out.ext rSpnS_stable (by repeat (first | exact Ext.refl _ | apply Ext.plus | apply Ext.alloc | apply Ext.drew))) hl).mono ?_
    rintro e _ ⟨vy, fpy, rfl, ⟨X4, rfl⟩, hO⟩
    have H2 := Lib.hid (oSpanSS_r hO.1 hi.out)
    obtain ⟨ay, cy, rfl⟩ := hO.shape
    clear hO
    go_wp2_with fail
    refine (eqSpanSS_self _ _ l _ ((oSpanSS_r HX.out.1 hi.out).ext rSpnS_stable (by repeat (first | exact Ext.refl _ | apply Ext.plus | apply Ext.alloc | apply Ext.drew))) H2.out).mono ?_
    rintro e _ ⟨rfl, ⟨X5, rfl⟩⟩
    go_wp2_with fail
    refine (markSpanSS_any _ l 1 fpx _ (HX.out.ext oSpanSS_local oSpanSS_held (by repeat (first | exact Ext.refl _ | apply Ext.plus | apply Ext.alloc | apply Ext.drew))).1 HX.out.2.1 (by omega)).mono ?_
    rintro e wm ⟨rfl, hx, hmk⟩
    have hE : Ext (w.alloc (.cells #[(.int .i64 x.f), (.int .i64 x.t)] 43)) wm := hx.grown (by repeat (first | exact Ext.refl _ | apply Ext.plus | apply Ext.alloc | apply Ext.drew)) HX.out.2.2 (by simp; omega)
    have HG1 := Lib.hid ((HG.out.ext oIntS_local oIntS_held (by repeat (first | exact Ext.refl _ | apply Ext.plus | apply Ext.alloc | apply Ext.drew))).chg oIntS_local oIntS_held hx (fun b hb => HXB.out b hb))
    have HE1 := Lib.hid (show Ext _ wm from hx.grown ((Ext.refl _).plus X1 |>.plus X |>.plus X2 |>.plus X3 |>.plus X4 |>.plus X5) HX.out.2.2 (Nat.le_refl _))
    have HW1 := Lib.hid (HW.out.ext rInt_stable HE1.out)
    clear hmk hx HX HXB H2 HG
    obtain ⟨Y5, rfl⟩ := hE
    go_wp2_with fail
    refine (eqInt64S_self _ _ R _ (oIntS_r HG1.out.1 HRI.out) HW1.out).mono ?_
    rintro e _ ⟨rfl, ⟨X6, rfl⟩⟩
    go_wp2_with fail
    refine (markInt64S_any _ R 1 fpg _ (HG1.out.ext oIntS_local oIntS_held (by repeat (first | exact Ext.refl _ | apply Ext.plus | apply Ext.alloc | apply Ext.drew))).1 HG1.out.2.1 (by omega)).mono ?_
    rintro e wm ⟨rfl, hx, hmk⟩
    have hE : Ext (w.alloc (.cells #[(.int .i64 x.f), (.int .i64 x.t)] 43)) wm := hx.grown (by repeat (first | exact Ext.refl _ | apply Ext.plus | apply Ext.alloc | apply Ext.drew)) HG1.out.2.2 (by simp; omega)
    have HW2 := Lib.hid (HW.out.ext rInt_stable (hx.grown (HE1.out.plus X6) HG1.out.2.2 (by simp; omega)))
    have HM := Lib.hid (oFl_reads (f := intCell) (fun _ => rfl) hmk)
    clear hmk hx HW HW1 HG1 HE1
    obtain ⟨Y6, rfl⟩ := hE
    go_wp2_with fail
    refine (heldInt64S_any _ R 1 _ (HM.out.ext (rc_stable _) (by repeat (first | exact Ext.refl _ | apply Ext.plus | apply Ext.alloc | apply Ext.drew))) (by omega)).mono ?_
    rintro e _ ⟨rfl, ⟨X7, rfl⟩⟩
    go_upto_region 24 with fail
    (refine wp_region_y 7 [(fun u _ => u = (.slice av l.length cv)), kSl 1 rSpnS l, (fun u _ => u = ((.int .i64 need))), (fun u _ => u = (.agg #[(.int .i64 x.f), (.int .i64 x.t)])), (fun u _ => u = (.agg #[(.int .i64 x.f), (.int .i64 x.t)])), kSl 1 rInt R, kSl 1 rInt R] (by kernel_rfl) (by kernel_rfl) (by kernel_rfl) rfl ?_ (by (repeat' (first | exact trivial | exact XReg.GoodK.same _ default | refine And.intro ?_ ?_)); all_goals (first | exact kSl_good rSpnS_stable HS.out | exact kSl_good rInt_stable HW2.out)))
    (apply YReg.val (.slice av l.length cv); (case h => (intro w' hw' hF'; obtain ⟨X', rfl⟩ := hw'; have HF' := Lib.hid hF'; clear hF'; go_wp2_with (fail); exact ⟨rfl, (by repeat (first | exact Ext.refl _ | apply Ext.plus | apply Ext.alloc | apply Ext.drew))⟩)); (case hv => kernel_rfl))
    refine YReg.kind (fun w' hw' hF' => ?_) (fun v w1 hK => ?_)
    · obtain ⟨X', rfl⟩ := hw'
      clear hF'
      go_wp2_with fail
      refine (toSpanSS_any _ l _ (HS.out.ext rSpnS_stable (by repeat (first | exact Ext.refl _ | apply Ext.plus | apply Ext.alloc | apply Ext.drew))) hl).mono ?_
      rintro e _ ⟨v3, fp3, rfl, ⟨X3, rfl⟩, hO⟩
      have H3 := Lib.hid (oSpanSS_r hO.1 hi.out)
      clear hO
      obtain ⟨a3, c3, rfl⟩ := H3.out.len
      go_wp2
      exact ⟨(by repeat (first | exact Ext.refl _ | apply Ext.plus | apply Ext.alloc | apply Ext.drew)), _, _, rfl, H3.out⟩
    obtain ⟨a3, c3, rfl, hs3⟩ := hK
    clear hs3 w1
    (apply YReg.val ((.int .i64 need)); (case h => (intro w' hw' hF'; obtain ⟨X', rfl⟩ := hw'; have HF' := Lib.hid hF'; clear hF'; go_wp2_with (fail); exact ⟨rfl, (by repeat (first | exact Ext.refl _ | apply Ext.plus | apply Ext.alloc | apply Ext.drew))⟩)); (case hv => kernel_rfl))
    (apply YReg.val (.agg #[(.int .i64 x.f), (.int .i64 x.t)]); (case h => (intro w' hw' hF'; obtain ⟨X', rfl⟩ := hw'; have HF' := Lib.hid hF'; clear hF'; go_wp2_with (fail); exact ⟨rfl, (by repeat (first | exact Ext.refl _ | apply Ext.plus | apply Ext.alloc | apply Ext.drew))⟩)); (case hv => kernel_rfl))
    (apply YReg.val (.agg #[(.int .i64 x.f), (.int .i64 x.t)]); (case h => (intro w' hw' hF'; obtain ⟨X', rfl⟩ := hw'; have HF' := Lib.hid hF'; clear hF'; go_wp2_with ((go_at_call 26; refine (toSpan_any _ _ _).mono ?_; rintro e _ ⟨rfl, X, rfl⟩)); exact ⟨rfl, (by repeat (first | exact Ext.refl _ | apply Ext.plus | apply Ext.alloc | apply Ext.drew))⟩)); (case hv => kernel_rfl))
    refine YReg.kind (fun w' hw' hF' => ?_) (fun v w1 hK => ?_)
    · obtain ⟨X', rfl⟩ := hw'
      have HF' := Lib.hid hF'
      clear hF'
      go_wp2_with fail
      have hk := (HF'.out.get 1 (p := (kSl 1 rSpnS l, .slice a3 l.length c3)) (by kernel_rfl) (by kernel_rfl))
      refine (implFitNodes_any _ l need x _ (kSl_r hk) HLL.out).mono ?_
      clear hk
      rintro e _ ⟨v3, rfl, ⟨X3, rfl⟩, hO⟩
      obtain ⟨fp3, hO⟩ := Row.own (f := intCell) (K := 1) (fun _ => rfl) hO
      rw [HEQ.out] at hO
      have H3 := Lib.hid (oIntS_r hO.1 HRI.out)
      clear hO
      obtain ⟨b3, d3, rfl⟩ := H3.out.len
      go_wp2
      exact ⟨(by repeat (first | exact Ext.refl _ | apply Ext.plus | apply Ext.alloc | apply Ext.drew)), _, _, rfl, H3.out⟩
    obtain ⟨b5, d5, rfl, hs3⟩ := hK
    clear hs3 w1
    refine YReg.kind (fun w' hw' hF' => ?_) (fun v w1 hK => ?_)
    · obtain ⟨X', rfl⟩ := hw'
      have HF' := Lib.hid hF'
      clear hF'
      go_wp2_with fail
      have hk := (HF'.out.get 5 (p := (kSl 1 rInt R, .slice b5 R.length d5)) (by kernel_rfl) (by kernel_rfl))
      exact ⟨(by repeat (first | exact Ext.refl _ | apply Ext.plus | apply Ext.alloc | apply Ext.drew)), hk⟩
    obtain ⟨b6, d6, rfl, hs3⟩ := hK
    clear hs3 w1
    refine YReg.doneN (fun X hF => ?_)
    have HH := Lib.hid (kSl_r (hF 6 (kSl 1 rInt R, .slice b6 R.length d6) (by kernel_rfl)))
    clear hF
    go_wp2_with fail
    refine (eqInt64S_self _ _ R _ HH.out (HW2.out.ext rInt_stable (by repeat (first | exact Ext.refl _ | apply Ext.plus | apply Ext.alloc | apply Ext.drew)))).mono ?_
    rintro e _ ⟨rfl, ⟨X8, rfl⟩⟩
    go_wp2_with fail
    refine (heldInt64S_any _ R 1 _ (HM.out.ext (rc_stable _) (by repeat (first | exact Ext.refl _ | apply Ext.plus | apply Ext.alloc | apply Ext.drew))) (by omega)).mono ?_
    rintro e _ ⟨rfl, ⟨X9, rfl⟩⟩
    go_wp2
    go_ret
    exact ⟨rfl, (by repeat (first | exact Ext.refl _ | apply Ext.plus | apply Ext.alloc | apply Ext.drew))⟩
  · go_enter Try.func5, Try.ntmps5
    go_wp2_with fail
    refine (szSpanSS_any _ l 1048576 _ (HS.out.ext rSpnS_stable (by repeat (first | exact Ext.refl _ | apply Ext.plus | apply Ext.alloc | apply Ext.drew))) (Nat.le_refl _)).mono ?_
    rintro e _ ⟨rfl, ⟨X0, rfl⟩⟩
    rw [if_neg hl]
    go_wp2
    go_ret
    exact ⟨rfl, (by repeat (first | exact Ext.refl _ | apply Ext.plus | apply Ext.alloc | apply Ext.drew))⟩
end Go.Proofs.Ytofpknobahccdaa
