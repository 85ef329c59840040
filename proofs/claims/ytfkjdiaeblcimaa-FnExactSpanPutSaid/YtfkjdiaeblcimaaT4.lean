/- The law of SpanPut. -/
import Derived.Test.YtfkjdiaeblcimaaT3
import Derived.Test.YtfkjdiaeblcimaaE3
set_option maxRecDepth 100000
set_option linter.unusedVariables false
namespace Go.Proofs.Ytfkjdiaeblcimaa
open Go.RowKit Go.Fin1

theorem oSpanS_local' : Local oSpanS := oSl_local (oFlat_local _)
theorem oSpanS_held' : Held oSpanS := oSl_held (oFlat_held _)
theorem oSpanS_r' {w : World} {fp : List Nat} {v : Value} {l : List Spn} (h : oSpanS w fp [v] l) (hl : ∀ x ∈ l, x.ok) : SlR w 2 rSpn v l :=
  slr_with (oFl_reads (f := Spn.cells) (fun _ => rfl) h) fun cs x hm hc => ⟨hc, hl x hm⟩
theorem spn_new (w : World) (b : Nat) (l : List Spn) (hl : ∀ x ∈ l, x.ok) (hm : l.length ≤ 1048576) : ∃ v w', SlR w' 2 rSpn v l := by
  have hw : (w.alloc (.cells (l.flatMap Spn.cells).toArray 75)).heap[w.heap.size]? = some (.cells (l.flatMap Spn.cells).toArray 75 (0, 0)) := heap_alloc_new w _
  refine ⟨.slice (some ⟨w.heap.size, 0, none⟩) l.length l.length, _, row_spn (B := 0) (l := l) ⟨flatMap_len (f := Spn.cells) (K := 2) (fun _ => rfl) l, .inr ⟨_, _, _, rfl, Nat.zero_le _, hw, Nat.le_refl _, by unfold maxLen; omega, ?_, ?_⟩⟩ hl⟩
  · simp [flatMap_len (f := Spn.cells) (K := 2) (fun _ => rfl) l]
  · exact List.take_of_length_le (by rw [flatMap_len (f := Spn.cells) (K := 2) (fun _ => rfl) l]; exact Nat.le_refl _)

set_option maxHeartbeats 3200000 in
theorem fnSpanPut_any (a : Arg (List Spn)) (x : Spn) (w : World) (h : SlR w 2 rSpn a.v a.x) (hxo : x.ok) :
    Calls Try.prog 7 #[a.v, x.val] w fun e w' => e = .returned (.bool true) ∧ Ext w w' := by
  obtain ⟨v, l⟩ := a
  change SlR w 2 rSpn v l at h
  change Calls Try.prog 7 #[v, _] w _
  unfold Spn.val
  obtain ⟨av, cv, rfl⟩ := h.len
  have HS := Lib.hid h
  have hi := Lib.hid (spn_ok h)
  clear h
  by_cases hl : l.length ≤ 1048576
  · have ht : decide (((1048576 - l.length : Nat) : Int) < 0) = false := decide_eq_false (by omega)
    have HRI := Lib.hid (putL_ok hi.out hxo)
    have hrl : (putL l x).length ≤ 1048576 := putL_len l x
    have hmx : wL (fun _ : Spn => 2) l ≤ 4 * 1048576 := by rw [wL_const]; omega
    have hmr : wL (fun _ : Spn => 2) (putL l x) ≤ 4 * 1048576 := by rw [wL_const]; omega
    generalize hR : putL l x = R at HRI hmr hrl
    have HEQ := Lib.hid hR
    clear hR hxo
    obtain ⟨vn, wn, hn⟩ := spn_new default 0 R HRI.out hrl
    have HNEW := Lib.hid hn
    clear hn
    go_enter Try.func7, Try.ntmps7
    go_wp2_with fail
    refine (szSpanS_any _ l 1048576 _ (HS.out.ext rSpn_stable (by repeat (first | exact Ext.refl _ | apply Ext.plus | apply Ext.alloc | apply Ext.drew))) (Nat.le_refl _)).mono ?_
    rintro e _ ⟨rfl, rfl⟩
    rw [if_pos hl]
    go_upto_region 5 with fail
    (refine wp_region_y 6 [(fun u _ => u = (.slice av l.length cv)), kSl 2 rSpn l, (fun u _ => u = (.agg #[(.int .i64 x.f), (.int .i64 x.t)])), (fun u _ => u = (.agg #[(.int .i64 x.f), (.int .i64 x.t)])), kSl 2 rSpn R, kSl 2 rSpn R] (by kernel_rfl) (by kernel_rfl) (by kernel_rfl) rfl ?_ (by (repeat' (first | exact trivial | exact XReg.GoodK.same _ default | refine And.intro ?_ ?_)); all_goals (first | exact kSl_good rSpn_stable HS.out | exact kSl_good rSpn_stable HNEW.out)))
    (apply YReg.val (.slice av l.length cv); (case h => (intro w' hw' hF'; obtain ⟨X', rfl⟩ := hw'; have HF' := Lib.hid hF'; clear hF'; go_wp2_with (fail); exact ⟨rfl, (by repeat (first | exact Ext.refl _ | apply Ext.plus | apply Ext.alloc | apply Ext.drew))⟩)); (case hv => kernel_rfl))
    refine YReg.kind (fun w' hw' hF' => ?_) (fun v w1 hK => ?_)
    · obtain ⟨X', rfl⟩ := hw'
      clear hF'
      go_wp2_with fail
      refine (toSpanS_any _ l _ (HS.out.ext rSpn_stable (by repeat (first | exact Ext.refl _ | apply Ext.plus | apply Ext.alloc | apply Ext.drew))) hl).mono ?_
      rintro e _ ⟨v3, fp3, rfl, ⟨X3, rfl⟩, hO⟩
      have H3 := Lib.hid (oSpanS_r' hO.1 hi.out)
      clear hO
      obtain ⟨a3, c3, rfl⟩ := H3.out.len
      go_wp2
      exact ⟨(by repeat (first | exact Ext.refl _ | apply Ext.plus | apply Ext.alloc | apply Ext.drew)), _, _, rfl, H3.out⟩
    obtain ⟨a3, c3, rfl, hs3⟩ := hK
    clear hs3 w1
    (apply YReg.val (.agg #[(.int .i64 x.f), (.int .i64 x.t)]); (case h => (intro w' hw' hF'; obtain ⟨X', rfl⟩ := hw'; have HF' := Lib.hid hF'; clear hF'; go_wp2_with (fail); exact ⟨rfl, (by repeat (first | exact Ext.refl _ | apply Ext.plus | apply Ext.alloc | apply Ext.drew))⟩)); (case hv => kernel_rfl))
    (apply YReg.val (.agg #[(.int .i64 x.f), (.int .i64 x.t)]); (case h => (intro w' hw' hF'; obtain ⟨X', rfl⟩ := hw'; have HF' := Lib.hid hF'; clear hF'; go_wp2_with ((go_at_call 43; refine (toSpan_any _ _ _).mono ?_; rintro e _ ⟨rfl, X, rfl⟩)); exact ⟨rfl, (by repeat (first | exact Ext.refl _ | apply Ext.plus | apply Ext.alloc | apply Ext.drew))⟩)); (case hv => kernel_rfl))
    refine YReg.kind (fun w' hw' hF' => ?_) (fun v w1 hK => ?_)
    · obtain ⟨X', rfl⟩ := hw'
      have HF' := Lib.hid hF'
      clear hF'
      go_wp2_with fail
      have hk := (HF'.out.get 1 (p := (kSl 2 rSpn l, .slice a3 l.length c3)) (by kernel_rfl) (by kernel_rfl))
      refine (specSpanPut_any _ l x _ (kSl_r hk)).mono ?_
      clear hk
      rintro e _ ⟨v3, rfl, ⟨X3, rfl⟩, hO⟩
      rw [HEQ.out] at hO
      have H3 := Lib.hid (row_spn hO HRI.out)
      clear hO
      obtain ⟨b3, d3, rfl⟩ := H3.out.len
      go_wp2
      exact ⟨(by repeat (first | exact Ext.refl _ | apply Ext.plus | apply Ext.alloc | apply Ext.drew)), _, _, rfl, H3.out⟩
    obtain ⟨b3, d3, rfl, hs3⟩ := hK
    clear hs3 w1
    refine YReg.kind (fun w' hw' hF' => ?_) (fun v w1 hK => ?_)
    · obtain ⟨X', rfl⟩ := hw'
      have HF' := Lib.hid hF'
      clear hF'
      go_wp2_with fail
      have hk := (HF'.out.get 4 (p := (kSl 2 rSpn R, .slice b3 R.length d3)) (by kernel_rfl) (by kernel_rfl))
      exact ⟨(by repeat (first | exact Ext.refl _ | apply Ext.plus | apply Ext.alloc | apply Ext.drew)), hk⟩
    obtain ⟨b4, d4, rfl, hs3⟩ := hK
    clear hs3 w1
    refine YReg.doneN (fun X hF => ?_)
    have HW := Lib.hid (kSl_r (hF 5 (kSl 2 rSpn R, .slice b4 R.length d4) (by kernel_rfl)))
    clear hF
    go_wp2_with fail
    refine (toSpanS_any _ l _ (HS.out.ext rSpn_stable (by repeat (first | exact Ext.refl _ | apply Ext.plus | apply Ext.alloc | apply Ext.drew))) hl).mono ?_
    rintro e _ ⟨vx, fpx, rfl, ⟨X1, rfl⟩, hO⟩
    have HX := Lib.hid hO
    obtain ⟨ax, cx, rfl⟩ := hO.shape
    clear hO
    go_wp2_with ((go_at_call 43; refine (toSpan_any _ _ _).mono ?_; rintro e _ ⟨rfl, X, rfl⟩))
    have HXB := Lib.hid (oSpanS_held' _ _ _ _ (HX.out.ext oSpanS_local' oSpanS_held' ((Ext.refl _).plus X)).1)
    refine (implSpanPut_any _ l x _ ((oSpanS_r' HX.out.1 hi.out).ext rSpn_stable (by repeat (first | exact Ext.refl _ | apply Ext.plus | apply Ext.alloc | apply Ext.drew)))).mono ?_
    rintro e _ ⟨vg, rfl, ⟨X2, rfl⟩, hO⟩
    obtain ⟨fpg, hO⟩ := Row.own (f := Spn.cells) (K := 2) (fun _ => rfl) hO
    rw [HEQ.out] at hO
    have HG := Lib.hid hO
    obtain ⟨ag, cg, rfl⟩ := hO.shape
    clear hO
    go_wp2_with fail
    refine (eqSpanS_self _ _ R _ (oSpanS_r' HG.out.1 HRI.out) (HW.out.ext rSpn_stable (by repeat (first | exact Ext.refl _ | apply Ext.plus | apply Ext.alloc | apply Ext.drew)))).mono ?_
    rintro e _ ⟨rfl, ⟨X3, rfl⟩⟩
    go_wp2_with fail
    refine (toSpanS_any _ l _ (HS.out.ext rSpn_stable (by repeat (first | exact Ext.refl _ | apply Ext.plus | apply Ext.alloc | apply Ext.drew))) hl).mono ?_
    rintro e _ ⟨vy, fpy, rfl, ⟨X4, rfl⟩, hO⟩
    have H2 := Lib.hid (oSpanS_r' hO.1 hi.out)
    obtain ⟨ay, cy, rfl⟩ := hO.shape
    clear hO
    go_wp2_with fail
    refine (eqSpanS_self _ _ l _ ((oSpanS_r' HX.out.1 hi.out).ext rSpn_stable (by repeat (first | exact Ext.refl _ | apply Ext.plus | apply Ext.alloc | apply Ext.drew))) H2.out).mono ?_
    rintro e _ ⟨rfl, ⟨X5, rfl⟩⟩
    go_wp2_with fail
    refine (markSpanS_any _ l 1 fpx _ (HX.out.ext oSpanS_local' oSpanS_held' (by repeat (first | exact Ext.refl _ | apply Ext.plus | apply Ext.alloc | apply Ext.drew))).1 HX.out.2.1 (by omega)).mono ?_
    rintro e wm ⟨rfl, hx, hmk⟩
    have hE : Ext (w.alloc (.cells #[(.int .i64 x.f), (.int .i64 x.t)] 70)) wm := hx.grown (by repeat (first | exact Ext.refl _ | apply Ext.plus | apply Ext.alloc | apply Ext.drew)) HX.out.2.2 (by simp)
    have HG1 := Lib.hid ((HG.out.ext oSpanS_local' oSpanS_held' (by repeat (first | exact Ext.refl _ | apply Ext.plus | apply Ext.alloc | apply Ext.drew))).chg oSpanS_local' oSpanS_held' hx (fun b hb => HXB.out b hb))
    have HE1 := Lib.hid (show Ext _ wm from hx.grown ((Ext.refl _).plus X1 |>.plus X |>.plus X2 |>.plus X3 |>.plus X4 |>.plus X5) HX.out.2.2 (Nat.le_refl _))
    have HW1 := Lib.hid (HW.out.ext rSpn_stable HE1.out)
    clear hmk hx HX HXB H2 HG
    obtain ⟨Y5, rfl⟩ := hE
    go_wp2_with fail
    refine (eqSpanS_self _ _ R _ (oSpanS_r' HG1.out.1 HRI.out) HW1.out).mono ?_
    rintro e _ ⟨rfl, ⟨X6, rfl⟩⟩
    go_wp2_with fail
    refine (markSpanS_any _ R 1 fpg _ (HG1.out.ext oSpanS_local' oSpanS_held' (by repeat (first | exact Ext.refl _ | apply Ext.plus | apply Ext.alloc | apply Ext.drew))).1 HG1.out.2.1 (by omega)).mono ?_
    rintro e wm ⟨rfl, hx, hmk⟩
    have hE : Ext (w.alloc (.cells #[(.int .i64 x.f), (.int .i64 x.t)] 70)) wm := hx.grown (by repeat (first | exact Ext.refl _ | apply Ext.plus | apply Ext.alloc | apply Ext.drew)) HG1.out.2.2 (by simp; omega)
    have HW2 := Lib.hid (HW.out.ext rSpn_stable (hx.grown (HE1.out.plus X6) HG1.out.2.2 (by simp; omega)))
    have HM := Lib.hid (oFl_reads (f := Spn.cells) (fun _ => rfl) hmk)
    clear hmk hx HW HW1 HG1 HE1
    obtain ⟨Y6, rfl⟩ := hE
    go_wp2_with fail
    refine (heldSpanS_any _ R 1 _ (HM.out.ext (rc_stable _) (by repeat (first | exact Ext.refl _ | apply Ext.plus | apply Ext.alloc | apply Ext.drew))) (by omega)).mono ?_
    rintro e _ ⟨rfl, ⟨X7, rfl⟩⟩
    go_upto_region 24 with fail
    (refine wp_region_y 6 [(fun u _ => u = (.slice av l.length cv)), kSl 2 rSpn l, (fun u _ => u = (.agg #[(.int .i64 x.f), (.int .i64 x.t)])), (fun u _ => u = (.agg #[(.int .i64 x.f), (.int .i64 x.t)])), kSl 2 rSpn R, kSl 2 rSpn R] (by kernel_rfl) (by kernel_rfl) (by kernel_rfl) rfl ?_ (by (repeat' (first | exact trivial | exact XReg.GoodK.same _ default | refine And.intro ?_ ?_)); all_goals (first | exact kSl_good rSpn_stable HS.out | exact kSl_good rSpn_stable HNEW.out)))
    (apply YReg.val (.slice av l.length cv); (case h => (intro w' hw' hF'; obtain ⟨X', rfl⟩ := hw'; have HF' := Lib.hid hF'; clear hF'; go_wp2_with (fail); exact ⟨rfl, (by repeat (first | exact Ext.refl _ | apply Ext.plus | apply Ext.alloc | apply Ext.drew))⟩)); (case hv => kernel_rfl))
    refine YReg.kind (fun w' hw' hF' => ?_) (fun v w1 hK => ?_)
    · obtain ⟨X', rfl⟩ := hw'
      clear hF'
      go_wp2_with fail
      refine (toSpanS_any _ l _ (HS.out.ext rSpn_stable (by repeat (first | exact Ext.refl _ | apply Ext.plus | apply Ext.alloc | apply Ext.drew))) hl).mono ?_
      rintro e _ ⟨v3, fp3, rfl, ⟨X3, rfl⟩, hO⟩
      have H3 := Lib.hid (oSpanS_r' hO.1 hi.out)
      clear hO
      obtain ⟨a3, c3, rfl⟩ := H3.out.len
      go_wp2
      exact ⟨(by repeat (first | exact Ext.refl _ | apply Ext.plus | apply Ext.alloc | apply Ext.drew)), _, _, rfl, H3.out⟩
    obtain ⟨a3, c3, rfl, hs3⟩ := hK
    clear hs3 w1
    (apply YReg.val (.agg #[(.int .i64 x.f), (.int .i64 x.t)]); (case h => (intro w' hw' hF'; obtain ⟨X', rfl⟩ := hw'; have HF' := Lib.hid hF'; clear hF'; go_wp2_with (fail); exact ⟨rfl, (by repeat (first | exact Ext.refl _ | apply Ext.plus | apply Ext.alloc | apply Ext.drew))⟩)); (case hv => kernel_rfl))
    (apply YReg.val (.agg #[(.int .i64 x.f), (.int .i64 x.t)]); (case h => (intro w' hw' hF'; obtain ⟨X', rfl⟩ := hw'; have HF' := Lib.hid hF'; clear hF'; go_wp2_with ((go_at_call 43; refine (toSpan_any _ _ _).mono ?_; rintro e _ ⟨rfl, X, rfl⟩)); exact ⟨rfl, (by repeat (first | exact Ext.refl _ | apply Ext.plus | apply Ext.alloc | apply Ext.drew))⟩)); (case hv => kernel_rfl))
    refine YReg.kind (fun w' hw' hF' => ?_) (fun v w1 hK => ?_)
    · obtain ⟨X', rfl⟩ := hw'
      have HF' := Lib.hid hF'
      clear hF'
      go_wp2_with fail
      have hk := (HF'.out.get 1 (p := (kSl 2 rSpn l, .slice a3 l.length c3)) (by kernel_rfl) (by kernel_rfl))
      refine (implSpanPut_any _ l x _ (kSl_r hk)).mono ?_
      clear hk
      rintro e _ ⟨v3, rfl, ⟨X3, rfl⟩, hO⟩
      rw [HEQ.out] at hO
      have H3 := Lib.hid (row_spn hO HRI.out)
      clear hO
      obtain ⟨b3, d3, rfl⟩ := H3.out.len
      go_wp2
      exact ⟨(by repeat (first | exact Ext.refl _ | apply Ext.plus | apply Ext.alloc | apply Ext.drew)), _, _, rfl, H3.out⟩
    obtain ⟨b5, d5, rfl, hs3⟩ := hK
    clear hs3 w1
    refine YReg.kind (fun w' hw' hF' => ?_) (fun v w1 hK => ?_)
    · obtain ⟨X', rfl⟩ := hw'
      have HF' := Lib.hid hF'
      clear hF'
      go_wp2_with fail
      have hk := (HF'.out.get 4 (p := (kSl 2 rSpn R, .slice b5 R.length d5)) (by kernel_rfl) (by kernel_rfl))
      exact ⟨(by repeat (first | exact Ext.refl _ | apply Ext.plus | apply Ext.alloc | apply Ext.drew)), hk⟩
    obtain ⟨b6, d6, rfl, hs3⟩ := hK
    clear hs3 w1
    refine YReg.doneN (fun X hF => ?_)
    have HH := Lib.hid (kSl_r (hF 5 (kSl 2 rSpn R, .slice b6 R.length d6) (by kernel_rfl)))
    clear hF
    go_wp2_with fail
    refine (eqSpanS_self _ _ R _ HH.out (HW2.out.ext rSpn_stable (by repeat (first | exact Ext.refl _ | apply Ext.plus | apply Ext.alloc | apply Ext.drew)))).mono ?_
    rintro e _ ⟨rfl, ⟨X8, rfl⟩⟩
    go_wp2_with fail
    refine (heldSpanS_any _ R 1 _ (HM.out.ext (rc_stable _) (by repeat (first | exact Ext.refl _ | apply Ext.plus | apply Ext.alloc | apply Ext.drew))) (by omega)).mono ?_
    rintro e _ ⟨rfl, ⟨X9, rfl⟩⟩
    go_wp2
    go_ret
    exact ⟨rfl, (by repeat (first | exact Ext.refl _ | apply Ext.plus | apply Ext.alloc | apply Ext.drew))⟩
  · go_enter Try.func7, Try.ntmps7
    go_wp2_with fail
    refine (szSpanS_any _ l 1048576 _ (HS.out.ext rSpn_stable (by repeat (first | exact Ext.refl _ | apply Ext.plus | apply Ext.alloc | apply Ext.drew))) (Nat.le_refl _)).mono ?_
    rintro e _ ⟨rfl, rfl⟩
    rw [if_neg hl]
    go_wp2
    go_ret
    exact ⟨rfl, (by repeat (first | exact Ext.refl _ | apply Ext.plus | apply Ext.alloc | apply Ext.drew))⟩
end Go.Proofs.Ytfkjdiaeblcimaa
