/- The law of Reads. -/
import Derived.Test.YtgildaidogjogaaD12
import Derived.Test.YtgildaidogjogaaD13
import Derived.Test.YtgildaidogjogaaD6
import Derived.Test.YtgildaidogjogaaC1
set_option maxRecDepth 100000
set_option linter.unusedVariables false
namespace Go.Proofs.Ytgildaidogjogaa
open Go.RowKit Go.Fin1


theorem own_int_new (w : World) (xs : List Int) (hm : xs.length ≤ maxLen) : ∃ a c w' fp, Own w.heap.size w' oIntS fp [.slice a xs.length c] xs := by
  obtain ⟨fp, h⟩ := Row.own (B := w.heap.size) (w := w.alloc (.cells (xs.map (Value.int .i64)).toArray 2)) (ty := 2) (K := 1) (f := intCell) (v := .slice (some ⟨w.heap.size, 0, none⟩) xs.length xs.length) (xs := xs) (fun _ => rfl)
    ⟨flatMap_len (K := 1) (fun _ => rfl) xs, .inr ⟨w.heap.size, xs.length, _, rfl, Nat.le_refl _, heap_alloc_new w _, Nat.le_refl _, hm, by simp, by
      rw [Nat.mul_one, List.take_of_length_le (by simp)]
      induction xs with
      | nil => rfl
      | cons x xs ih => simp [intCell] at ih ⊢; exact ih (by simp at hm; omega)⟩⟩
  exact ⟨_, _, _, fp, h⟩
/-- A list of integers of its own, in blocks from B on. -/
def kIntO (B : Nat) (R : List Int) : XReg.Kind := fun v w => ∃ a c fp, v = .slice a R.length c ∧ Own B w oIntS fp [.slice a R.length c] R
theorem kIntO_good (B : Nat) {R : List Int} (hm : R.length ≤ maxLen) : XReg.GoodK (kIntO B R) :=
  ⟨fun _ _ _ hx ⟨a, c, fp, hv, h⟩ => ⟨a, c, fp, hv, h.ext oIntS_local oIntS_held hx⟩, by
    obtain ⟨a, c, w', fp, h⟩ := own_int_new { (default : World) with heap := Array.replicate B (.cells #[] 0) } R hm
    exact ⟨_, w', a, c, fp, rfl, h.mono (by simp)⟩⟩
theorem kIntO_in {B : Nat} {R : List Int} {w : World} {fp : List Nat} {v : Value} (h : Own B w oIntS fp [v] R) : kIntO B R v w := by
  obtain ⟨a, c, rfl⟩ := h.shape
  exact ⟨a, c, fp, rfl, h⟩
theorem kIntO_out {B : Nat} {R : List Int} {w : World} {v : Value} (h : kIntO B R v w) : ∃ fp, Own B w oIntS fp [v] R := by
  obtain ⟨a, c, fp, rfl, h⟩ := h; exact ⟨fp, h⟩
theorem OwnD.low {B : Nat} {w : World} {f1 f2 f3 : List Nat} {p b a : Value} {d : Dk} (h : OwnD B w f1 f2 f3 p b a d) : ∀ x ∈ f1 ++ f2 ++ f3, B ≤ x := fun x hx => by
  simp only [List.mem_append] at hx
  rcases hx with (hx | hx) | hx
  · exact h.p.2.2 x hx
  · exact h.b.2.2 x hx
  · exact h.a.2.2 x hx
theorem OwnD.high {B : Nat} {w : World} {f1 f2 f3 : List Nat} {p b a : Value} {d : Dk} (h : OwnD B w f1 f2 f3 p b a d) : ∀ x ∈ f1 ++ f2 ++ f3, x < w.heap.size := fun x hx => by
  simp only [List.mem_append] at hx
  rcases hx with (hx | hx) | hx
  · exact oLetterS_held _ _ _ _ h.p.1 x hx
  · exact oLetterS_held _ _ _ _ h.b.1 x hx
  · exact oLetterS_held _ _ _ _ h.a.1 x hx

set_option maxHeartbeats 3200000 in
theorem fnReads_any (a : Arg Dk) (x : Lab) (w : World) (h : eDesk w a.v a.x) (_ : x.ok) :
    Calls Try.prog 4 #[a.v, x.val] w fun e w' => e = .returned (.bool true) ∧ Ext w w' := by
  obtain ⟨v, d⟩ := a
  change eDesk w v d at h
  change Calls Try.prog 4 #[v, _] w _
  unfold Lab.val
  have HP := Lib.hid h
  obtain ⟨ap0, kp0, ab0, kb0, as0, ks0, rfl, hu, hn, h1, h2, h3⟩ := h
  have HI : Hid (I64 d.used ∧ I64 d.now ∧ (∀ x ∈ d.pairs, x.ok) ∧ (∀ x ∈ d.box, x.ok) ∧ ∀ x ∈ d.audit, x.ok) := Lib.hid ⟨hu, hn, slr_ltrs h1, slr_ltrs h2, slr_ltrs h3⟩
  clear h1 h2 h3 hn hu
  unfold Dk.val at HP ⊢
  by_cases hf : d.sz ≤ 1048576
  · have ht : decide (((1048576 - d.sz : Nat) : Int) < 0) = false := decide_eq_false (by omega)
    have HRI := Lib.hid (readsD_i64 HI.out.2.2.2.1 x)
    have hmx : wDk d ≤ 6 * 1048576 := wDk_le hf
    have hmr : wL (fun _ : Int => 1) (readsD d x) ≤ 1048576 := by rw [wL_const]; have := readsD_len d x; unfold Dk.sz at hf; omega
    generalize hR : readsD d x = R at HRI hmr
    have HEQ := Lib.hid hR
    clear hR
    go_enter Try.func4, Try.ntmps4
    go_wp2_with fail
    refine (szDesk_any d _ 1048576 _ (HP.out.ext (by repeat (first | exact Ext.refl _ | apply Ext.plus | apply Ext.alloc | apply Ext.drew))) (Nat.le_refl _)).mono ?_
    rintro e _ ⟨rfl, ⟨X0, rfl⟩⟩
    rw [if_pos hf]
    go_upto_region 5 with fail
    (refine wp_region_y 6 [(fun u _ => u = (.agg #[.slice ap0 d.pairs.length kp0, .slice ab0 d.box.length kb0, .slice as0 d.audit.length ks0, (.int .i64 d.used), (.int .i64 d.now)])), kDesk d, (fun u _ => u = (.agg #[(.int .i64 x.lv), (.int .i64 x.st)])), (fun u _ => u = (.agg #[(.int .i64 x.lv), (.int .i64 x.st)])), kSl 1 rInt R, kSl 1 rInt R] (by kernel_rfl) (by kernel_rfl) (by kernel_rfl) rfl ?_ (by (repeat' (first | exact trivial | exact XReg.GoodK.same _ default | refine And.intro ?_ ?_)); all_goals (first | exact kDesk_good HP.out | exact kSl_good rInt_stable (sl_new default 0 _ HRI.out (by rw [wL_const] at hmr; unfold maxLen; omega)))))
    (apply YReg.val (.agg #[.slice ap0 d.pairs.length kp0, .slice ab0 d.box.length kb0, .slice as0 d.audit.length ks0, (.int .i64 d.used), (.int .i64 d.now)]); (case h => (intro w' hw' hF'; obtain ⟨X', rfl⟩ := hw'; have HF' := Lib.hid hF'; clear hF'; go_wp2_with (fail); exact ⟨rfl, (by repeat (first | exact Ext.refl _ | apply Ext.plus | apply Ext.alloc | apply Ext.drew))⟩)); (case hv => kernel_rfl))
    refine YReg.kind (fun w' hw' hF' => ?_) (fun v w1 hK => ?_)
    · obtain ⟨X', rfl⟩ := hw'
      clear hF'
      go_wp2_with fail
      refine (toDesk_any d _ _ (HP.out.ext (by repeat (first | exact Ext.refl _ | apply Ext.plus | apply Ext.alloc | apply Ext.drew))) hf).mono ?_
      rintro e _ ⟨p3, b3, s3, fp3, fb3, fs3, rfl, ⟨X3, rfl⟩, hO⟩
      have H3 := Lib.hid (hO.e HI.out.1 HI.out.2.1 HI.out.2.2.1 HI.out.2.2.2.1 HI.out.2.2.2.2)
      have O3 := Lib.hid hO
      obtain ⟨ap3, kp3, rfl⟩ := hO.p.shape
      obtain ⟨ab3, kb3, rfl⟩ := hO.b.shape
      obtain ⟨as3, ks3, rfl⟩ := hO.a.shape
      clear hO
      unfold Dk.val at H3 ⊢
      go_wp2
      exact ⟨(by repeat (first | exact Ext.refl _ | apply Ext.plus | apply Ext.alloc | apply Ext.drew)), H3.out⟩
    obtain ⟨ap3, kp3, ab3, kb3, as3, ks3, rfl, hq1, hq2, hq3, hq4, hq5⟩ := hK
    clear hq1 hq2 hq3 hq4 hq5 w1
    unfold Dk.val
    (apply YReg.val (.agg #[(.int .i64 x.lv), (.int .i64 x.st)]); (case h => (intro w' hw' hF'; obtain ⟨X', rfl⟩ := hw'; have HF' := Lib.hid hF'; clear hF'; go_wp2_with (fail); exact ⟨rfl, (by repeat (first | exact Ext.refl _ | apply Ext.plus | apply Ext.alloc | apply Ext.drew))⟩)); (case hv => kernel_rfl))
    (apply YReg.val (.agg #[(.int .i64 x.lv), (.int .i64 x.st)]); (case h => (intro w' hw' hF'; obtain ⟨X', rfl⟩ := hw'; have HF' := Lib.hid hF'; clear hF'; go_wp2_with ((go_at_call 22; refine (toLabel_any _ _ _).mono ?_; rintro e _ ⟨rfl, X, rfl⟩)); exact ⟨rfl, (by repeat (first | exact Ext.refl _ | apply Ext.plus | apply Ext.alloc | apply Ext.drew))⟩)); (case hv => kernel_rfl))
    refine YReg.kind (fun w' hw' hF' => ?_) (fun v w1 hK => ?_)
    · obtain ⟨X', rfl⟩ := hw'
      have HF' := Lib.hid hF'
      clear hF'
      go_wp2_with fail
      have hk := (HF'.out.get 1 (p := (kDesk d, (Value.agg #[.slice ap3 d.pairs.length kp3, .slice ab3 d.box.length kb3, .slice as3 d.audit.length ks3, (.int .i64 d.used), (.int .i64 d.now)]))) (by kernel_rfl) (by kernel_rfl))
      refine (specReads_any d _ x _ hk hf).mono ?_
      clear hk
      rintro e _ ⟨v3, rfl, ⟨X3, rfl⟩, hO⟩
      obtain ⟨fp3, hO⟩ := Row.own (f := intCell) (K := 1) (fun _ => rfl) hO
      rw [HEQ.out] at hO
      have H3 := Lib.hid (oIntS_r hO.1 HRI.out)
      clear hO
      obtain ⟨b3, d3, rfl⟩ := H3.out.len
      go_wp2
      exact ⟨(by repeat (first | exact Ext.refl _ | apply Ext.plus | apply Ext.alloc | apply Ext.drew)), _, _, rfl, H3.out⟩
    obtain ⟨b3, d3, rfl, hs3⟩ := hK
    clear hs3 w1
    refine YReg.kind (fun w' hw' hF' => ?_) (fun v w1 hK => ?_)
    · obtain ⟨X', rfl⟩ := hw'
      have HF' := Lib.hid hF'
      clear hF'
      go_wp2_with fail
      have hk := (HF'.out.get 4 (p := (kSl 1 rInt R, .slice b3 R.length d3)) (by kernel_rfl) (by kernel_rfl))
      exact ⟨(by repeat (first | exact Ext.refl _ | apply Ext.plus | apply Ext.alloc | apply Ext.drew)), hk⟩
    obtain ⟨b4, d4, rfl, hs3⟩ := hK
    clear hs3 w1
    refine YReg.doneN (fun X hF => ?_)
    have HW := Lib.hid (kSl_r (hF 5 (kSl 1 rInt R, .slice b4 R.length d4) (by kernel_rfl)))
    clear hF
    go_wp2_with fail
    refine (toDesk_any d _ _ (HP.out.ext (by repeat (first | exact Ext.refl _ | apply Ext.plus | apply Ext.alloc | apply Ext.drew))) hf).mono ?_
    rintro e _ ⟨p1, b1, s1, fp1, fb1, fs1, rfl, ⟨X1, rfl⟩, hO⟩
    have HX := Lib.hid (hO.e HI.out.1 HI.out.2.1 HI.out.2.2.1 HI.out.2.2.2.1 HI.out.2.2.2.2)
    have OX := Lib.hid hO
    obtain ⟨ap1, kp1, rfl⟩ := hO.p.shape
    obtain ⟨ab1, kb1, rfl⟩ := hO.b.shape
    obtain ⟨as1, ks1, rfl⟩ := hO.a.shape
    clear hO
    unfold Dk.val at HX ⊢
    have HXU := Lib.hid OX.out.high
    have HXL := Lib.hid OX.out.low
    simp only [World.size_plus, World.size_alloc] at HXU HXL
    go_upto_region 7 with fail
    (refine wp_region_y 5 [(fun u _ => u = (.agg #[.slice ap1 d.pairs.length kp1, .slice ab1 d.box.length kb1, .slice as1 d.audit.length ks1, (.int .i64 d.used), (.int .i64 d.now)])), (fun u _ => u = (.agg #[(.int .i64 x.lv), (.int .i64 x.st)])), (fun u _ => u = (.agg #[(.int .i64 x.lv), (.int .i64 x.st)])), kIntO (w.heap.size + 1 + 1 + X0.n + X.n + X1.n) R, kIntO (w.heap.size + 1 + 1 + X0.n + X.n + X1.n) R] (by kernel_rfl) (by kernel_rfl) (by kernel_rfl) rfl ?_ (by (repeat' (first | exact trivial | exact XReg.GoodK.same _ default | refine And.intro ?_ ?_)); all_goals (exact kIntO_good _ (by rw [wL_const] at hmr; unfold maxLen; omega))))
    (apply YReg.val (.agg #[.slice ap1 d.pairs.length kp1, .slice ab1 d.box.length kb1, .slice as1 d.audit.length ks1, (.int .i64 d.used), (.int .i64 d.now)]); (case h => (intro w' hw' hF'; obtain ⟨X', rfl⟩ := hw'; have HF' := Lib.hid hF'; clear hF'; go_wp2_with (fail); exact ⟨rfl, (by repeat (first | exact Ext.refl _ | apply Ext.plus | apply Ext.alloc | apply Ext.drew))⟩)); (case hv => kernel_rfl))
    (apply YReg.val (.agg #[(.int .i64 x.lv), (.int .i64 x.st)]); (case h => (intro w' hw' hF'; obtain ⟨X', rfl⟩ := hw'; have HF' := Lib.hid hF'; clear hF'; go_wp2_with (fail); exact ⟨rfl, (by repeat (first | exact Ext.refl _ | apply Ext.plus | apply Ext.alloc | apply Ext.drew))⟩)); (case hv => kernel_rfl))
    (apply YReg.val (.agg #[(.int .i64 x.lv), (.int .i64 x.st)]); (case h => (intro w' hw' hF'; obtain ⟨X', rfl⟩ := hw'; have HF' := Lib.hid hF'; clear hF'; go_wp2_with ((go_at_call 22; refine (toLabel_any _ _ _).mono ?_; rintro e _ ⟨rfl, X, rfl⟩)); exact ⟨rfl, (by repeat (first | exact Ext.refl _ | apply Ext.plus | apply Ext.alloc | apply Ext.drew))⟩)); (case hv => kernel_rfl))
    refine YReg.kind (fun w' hw' hF' => ?_) (fun v w1 hK => ?_)
    · obtain ⟨X', rfl⟩ := hw'
      clear hF'
      go_wp2_with fail
      refine (implReads_any d _ x _ (HX.out.ext (by repeat (first | exact Ext.refl _ | apply Ext.plus | apply Ext.alloc | apply Ext.drew))) hf).mono ?_
      rintro e _ ⟨v3, rfl, ⟨X3, rfl⟩, hO⟩
      obtain ⟨fp3, hO⟩ := Row.own (f := intCell) (K := 1) (fun _ => rfl) hO
      rw [HEQ.out] at hO
      have H3 : Hid (kIntO (w.heap.size + 1 + 1 + X0.n + X.n + X1.n) R v3 _) := Lib.hid (kIntO_in (hO.mono (by simp; try omega)))
      obtain ⟨b3, d3, rfl⟩ := hO.shape
      clear hO
      go_wp2
      exact ⟨(by repeat (first | exact Ext.refl _ | apply Ext.plus | apply Ext.alloc | apply Ext.drew)), H3.out⟩
    obtain ⟨b7, d7, fp7, rfl, hs3⟩ := hK
    clear hs3 w1 fp7
    refine YReg.kind (fun w' hw' hF' => ?_) (fun v w1 hK => ?_)
    · obtain ⟨X', rfl⟩ := hw'
      have HF' := Lib.hid hF'
      clear hF'
      go_wp2_with fail
      have hk := (HF'.out.get 3 (p := (kIntO (w.heap.size + 1 + 1 + X0.n + X.n + X1.n) R, .slice b7 R.length d7)) (by kernel_rfl) (by kernel_rfl))
      exact ⟨(by repeat (first | exact Ext.refl _ | apply Ext.plus | apply Ext.alloc | apply Ext.drew)), hk⟩
    obtain ⟨ag, cg, fpg, rfl, hs3⟩ := hK
    clear hs3 w1 fpg
    refine YReg.doneN (fun X2 hF => ?_)
    obtain ⟨fpg, hO⟩ := kIntO_out (hF 4 (kIntO (w.heap.size + 1 + 1 + X0.n + X.n + X1.n) R, .slice ag R.length cg) (by kernel_rfl))
    have HG := Lib.hid hO
    clear hF hO
    go_wp2_with fail
    refine (eqInt64S_self _ _ R _ (oIntS_r HG.out.1 HRI.out) (HW.out.ext rInt_stable (by repeat (first | exact Ext.refl _ | apply Ext.plus | apply Ext.alloc | apply Ext.drew)))).mono ?_
    rintro e _ ⟨rfl, ⟨X3, rfl⟩⟩
    go_upto_region 10 with fail
    (refine wp_region_y 5 [(fun u _ => u = (.agg #[.slice ap1 d.pairs.length kp1, .slice ab1 d.box.length kb1, .slice as1 d.audit.length ks1, (.int .i64 d.used), (.int .i64 d.now)])), (fun u _ => u = (.agg #[.slice ap0 d.pairs.length kp0, .slice ab0 d.box.length kb0, .slice as0 d.audit.length ks0, (.int .i64 d.used), (.int .i64 d.now)])), kDesk d, (fun u _ => u = (.bool true)), (fun u _ => u = (.bool false))] (by kernel_rfl) (by kernel_rfl) (by kernel_rfl) rfl ?_ (by (repeat' (first | exact trivial | exact XReg.GoodK.same _ default | refine And.intro ?_ ?_)); all_goals exact kDesk_good HX.out))
    (apply YReg.val (.agg #[.slice ap1 d.pairs.length kp1, .slice ab1 d.box.length kb1, .slice as1 d.audit.length ks1, (.int .i64 d.used), (.int .i64 d.now)]); (case h => (intro w' hw' hF'; obtain ⟨X', rfl⟩ := hw'; have HF' := Lib.hid hF'; clear hF'; go_wp2_with (fail); exact ⟨rfl, (by repeat (first | exact Ext.refl _ | apply Ext.plus | apply Ext.alloc | apply Ext.drew))⟩)); (case hv => kernel_rfl))
    (apply YReg.val (.agg #[.slice ap0 d.pairs.length kp0, .slice ab0 d.box.length kb0, .slice as0 d.audit.length ks0, (.int .i64 d.used), (.int .i64 d.now)]); (case h => (intro w' hw' hF'; obtain ⟨X', rfl⟩ := hw'; have HF' := Lib.hid hF'; clear hF'; go_wp2_with (fail); exact ⟨rfl, (by repeat (first | exact Ext.refl _ | apply Ext.plus | apply Ext.alloc | apply Ext.drew))⟩)); (case hv => kernel_rfl))
    refine YReg.kind (fun w' hw' hF' => ?_) (fun v w1 hK => ?_)
    · obtain ⟨X', rfl⟩ := hw'
      clear hF'
      go_wp2_with fail
      refine (toDesk_any d _ _ (HP.out.ext (by repeat (first | exact Ext.refl _ | apply Ext.plus | apply Ext.alloc | apply Ext.drew))) hf).mono ?_
      rintro e _ ⟨p3, b3, s3, fp3, fb3, fs3, rfl, ⟨X3, rfl⟩, hO⟩
      have H3 := Lib.hid (hO.e HI.out.1 HI.out.2.1 HI.out.2.2.1 HI.out.2.2.2.1 HI.out.2.2.2.2)
      have O3 := Lib.hid hO
      obtain ⟨ap3, kp3, rfl⟩ := hO.p.shape
      obtain ⟨ab3, kb3, rfl⟩ := hO.b.shape
      obtain ⟨as3, ks3, rfl⟩ := hO.a.shape
      clear hO
      unfold Dk.val at H3 ⊢
      go_wp2
      exact ⟨(by repeat (first | exact Ext.refl _ | apply Ext.plus | apply Ext.alloc | apply Ext.drew)), H3.out⟩
    obtain ⟨ap4, kp4, ab4, kb4, as4, ks4, rfl, hq1, hq2, hq3, hq4, hq5⟩ := hK
    clear hq1 hq2 hq3 hq4 hq5 w1
    unfold Dk.val
    (apply YReg.val (.bool true); (case h => (intro w' hw' hF'; obtain ⟨X', rfl⟩ := hw'; have HF' := Lib.hid hF'; clear hF'; go_wp2_with ((go_at_call 20; refine (eqDesk_self d _ _ _ (HX.out.ext (by repeat (first | exact Ext.refl _ | apply Ext.plus | apply Ext.alloc | apply Ext.drew))) (HF'.out.get 2 (p := (kDesk d, (Value.agg #[.slice ap4 d.pairs.length kp4, .slice ab4 d.box.length kb4, .slice as4 d.audit.length ks4, (.int .i64 d.used), (.int .i64 d.now)]))) (by kernel_rfl) (by kernel_rfl))).mono ?_; rintro e _ ⟨rfl, Y3, rfl⟩)); exact ⟨rfl, (by repeat (first | exact Ext.refl _ | apply Ext.plus | apply Ext.alloc | apply Ext.drew))⟩)); (case hv => kernel_rfl))
    (apply YReg.val (.bool false); (case h => (intro w' hw' hF'; obtain ⟨X', rfl⟩ := hw'; have HF' := Lib.hid hF'; clear hF'; go_wp2_with (fail); exact ⟨rfl, (by repeat (first | exact Ext.refl _ | apply Ext.plus | apply Ext.alloc | apply Ext.drew))⟩)); (case hv => kernel_rfl))
    refine YReg.doneN (fun X4 _ => ?_)
    go_wp2_with fail
    refine (markDesk_any d _ _ _ 1 _ fp1 fb1 fs1 _ (OX.out.ext (by repeat (first | exact Ext.refl _ | apply Ext.plus | apply Ext.alloc | apply Ext.drew))) (by omega)).mono ?_
    rintro e wm ⟨rfl, hx, hmk⟩
    have hE : Ext ((w.alloc (.cells #[.slice ap0 d.pairs.length kp0, .slice ab0 d.box.length kb0, .slice as0 d.audit.length ks0, (.int .i64 d.used), (.int .i64 d.now)] 24)).alloc (.cells #[(.int .i64 x.lv), (.int .i64 x.st)] 34)) wm := hx.grown (by repeat (first | exact Ext.refl _ | apply Ext.plus | apply Ext.alloc | apply Ext.drew)) HXL.out (by simp; try omega)
    have HG1 := Lib.hid ((HG.out.ext oIntS_local oIntS_held (by repeat (first | exact Ext.refl _ | apply Ext.plus | apply Ext.alloc | apply Ext.drew))).chg oIntS_local oIntS_held hx (fun b hb => HXU.out b hb))
    have HE1 := Lib.hid (show Ext _ wm from hx.grown ((Ext.refl _).plus X1 |>.alloc _ |>.plus X2 |>.plus X3 |>.plus X4) HXL.out (by simp))
    have HW1 := Lib.hid (HW.out.ext rInt_stable HE1.out)
    clear hmk hx HX HG OX HXU HXL
    obtain ⟨Y5, rfl⟩ := hE
    go_wp2_with fail
    refine (eqInt64S_self _ _ R _ (oIntS_r HG1.out.1 HRI.out) HW1.out).mono ?_
    rintro e _ ⟨rfl, ⟨X6, rfl⟩⟩
    go_wp2_with fail
    refine (markInt64S_any _ R 1 fpg _ (HG1.out.ext oIntS_local oIntS_held (by repeat (first | exact Ext.refl _ | apply Ext.plus | apply Ext.alloc | apply Ext.drew))).1 HG1.out.2.1 (by omega)).mono ?_
    rintro e wm ⟨rfl, hx, hmk⟩
    have hE : Ext ((w.alloc (.cells #[.slice ap0 d.pairs.length kp0, .slice ab0 d.box.length kb0, .slice as0 d.audit.length ks0, (.int .i64 d.used), (.int .i64 d.now)] 24)).alloc (.cells #[(.int .i64 x.lv), (.int .i64 x.st)] 34)) wm := hx.grown (by repeat (first | exact Ext.refl _ | apply Ext.plus | apply Ext.alloc | apply Ext.drew)) HG1.out.2.2 (by simp; try omega)
    have HW2 := Lib.hid (HW.out.ext rInt_stable (hx.grown (HE1.out.plus X6) HG1.out.2.2 (by simp; try omega)))
    have HM := Lib.hid (oFl_reads (f := intCell) (fun _ => rfl) hmk)
    clear hmk hx HW HW1 HG1 HE1
    obtain ⟨Y6, rfl⟩ := hE
    go_wp2_with fail
    refine (heldInt64S_any _ R 1 _ (HM.out.ext (rc_stable _) (by repeat (first | exact Ext.refl _ | apply Ext.plus | apply Ext.alloc | apply Ext.drew))) (by omega)).mono ?_
    rintro e _ ⟨rfl, ⟨X7, rfl⟩⟩
    go_upto_region 24 with fail
    (refine wp_region_y 6 [(fun u _ => u = (.agg #[.slice ap0 d.pairs.length kp0, .slice ab0 d.box.length kb0, .slice as0 d.audit.length ks0, (.int .i64 d.used), (.int .i64 d.now)])), kDesk d, (fun u _ => u = (.agg #[(.int .i64 x.lv), (.int .i64 x.st)])), (fun u _ => u = (.agg #[(.int .i64 x.lv), (.int .i64 x.st)])), kSl 1 rInt R, kSl 1 rInt R] (by kernel_rfl) (by kernel_rfl) (by kernel_rfl) rfl ?_ (by (repeat' (first | exact trivial | exact XReg.GoodK.same _ default | refine And.intro ?_ ?_)); all_goals (first | exact kDesk_good HP.out | exact kSl_good rInt_stable (sl_new default 0 _ HRI.out (by rw [wL_const] at hmr; unfold maxLen; omega)))))
    (apply YReg.val (.agg #[.slice ap0 d.pairs.length kp0, .slice ab0 d.box.length kb0, .slice as0 d.audit.length ks0, (.int .i64 d.used), (.int .i64 d.now)]); (case h => (intro w' hw' hF'; obtain ⟨X', rfl⟩ := hw'; have HF' := Lib.hid hF'; clear hF'; go_wp2_with (fail); exact ⟨rfl, (by repeat (first | exact Ext.refl _ | apply Ext.plus | apply Ext.alloc | apply Ext.drew))⟩)); (case hv => kernel_rfl))
    refine YReg.kind (fun w' hw' hF' => ?_) (fun v w1 hK => ?_)
    · obtain ⟨X', rfl⟩ := hw'
      clear hF'
      go_wp2_with fail
      refine (toDesk_any d _ _ (HP.out.ext (by repeat (first | exact Ext.refl _ | apply Ext.plus | apply Ext.alloc | apply Ext.drew))) hf).mono ?_
      rintro e _ ⟨p3, b3, s3, fp3, fb3, fs3, rfl, ⟨X3, rfl⟩, hO⟩
      have H3 := Lib.hid (hO.e HI.out.1 HI.out.2.1 HI.out.2.2.1 HI.out.2.2.2.1 HI.out.2.2.2.2)
      have O3 := Lib.hid hO
      obtain ⟨ap3, kp3, rfl⟩ := hO.p.shape
      obtain ⟨ab3, kb3, rfl⟩ := hO.b.shape
      obtain ⟨as3, ks3, rfl⟩ := hO.a.shape
      clear hO
      unfold Dk.val at H3 ⊢
      go_wp2
      exact ⟨(by repeat (first | exact Ext.refl _ | apply Ext.plus | apply Ext.alloc | apply Ext.drew)), H3.out⟩
    obtain ⟨ap3, kp3, ab3, kb3, as3, ks3, rfl, hq1, hq2, hq3, hq4, hq5⟩ := hK
    clear hq1 hq2 hq3 hq4 hq5 w1
    unfold Dk.val
    (apply YReg.val (.agg #[(.int .i64 x.lv), (.int .i64 x.st)]); (case h => (intro w' hw' hF'; obtain ⟨X', rfl⟩ := hw'; have HF' := Lib.hid hF'; clear hF'; go_wp2_with (fail); exact ⟨rfl, (by repeat (first | exact Ext.refl _ | apply Ext.plus | apply Ext.alloc | apply Ext.drew))⟩)); (case hv => kernel_rfl))
    (apply YReg.val (.agg #[(.int .i64 x.lv), (.int .i64 x.st)]); (case h => (intro w' hw' hF'; obtain ⟨X', rfl⟩ := hw'; have HF' := Lib.hid hF'; clear hF'; go_wp2_with ((go_at_call 22; refine (toLabel_any _ _ _).mono ?_; rintro e _ ⟨rfl, X, rfl⟩)); exact ⟨rfl, (by repeat (first | exact Ext.refl _ | apply Ext.plus | apply Ext.alloc | apply Ext.drew))⟩)); (case hv => kernel_rfl))
    refine YReg.kind (fun w' hw' hF' => ?_) (fun v w1 hK => ?_)
    · obtain ⟨X', rfl⟩ := hw'
      have HF' := Lib.hid hF'
      clear hF'
      go_wp2_with fail
      have hk := (HF'.out.get 1 (p := (kDesk d, (Value.agg #[.slice ap3 d.pairs.length kp3, .slice ab3 d.box.length kb3, .slice as3 d.audit.length ks3, (.int .i64 d.used), (.int .i64 d.now)]))) (by kernel_rfl) (by kernel_rfl))
      refine (implReads_any d _ x _ hk hf).mono ?_
      clear hk
      rintro e _ ⟨v3, rfl, ⟨X3, rfl⟩, hO⟩
      obtain ⟨fp3, hO⟩ := Row.own (f := intCell) (K := 1) (fun _ => rfl) hO
      rw [HEQ.out] at hO
      have H3 := Lib.hid (oIntS_r hO.1 HRI.out)
      clear hO
      obtain ⟨b3, d3, rfl⟩ := H3.out.len
      go_wp2
      exact ⟨(by repeat (first | exact Ext.refl _ | apply Ext.plus | apply Ext.alloc | apply Ext.drew)), _, _, rfl, H3.out⟩
    obtain ⟨b3, d3, rfl, hs3⟩ := hK
    clear hs3 w1
    refine YReg.kind (fun w' hw' hF' => ?_) (fun v w1 hK => ?_)
    · obtain ⟨X', rfl⟩ := hw'
      have HF' := Lib.hid hF'
      clear hF'
      go_wp2_with fail
      have hk := (HF'.out.get 4 (p := (kSl 1 rInt R, .slice b3 R.length d3)) (by kernel_rfl) (by kernel_rfl))
      exact ⟨(by repeat (first | exact Ext.refl _ | apply Ext.plus | apply Ext.alloc | apply Ext.drew)), hk⟩
    obtain ⟨b8, d8, rfl, hs3⟩ := hK
    clear hs3 w1
    refine YReg.doneN (fun X8 hF => ?_)
    have HH := Lib.hid (kSl_r (hF 5 (kSl 1 rInt R, .slice b8 R.length d8) (by kernel_rfl)))
    clear hF
    go_wp2_with fail
    refine (eqInt64S_self _ _ R _ HH.out (HW2.out.ext rInt_stable (by repeat (first | exact Ext.refl _ | apply Ext.plus | apply Ext.alloc | apply Ext.drew)))).mono ?_
    rintro e _ ⟨rfl, ⟨X9, rfl⟩⟩
    go_wp2_with fail
    refine (heldInt64S_any _ R 1 _ (HM.out.ext (rc_stable _) (by repeat (first | exact Ext.refl _ | apply Ext.plus | apply Ext.alloc | apply Ext.drew))) (by omega)).mono ?_
    rintro e _ ⟨rfl, ⟨XA, rfl⟩⟩
    go_wp2
    go_ret
    exact ⟨rfl, (by repeat (first | exact Ext.refl _ | apply Ext.plus | apply Ext.alloc | apply Ext.drew))⟩
  · go_enter Try.func4, Try.ntmps4
    go_wp2_with fail
    refine (szDesk_any d _ 1048576 _ (HP.out.ext (by repeat (first | exact Ext.refl _ | apply Ext.plus | apply Ext.alloc | apply Ext.drew))) (Nat.le_refl _)).mono ?_
    rintro e _ ⟨rfl, ⟨X0, rfl⟩⟩
    rw [if_neg hf]
    go_wp2
    go_ret
    exact ⟨rfl, (by repeat (first | exact Ext.refl _ | apply Ext.plus | apply Ext.alloc | apply Ext.drew))⟩
end Go.Proofs.Ytgildaidogjogaa
