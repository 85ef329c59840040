/- The law of LetDown. -/
import Derived.Test.YtkekfncgpbileaaLD3
set_option maxRecDepth 100000
set_option linter.unusedVariables false
namespace Go.Proofs.Ytkekfncgpbileaa
open Go.RowKit Go.Fin1
theorem kBox_goodB (B : Nat) (cs : List Value) (ty : TypeId) : XReg.GoodK (kBox B cs ty) := by
  have := kBox_good (emptyH B) cs ty
  rwa [emptyH_size] at this
/-- A step whose desk lies in memory of its own from B on. -/
def kStO (B : Nat) (d : Dk) (c : Int) : XReg.Kind := fun v w => ∃ a1 c1 a2 c2 a3 c3 f1 f2 f3, v = stV d c (.slice a1 d.pairs.length c1) (.slice a2 d.box.length c2) (.slice a3 d.audit.length c3) ∧ OwnD B w f1 f2 f3 (.slice a1 d.pairs.length c1) (.slice a2 d.box.length c2) (.slice a3 d.audit.length c3) d
theorem kStO_good {B : Nat} {d : Dk} {c : Int} (h1 : d.pairs.length ≤ maxLen) (h2 : d.box.length ≤ maxLen) (h3 : d.audit.length ≤ maxLen) : XReg.GoodK (kStO B d c) :=
  ⟨fun v w w' hx ⟨a1, c1, a2, c2, a3, c3, f1, f2, f3, hv, hO⟩ => ⟨a1, c1, a2, c2, a3, c3, f1, f2, f3, hv, hO.ext hx⟩, by
    obtain ⟨a1, c1, X1, f1, o1⟩ := own_ltr_at (emptyH B) d.pairs h1
    obtain ⟨a2, c2, X2, f2, o2⟩ := own_ltr_at ((emptyH B).plus X1) d.box h2
    obtain ⟨a3, c3, X3, f3, o3⟩ := own_ltr_at (((emptyH B).plus X1).plus X2) d.audit h3
    have l1 := oLetterS_held _ _ _ _ o1.1
    have l2 := oLetterS_held _ _ _ _ o2.1
    have g2 := o2.2.2
    have g3 := o3.2.2
    have hz := emptyH_size B
    refine ⟨_, _, a1, c1, a2, c2, a3, c3, f1, f2, f3, rfl, ⟨((o1.plus oLetterS_local oLetterS_held X2).plus oLetterS_local oLetterS_held X3).mono (by omega), (o2.plus oLetterS_local oLetterS_held X3).mono (by simp; omega), o3.mono (by simp; omega), fun q hq hq2 => ?_, fun q hq hq2 => ?_, fun q hq hq2 => ?_⟩⟩
    · have := l1 q hq; have := g2 q hq2; omega
    · have := l1 q hq; have := g3 q hq2; simp at *; omega
    · have := l2 q hq; have := g3 q hq2; omega⟩
theorem kStO_in {B : Nat} {d : Dk} {c : Int} {w : World} {f1 f2 f3 : List Nat} {p b a : Value} (h : OwnD B w f1 f2 f3 p b a d) : kStO B d c (stV d c p b a) w := by
  obtain ⟨a1, c1, rfl⟩ := h.p.shape
  obtain ⟨a2, c2, rfl⟩ := h.b.shape
  obtain ⟨a3, c3, rfl⟩ := h.a.shape
  exact ⟨a1, c1, a2, c2, a3, c3, f1, f2, f3, rfl, h⟩
theorem kStO_out {B : Nat} {d : Dk} {c : Int} {w : World} {p b a : Value} (h : kStO B d c (.agg #[p, b, a, (.int .i64 d.used), (.int .i64 d.now), (.int .i64 c)]) w) : ∃ f1 f2 f3, OwnD B w f1 f2 f3 p b a d := by
  obtain ⟨a1, c1, a2, c2, a3, c3, f1, f2, f3, hv, h⟩ := h
  unfold stV at hv
  simp at hv
  obtain ⟨rfl, rfl, rfl⟩ := hv
  exact ⟨f1, f2, f3, h⟩
theorem argD {w W : World} {pa pb pc : Value} {pu pn xl xs yl ys : Int} (h : Ext (((w.alloc (.cells #[pa, pb, pc, (.int .i64 pu), (.int .i64 pn)] 24)).alloc (.cells #[(.int .i64 xl), (.int .i64 xs)] 26)).alloc (.cells #[(.int .i64 yl), (.int .i64 ys)] 26)) W) :
    W.cell? ⟨w.heap.size, 0, none⟩ = some pa ∧ W.cell? ⟨w.heap.size, 1, none⟩ = some pb ∧ W.cell? ⟨w.heap.size, 2, none⟩ = some pc ∧ W.cell? ⟨w.heap.size, 3, none⟩ = some (.int .i64 pu) ∧ W.cell? ⟨w.heap.size, 4, none⟩ = some (.int .i64 pn) ∧ W.cell? ⟨w.heap.size + 1, 0, none⟩ = some (.int .i64 xl) ∧ W.cell? ⟨w.heap.size + 1, 1, none⟩ = some (.int .i64 xs) ∧ W.cell? ⟨w.heap.size + 1 + 1, 0, none⟩ = some (.int .i64 yl) ∧ W.cell? ⟨w.heap.size + 1 + 1, 1, none⟩ = some (.int .i64 ys) ∧ W.old w.heap.size ∧ W.old (w.heap.size + 1) ∧ W.old (w.heap.size + 1 + 1) := by
  have h0 : W.cell? ⟨w.heap.size, 0, none⟩ = some pa := h.cell (by simp [go_sem])
  have h1 : W.cell? ⟨w.heap.size + 1, 0, none⟩ = some (.int .i64 xl) := h.cell (by simp [go_sem])
  have h2 : W.cell? ⟨w.heap.size + 1 + 1, 0, none⟩ = some (.int .i64 yl) := h.cell (by simp [go_sem])
  exact ⟨h0, h.cell (by simp [go_sem]), h.cell (by simp [go_sem]), h.cell (by simp [go_sem]), h.cell (by simp [go_sem]), h1, h.cell (by simp [go_sem]), h2, h.cell (by simp [go_sem]), World.old_of_cell h0, World.old_of_cell h1, World.old_of_cell h2⟩
set_option maxHeartbeats 12800000 in
theorem fnLetDown_any (a : Arg Dk) (x y : Lab) (q : Int) (w : World) (h : eDesk w a.v a.x) (hx : x.ok) (hy : y.ok) (hq : I64 q) :
    Calls Try.prog 3 #[a.v, x.val, y.val, (.int .i64 q)] w fun e w' => e = .returned (.bool true) ∧ Ext w w' := by
  obtain ⟨v, d⟩ := a
  change eDesk w v d at h
  change Calls Try.prog 3 #[v, _, _, _] w _
  unfold Lab.val
  have HP := Lib.hid h
  obtain ⟨ap0, kp0, ab0, kb0, as0, ks0, rfl, hu, hn, h1, h2, h3⟩ := h
  have HI : Hid (I64 d.used ∧ I64 d.now ∧ (∀ x ∈ d.pairs, x.ok) ∧ (∀ x ∈ d.box, x.ok) ∧ ∀ x ∈ d.audit, x.ok) := Lib.hid ⟨hu, hn, slr_ltrs h1, slr_ltrs h2, slr_ltrs h3⟩
  clear h1 h2 h3 hn hu
  unfold Dk.val at HP ⊢
  by_cases hf : d.sz ≤ 1048576
  · have ht : decide (((1048576 - d.sz : Nat) : Int) < 0) = false := decide_eq_false (by omega)
    have HRI := Lib.hid (letR_ok (a := x) (b := y) (q := q) hx hy HI.out.1 HI.out.2.2.1 HI.out.2.2.2.1 HI.out.2.2.2.2)
    have hmx : wDk d ≤ 6 * 1048576 := wDk_le hf
    have hmr : wDk (letR d x y q).1 ≤ 6 * 1048576 := wDk_le (Nat.le_trans HRI.out.2.2.2.2.2 (by omega))
    clear hx hy hq
    generalize hR : letR d x y q = R at HRI hmr
    obtain ⟨RD, RC⟩ := R
    have HEQ := Lib.hid hR
    simp only at HRI hmr
    have hl1 : RD.pairs.length ≤ maxLen := by have := HRI.out.2.2.2.2.2; unfold Dk.sz at this; unfold maxLen; omega
    have hl2 : RD.box.length ≤ maxLen := by have := HRI.out.2.2.2.2.2; unfold Dk.sz at this; unfold maxLen; omega
    have hl3 : RD.audit.length ≤ maxLen := by have := HRI.out.2.2.2.2.2; unfold Dk.sz at this; unfold maxLen; omega
    have HG := Lib.hid (fun B : Nat => kStO_good (B := B) (c := RC) hl1 hl2 hl3)
    clear hR hl1 hl2 hl3
    go_enter Try.func3, Try.ntmps3
    go_wp2_with fail
    refine (szDesk_any d _ 1048576 _ (HP.out.ext (by repeat (first | exact Ext.refl _ | apply Ext.plus | apply Ext.alloc | apply Ext.drew))) (Nat.le_refl _)).mono ?_
    rintro e _ ⟨rfl, ⟨X0, rfl⟩⟩
    rw [if_pos hf]
    go_upto_region 5 with fail
    refine gen_world (fun W hWg => ?_)
    have HE0 : Hid (Ext (((w.alloc (.cells #[.slice ap0 d.pairs.length kp0, .slice ab0 d.box.length kb0, .slice as0 d.audit.length ks0, (.int .i64 d.used), (.int .i64 d.now)] 24)).alloc (.cells #[(.int .i64 x.lv), (.int .i64 x.st)] 26)).alloc (.cells #[(.int .i64 y.lv), (.int .i64 y.st)] 26)) W) := Lib.hid (by rw [hWg]; exact (by repeat (first | exact Ext.refl _ | apply Ext.plus | apply Ext.alloc | apply Ext.drew)))
    clear hWg X0
    obtain ⟨B0, hB0⟩ : ∃ B0, B0 = W.heap.size := ⟨_, rfl⟩
    have HB0 := Lib.hid hB0
    clear hB0
    obtain ⟨l0, l1, l2, l3, l4, n0, n1, o0, o1, lo, no, oo⟩ := argD HE0.out
    (refine wp_region_y 9 [(fun u _ => u = (.agg #[.slice ap0 d.pairs.length kp0, .slice ab0 d.box.length kb0, .slice as0 d.audit.length ks0, (.int .i64 d.used), (.int .i64 d.now)])), kDesk d, (fun u _ => u = (.agg #[(.int .i64 x.lv), (.int .i64 x.st)])), (fun u _ => u = (.agg #[(.int .i64 x.lv), (.int .i64 x.st)])), (fun u _ => u = (.agg #[(.int .i64 y.lv), (.int .i64 y.st)])), (fun u _ => u = (.agg #[(.int .i64 y.lv), (.int .i64 y.st)])), (fun u _ => u = (.int .i64 q)), kStO B0 RD RC, kBox B0 [.slice none 0 0, .slice none 0 0, .slice none 0 0, (.int .i64 0), (.int .i64 0), (.int .i64 0)] 32] (by kernel_rfl) (by kernel_rfl) (by kernel_rfl) rfl ?_ (by (repeat' (first | exact trivial | exact XReg.GoodK.same _ default | refine And.intro ?_ ?_)); all_goals (first | exact kDesk_good HP.out | exact HG.out _ | exact kBox_goodB _ _ _)))
    (apply YReg.val (.agg #[.slice ap0 d.pairs.length kp0, .slice ab0 d.box.length kb0, .slice as0 d.audit.length ks0, (.int .i64 d.used), (.int .i64 d.now)]); (case h => (intro w' hw' hF'; obtain ⟨X', rfl⟩ := hw'; have HF' := Lib.hid hF'; clear hF'; go_wp2_with (fail); exact ⟨rfl, (by repeat (first | exact Ext.refl _ | apply Ext.plus | apply Ext.alloc | apply Ext.drew))⟩)); (case hv => kernel_rfl))
    refine YReg.kind (fun w' hw' hF' => ?_) (fun v1 w1 hK => ?_)
    · have HP9 := Lib.hid ((HP.out.ext (by exact (((Ext.refl w).alloc _).alloc _).alloc _)).ext (HE0.out.trans hw'))
      obtain ⟨X9, rfl⟩ := hw'
      clear hF'
      go_wp2_with fail
      refine (toDesk_any d _ _ (HP9.out.ext (by repeat (first | exact Ext.refl _ | apply Ext.plus | apply Ext.alloc | apply Ext.drew))) hf).mono ?_
      rintro e _ ⟨c9, j9, s9, fc9, fj9, fs9, rfl, ⟨Y9, rfl⟩, hO9⟩
      have H9 := Lib.hid (hO9.e HI.out.1 HI.out.2.1 HI.out.2.2.1 HI.out.2.2.2.1 HI.out.2.2.2.2)
      obtain ⟨a9, k9, rfl⟩ := hO9.p.shape
      obtain ⟨b9, d9, rfl⟩ := hO9.b.shape
      obtain ⟨g9, h9, rfl⟩ := hO9.a.shape
      clear hO9
      unfold Dk.val at H9 ⊢
      go_wp2
      exact ⟨(by repeat (first | exact Ext.refl _ | apply Ext.plus | apply Ext.alloc | apply Ext.drew)), H9.out⟩
    obtain ⟨a3, k3, b3, d3, s3, e3, rfl, hq1, hq2, hq3, hq4, hq5⟩ := hK
    clear hq1 hq2 hq3 hq4 hq5 w1
    unfold Dk.val
    (apply YReg.val (.agg #[(.int .i64 x.lv), (.int .i64 x.st)]); (case h => (intro w' hw' hF'; obtain ⟨X', rfl⟩ := hw'; have HF' := Lib.hid hF'; clear hF'; go_wp2_with (fail); exact ⟨rfl, (by repeat (first | exact Ext.refl _ | apply Ext.plus | apply Ext.alloc | apply Ext.drew))⟩)); (case hv => kernel_rfl))
    (apply YReg.val (.agg #[(.int .i64 x.lv), (.int .i64 x.st)]); (case h => (intro w' hw' hF'; obtain ⟨X', rfl⟩ := hw'; have HF' := Lib.hid hF'; clear hF'; go_wp2_with ((go_at_call 13; refine (toLabel_any _ _ _).mono ?_; rintro e _ ⟨rfl, X, rfl⟩)); exact ⟨rfl, (by repeat (first | exact Ext.refl _ | apply Ext.plus | apply Ext.alloc | apply Ext.drew))⟩)); (case hv => kernel_rfl))
    (apply YReg.val (.agg #[(.int .i64 y.lv), (.int .i64 y.st)]); (case h => (intro w' hw' hF'; obtain ⟨X', rfl⟩ := hw'; have HF' := Lib.hid hF'; clear hF'; go_wp2_with (fail); exact ⟨rfl, (by repeat (first | exact Ext.refl _ | apply Ext.plus | apply Ext.alloc | apply Ext.drew))⟩)); (case hv => kernel_rfl))
    (apply YReg.val (.agg #[(.int .i64 y.lv), (.int .i64 y.st)]); (case h => (intro w' hw' hF'; obtain ⟨X', rfl⟩ := hw'; have HF' := Lib.hid hF'; clear hF'; go_wp2_with ((go_at_call 13; refine (toLabel_any _ _ _).mono ?_; rintro e _ ⟨rfl, X, rfl⟩)); exact ⟨rfl, (by repeat (first | exact Ext.refl _ | apply Ext.plus | apply Ext.alloc | apply Ext.drew))⟩)); (case hv => kernel_rfl))
    (apply YReg.val (.int .i64 q); (case h => (intro w' hw' hF'; obtain ⟨X', rfl⟩ := hw'; have HF' := Lib.hid hF'; clear hF'; go_wp2_with (fail); exact ⟨rfl, (by repeat (first | exact Ext.refl _ | apply Ext.plus | apply Ext.alloc | apply Ext.drew))⟩)); (case hv => kernel_rfl))
    refine YReg.kind (fun w' hw' hF' => ?_) (fun v1 w1 hK => ?_)
    · have HSW : Hid (B0 ≤ w'.heap.size) := Lib.hid (by rw [HB0.out]; exact hw'.below.size)
      have HK9 := Lib.hid (show eDesk w' (.agg #[.slice a3 d.pairs.length k3, .slice b3 d.box.length d3, .slice s3 d.audit.length e3, (.int .i64 d.used), (.int .i64 d.now)]) d from hF'.get 1 (p := (kDesk d, (.agg #[.slice a3 d.pairs.length k3, .slice b3 d.box.length d3, .slice s3 d.audit.length e3, (.int .i64 d.used), (.int .i64 d.now)]))) (by kernel_rfl) (by kernel_rfl))
      obtain ⟨X9, rfl⟩ := hw'
      clear hF'
      go_wp2_with fail
      refine (specLetDown_any d _ x y q _ (HK9.out.ext (by repeat (first | exact Ext.refl _ | apply Ext.plus | apply Ext.alloc | apply Ext.drew))) hf).mono ?_
      rintro e _ ⟨pv9, bv9, sv9, fp9, fb9, fs9, rfl, ⟨Y9, rfl⟩, hO9⟩
      rw [HEQ.out] at hO9 ⊢
      have H9 := Lib.hid (kStO_in (c := RC) (hO9.mono HSW.out))
      obtain ⟨a9, c9, rfl⟩ := hO9.p.shape
      obtain ⟨b9, d9, rfl⟩ := hO9.b.shape
      obtain ⟨s9, e9, rfl⟩ := hO9.a.shape
      clear hO9
      unfold stV at H9 ⊢
      go_wp2
      exact ⟨(by repeat (first | exact Ext.refl _ | apply Ext.plus | apply Ext.alloc | apply Ext.drew)), H9.out⟩
    obtain ⟨a5, ka5, b5, kb5, s5, ks5, fq1, fq2, fq3, rfl, hq9⟩ := hK
    clear hq9 w1 fq1 fq2 fq3
    unfold stV
    refine YReg.kind (fun w' hw' hF' => ?_) (fun v1 w1 hK => ?_)
    · have HSW : Hid (B0 ≤ w'.heap.size) := Lib.hid (by rw [HB0.out]; exact hw'.below.size)
      have HNB := Lib.hid (heap_alloc_new w' (.cells (List.toArray [.slice none 0 0, .slice none 0 0, .slice none 0 0, (.int .i64 0), (.int .i64 0), (.int .i64 0)]) 32))
      clear hF' hw'
      go_wp2
      exact ⟨(by repeat (first | exact Ext.refl _ | apply Ext.plus | apply Ext.alloc | apply Ext.drew)), _, rfl, HSW.out, HNB.out⟩
    obtain ⟨g4, rfl, hgB, hgh⟩ := hK
    clear hgB hgh w1
    refine YReg.done1 (fun X3 hF => ?_)
    obtain ⟨fw1, fw2, fw3, hO5⟩ := kStO_out (hF 7 (kStO B0 RD RC, .agg #[.slice a5 RD.pairs.length ka5, .slice b5 RD.box.length kb5, .slice s5 RD.audit.length ks5, (.int .i64 RD.used), (.int .i64 RD.now), (.int .i64 RC)]) (by kernel_rfl))
    have hbx := kBox_g (hF 8 (kBox B0 [.slice none 0 0, .slice none 0 0, .slice none 0 0, (.int .i64 0), (.int .i64 0), (.int .i64 0)] 32, .pointer (some ⟨g4, 0, none⟩)) (by kernel_rfl))
    clear hF
    have HO5 := Lib.hid hO5
    have HBH := Lib.hid hbx.2
    have HG4 := Lib.hid hbx.1
    have hbc := CellsAt.of_heap hbx.2
    have hfz := frozen_of_heap hbx.2
    have m0 := hbc 0 _ rfl
    have m1 := hbc 1 _ rfl
    have m2 := hbc 2 _ rfl
    have m3 := hbc 3 _ rfl
    have m4 := hbc 4 _ rfl
    have m5 := hbc 5 _ rfl
    have hog := World.old_of_cell m0
    clear hbx hbc hO5
    go_upto_region 6 with fail
    clear m0 m1 m2 m3 m4 m5 hog hfz
    refine gen_world (fun W5 hW8 => ?_)
    have hLay : W5 = (W.plus X3).layCells g4 0 [.slice a5 RD.pairs.length ka5, .slice b5 RD.box.length kb5, .slice s5 RD.audit.length ks5, (.int .i64 RD.used), (.int .i64 RD.now), (.int .i64 RC)] := hW8
    have hC8 : Chg [g4] (W.plus X3) W5 := by rw [hLay]; exact layCells_chg _ _ _ _
    have HB4 : Hid (CellsAt W5 g4 [.slice a5 RD.pairs.length ka5, .slice b5 RD.box.length kb5, .slice s5 RD.audit.length ks5, (.int .i64 RD.used), (.int .i64 RD.now), (.int .i64 RC)]) := Lib.hid (by rw [hLay]; exact CellsAt.lay HBH.out (by kernel_rfl))
    have hbn : g4 ∉ fw1 ++ fw2 ++ fw3 := apart_of_type HBH.out (by decide) HO5.out.tys
    have HO4 := Lib.hid (HO5.out.far hC8 (fun q hq hq2 => by
      simp at hq2
      subst hq2
      exact hbn hq))
    have HE5 : Hid (Ext W W5) := Lib.hid (hC8.ext ((Ext.refl _).plus X3) (fun q hq => by simp at hq; subst hq; have := HG4.out; rw [HB0.out] at this; exact this))
    have HN4 := Lib.hid hbn
    clear hW8 hLay hC8 hbn HBH HO5
    clear l0 l1 l2 l3 l4 n0 n1 o0 o1 lo no oo
    have hO4 := HO4.out
    obtain ⟨B0', hB0'⟩ : ∃ B0', B0' = B0 := ⟨_, rfl⟩
    rw [← hB0'] at hO4
    have HO4 := Lib.hid hO4
    clear hO4 hB0'
    have HW4 : Hid (∀ q ∈ fw1 ++ fw2 ++ fw3, q < W5.heap.size) := Lib.hid HO4.out.high
    have HG4' : Hid (g4 < W5.heap.size) := Lib.hid (World.block_lt_of_cell? _ _ (HB4.out 0 _ rfl))
    have HE0' := Lib.hid (HE0.out.trans HE5.out)
    obtain ⟨l0, l1, l2, l3, l4, n0, n1, o0, o1, lo, no, oo⟩ := argD HE0'.out
    go_wp2_with fail
    refine (toDesk_any d _ _ ((HP.out.ext (by exact (((Ext.refl w).alloc _).alloc _).alloc _)).ext (HE0'.out.trans (by repeat (first | exact Ext.refl _ | apply Ext.plus | apply Ext.alloc | apply Ext.drew)))) hf).mono ?_
    rintro e _ ⟨px, bx, sx, fx1, fx2, fx3, rfl, ⟨X1, rfl⟩, hO⟩
    obtain ⟨ax1, cx1, rfl⟩ := hO.p.shape
    obtain ⟨ax2, cx2, rfl⟩ := hO.b.shape
    obtain ⟨ax3, cx3, rfl⟩ := hO.a.shape
    unfold Dk.val
    clear l0 l1 l2 l3 l4 n0 n1 o0 o1 lo no oo
    go_upto_region 7 with fail
    refine gen_world (fun W hWg => ?_)
    have h13 := CellsAt.new hO.p [.slice ax1 d.pairs.length cx1, .slice ax2 d.box.length cx2, .slice ax3 d.audit.length cx3, (.int .i64 d.used), (.int .i64 d.now)] 30
    simp only [World.size_plus] at h13
    have HE6 : Hid (Ext W5 W) := Lib.hid (by rw [hWg]; exact (by repeat (first | exact Ext.refl _ | apply Ext.plus | apply Ext.alloc | apply Ext.drew)))
    have hX6 : OwnD W5.heap.size W fx1 fx2 fx3 (.slice ax1 d.pairs.length cx1) (.slice ax2 d.box.length cx2) (.slice ax3 d.audit.length cx3) d := by rw [hWg]; exact hO.ext ((Ext.refl _).alloc _)
    have h13' : CellsAt W (W5.heap.size + X1.n) [.slice ax1 d.pairs.length cx1, .slice ax2 d.box.length cx2, .slice ax3 d.audit.length cx3, (.int .i64 d.used), (.int .i64 d.now)] := by rw [hWg]; exact h13
    have hXH : ∀ q ∈ fx1 ++ fx2 ++ fx3, q < W5.heap.size + X1.n := fun q hq => by have := hO.high q hq; simpa using this
    have hge : W5.heap.size ≤ W5.heap.size + X1.n := Nat.le_add_right _ _
    generalize W5.heap.size + X1.n = g13 at h13' hXH hge ⊢
    have HX6 := Lib.hid hX6
    have HB13 := Lib.hid h13'
    have HXH := Lib.hid hXH
    have HG13 := Lib.hid hge
    clear hWg h13 hX6 h13' hXH hge hO
    have HE0 : Hid (Ext (((w.alloc (.cells #[.slice ap0 d.pairs.length kp0, .slice ab0 d.box.length kb0, .slice as0 d.audit.length ks0, (.int .i64 d.used), (.int .i64 d.now)] 24)).alloc (.cells #[(.int .i64 x.lv), (.int .i64 x.st)] 26)).alloc (.cells #[(.int .i64 y.lv), (.int .i64 y.st)] 26)) W) := Lib.hid (HE0'.out.trans HE6.out)
    have HG13' : Hid (g13 < W.heap.size) := Lib.hid (World.block_lt_of_cell? _ _ (HB13.out 0 _ rfl))
    have HXP := Lib.hid (HX6.out.e HI.out.1 HI.out.2.1 HI.out.2.2.1 HI.out.2.2.2.1 HI.out.2.2.2.2)
    unfold Dk.val at HXP
    obtain ⟨B0, hB0⟩ : ∃ B0, B0 = W.heap.size := ⟨_, rfl⟩
    have HB0 := Lib.hid hB0
    clear hB0
    obtain ⟨l0, l1, l2, l3, l4, n0, n1, o0, o1, lo, no, oo⟩ := argD HE0.out
    have y0 := HB13.out 0 _ rfl
    have y1 := HB13.out 1 _ rfl
    have y2 := HB13.out 2 _ rfl
    have y3 := HB13.out 3 _ rfl
    have y4 := HB13.out 4 _ rfl
    have yo := World.old_of_cell y0
    (refine wp_region_y 8 [(fun u _ => u = (.agg #[.slice ax1 d.pairs.length cx1, .slice ax2 d.box.length cx2, .slice ax3 d.audit.length cx3, (.int .i64 d.used), (.int .i64 d.now)])), (fun u _ => u = (.agg #[(.int .i64 x.lv), (.int .i64 x.st)])), (fun u _ => u = (.agg #[(.int .i64 x.lv), (.int .i64 x.st)])), (fun u _ => u = (.agg #[(.int .i64 y.lv), (.int .i64 y.st)])), (fun u _ => u = (.agg #[(.int .i64 y.lv), (.int .i64 y.st)])), (fun u _ => u = (.int .i64 q)), kStO B0 RD RC, kBox B0 [.slice none 0 0, .slice none 0 0, .slice none 0 0, (.int .i64 0), (.int .i64 0), (.int .i64 0)] 32] (by kernel_rfl) (by kernel_rfl) (by kernel_rfl) rfl ?_ (by (repeat' (first | exact trivial | exact XReg.GoodK.same _ default | refine And.intro ?_ ?_)); all_goals (first | exact HG.out _ | exact kBox_goodB _ _ _)))
    (apply YReg.val (.agg #[.slice ax1 d.pairs.length cx1, .slice ax2 d.box.length cx2, .slice ax3 d.audit.length cx3, (.int .i64 d.used), (.int .i64 d.now)]); (case h => (intro w' hw' hF'; obtain ⟨X', rfl⟩ := hw'; have HF' := Lib.hid hF'; clear hF'; go_wp2_with (fail); exact ⟨rfl, (by repeat (first | exact Ext.refl _ | apply Ext.plus | apply Ext.alloc | apply Ext.drew))⟩)); (case hv => kernel_rfl))
    (apply YReg.val (.agg #[(.int .i64 x.lv), (.int .i64 x.st)]); (case h => (intro w' hw' hF'; obtain ⟨X', rfl⟩ := hw'; have HF' := Lib.hid hF'; clear hF'; go_wp2_with (fail); exact ⟨rfl, (by repeat (first | exact Ext.refl _ | apply Ext.plus | apply Ext.alloc | apply Ext.drew))⟩)); (case hv => kernel_rfl))
    (apply YReg.val (.agg #[(.int .i64 x.lv), (.int .i64 x.st)]); (case h => (intro w' hw' hF'; obtain ⟨X', rfl⟩ := hw'; have HF' := Lib.hid hF'; clear hF'; go_wp2_with ((go_at_call 13; refine (toLabel_any _ _ _).mono ?_; rintro e _ ⟨rfl, X, rfl⟩)); exact ⟨rfl, (by repeat (first | exact Ext.refl _ | apply Ext.plus | apply Ext.alloc | apply Ext.drew))⟩)); (case hv => kernel_rfl))
    (apply YReg.val (.agg #[(.int .i64 y.lv), (.int .i64 y.st)]); (case h => (intro w' hw' hF'; obtain ⟨X', rfl⟩ := hw'; have HF' := Lib.hid hF'; clear hF'; go_wp2_with (fail); exact ⟨rfl, (by repeat (first | exact Ext.refl _ | apply Ext.plus | apply Ext.alloc | apply Ext.drew))⟩)); (case hv => kernel_rfl))
    (apply YReg.val (.agg #[(.int .i64 y.lv), (.int .i64 y.st)]); (case h => (intro w' hw' hF'; obtain ⟨X', rfl⟩ := hw'; have HF' := Lib.hid hF'; clear hF'; go_wp2_with ((go_at_call 13; refine (toLabel_any _ _ _).mono ?_; rintro e _ ⟨rfl, X, rfl⟩)); exact ⟨rfl, (by repeat (first | exact Ext.refl _ | apply Ext.plus | apply Ext.alloc | apply Ext.drew))⟩)); (case hv => kernel_rfl))
    (apply YReg.val (.int .i64 q); (case h => (intro w' hw' hF'; obtain ⟨X', rfl⟩ := hw'; have HF' := Lib.hid hF'; clear hF'; go_wp2_with (fail); exact ⟨rfl, (by repeat (first | exact Ext.refl _ | apply Ext.plus | apply Ext.alloc | apply Ext.drew))⟩)); (case hv => kernel_rfl))
    refine YReg.kind (fun w' hw' hF' => ?_) (fun v1 w1 hK => ?_)
    · have HSW : Hid (B0 ≤ w'.heap.size) := Lib.hid (by rw [HB0.out]; exact hw'.below.size)
      have HK9 := Lib.hid (HXP.out.ext hw')
      obtain ⟨X9, rfl⟩ := hw'
      clear hF'
      go_wp2_with fail
      refine (implLetDown_any d _ x y q _ (HK9.out.ext (by repeat (first | exact Ext.refl _ | apply Ext.plus | apply Ext.alloc | apply Ext.drew))) hf).mono ?_
      rintro e _ ⟨pv9, bv9, sv9, fp9, fb9, fs9, rfl, ⟨Y9, rfl⟩, hO9⟩
      rw [HEQ.out] at hO9 ⊢
      have H9 := Lib.hid (kStO_in (c := RC) (hO9.mono HSW.out))
      obtain ⟨a9, c9, rfl⟩ := hO9.p.shape
      obtain ⟨b9, d9, rfl⟩ := hO9.b.shape
      obtain ⟨s9, e9, rfl⟩ := hO9.a.shape
      clear hO9
      unfold stV at H9 ⊢
      go_wp2
      exact ⟨(by repeat (first | exact Ext.refl _ | apply Ext.plus | apply Ext.alloc | apply Ext.drew)), H9.out⟩
    obtain ⟨a6, ka6, b6, kb6, s6, ks6, fq1, fq2, fq3, rfl, hq9⟩ := hK
    clear hq9 w1 fq1 fq2 fq3
    unfold stV
    refine YReg.kind (fun w' hw' hF' => ?_) (fun v1 w1 hK => ?_)
    · have HSW : Hid (B0 ≤ w'.heap.size) := Lib.hid (by rw [HB0.out]; exact hw'.below.size)
      have HNB := Lib.hid (heap_alloc_new w' (.cells (List.toArray [.slice none 0 0, .slice none 0 0, .slice none 0 0, (.int .i64 0), (.int .i64 0), (.int .i64 0)]) 32))
      clear hF' hw'
      go_wp2
      exact ⟨(by repeat (first | exact Ext.refl _ | apply Ext.plus | apply Ext.alloc | apply Ext.drew)), _, rfl, HSW.out, HNB.out⟩
    obtain ⟨g14, rfl, hgB, hgh⟩ := hK
    clear hgB hgh w1
    refine YReg.done1 (fun X3 hF => ?_)
    obtain ⟨fg1, fg2, fg3, hO5⟩ := kStO_out (hF 6 (kStO B0 RD RC, .agg #[.slice a6 RD.pairs.length ka6, .slice b6 RD.box.length kb6, .slice s6 RD.audit.length ks6, (.int .i64 RD.used), (.int .i64 RD.now), (.int .i64 RC)]) (by kernel_rfl))
    have hbx := kBox_g (hF 7 (kBox B0 [.slice none 0 0, .slice none 0 0, .slice none 0 0, (.int .i64 0), (.int .i64 0), (.int .i64 0)] 32, .pointer (some ⟨g14, 0, none⟩)) (by kernel_rfl))
    clear hF
    have HO5 := Lib.hid hO5
    have HBH := Lib.hid hbx.2
    have HG14 := Lib.hid hbx.1
    have hbc := CellsAt.of_heap hbx.2
    have hfz := frozen_of_heap hbx.2
    have m0 := hbc 0 _ rfl
    have m1 := hbc 1 _ rfl
    have m2 := hbc 2 _ rfl
    have m3 := hbc 3 _ rfl
    have m4 := hbc 4 _ rfl
    have m5 := hbc 5 _ rfl
    have hog := World.old_of_cell m0
    clear hbx hbc hO5
    go_upto_region 8 with fail
    clear m0 m1 m2 m3 m4 m5 hog hfz
    refine gen_world (fun W7 hW8 => ?_)
    have hLay : W7 = (W.plus X3).layCells g14 0 [.slice a6 RD.pairs.length ka6, .slice b6 RD.box.length kb6, .slice s6 RD.audit.length ks6, (.int .i64 RD.used), (.int .i64 RD.now), (.int .i64 RC)] := hW8
    have hC8 : Chg [g14] (W.plus X3) W7 := by rw [hLay]; exact layCells_chg _ _ _ _
    have HB14 : Hid (CellsAt W7 g14 [.slice a6 RD.pairs.length ka6, .slice b6 RD.box.length kb6, .slice s6 RD.audit.length ks6, (.int .i64 RD.used), (.int .i64 RD.now), (.int .i64 RC)]) := Lib.hid (by rw [hLay]; exact CellsAt.lay HBH.out (by kernel_rfl))
    have hbn : g14 ∉ fg1 ++ fg2 ++ fg3 := apart_of_type HBH.out (by decide) HO5.out.tys
    have HO14 := Lib.hid (HO5.out.far hC8 (fun q hq hq2 => by
      simp at hq2
      subst hq2
      exact hbn hq))
    have HE7 : Hid (Ext W W7) := Lib.hid (hC8.ext ((Ext.refl _).plus X3) (fun q hq => by simp at hq; subst hq; have := HG14.out; rw [HB0.out] at this; exact this))
    have HN14 := Lib.hid hbn
    clear hW8 hLay hC8 hbn HBH HO5
    clear l0 l1 l2 l3 l4 n0 n1 o0 o1 lo no oo y0 y1 y2 y3 y4 yo
    have HE70 : Hid (Ext (((w.alloc (.cells #[.slice ap0 d.pairs.length kp0, .slice ab0 d.box.length kb0, .slice as0 d.audit.length ks0, (.int .i64 d.used), (.int .i64 d.now)] 24)).alloc (.cells #[(.int .i64 x.lv), (.int .i64 x.st)] 26)).alloc (.cells #[(.int .i64 y.lv), (.int .i64 y.st)] 26)) W7) := Lib.hid (HE0.out.trans HE7.out)
    have HE57 : Hid (Ext W5 W7) := Lib.hid (HE6.out.trans HE7.out)
    have HG14u : Hid (g14 < W7.heap.size) := Lib.hid (World.block_lt_of_cell? _ _ (HB14.out 0 _ rfl))
    have HXlt : Hid (∀ q ∈ fx1 ++ fx2 ++ fx3, q < B0) := Lib.hid (fun q hq => by have h1 := HXH.out q hq; have h2 := HG13'.out; rw [HB0.out]; omega)
    have HX7 : Hid (OwnD W5.heap.size W7 fx1 fx2 fx3 (.slice ax1 d.pairs.length cx1) (.slice ax2 d.box.length cx2) (.slice ax3 d.audit.length cx3) d) := Lib.hid (HX6.out.ext HE7.out)
    have HW7 : Hid (OwnD B0' W7 fw1 fw2 fw3 (.slice a5 RD.pairs.length ka5) (.slice b5 RD.box.length kb5) (.slice s5 RD.audit.length ks5) RD) := Lib.hid (HO4.out.ext HE57.out)
    have HB47 := Lib.hid (HB4.out.ext HE57.out)
    have HB137 := Lib.hid (HB13.out.ext HE7.out)
    have h5sz : Hid (W5.heap.size ≤ B0) := Lib.hid (by rw [HB0.out]; exact HE6.out.below.size)
    have c0 := HB47.out 0 _ rfl
    have c1 := HB47.out 1 _ rfl
    have c2 := HB47.out 2 _ rfl
    have c3 := HB47.out 3 _ rfl
    have c4 := HB47.out 4 _ rfl
    have c5 := HB47.out 5 _ rfl
    have co := World.old_of_cell c0
    have e0 := HB14.out 0 _ rfl
    have e1 := HB14.out 1 _ rfl
    have e2 := HB14.out 2 _ rfl
    have e3 := HB14.out 3 _ rfl
    have e4 := HB14.out 4 _ rfl
    have e5 := HB14.out 5 _ rfl
    have eo := World.old_of_cell e0
    go_wp2_with fail
    refine (eqDeskStep_self RD RC _ _ _ _ _ _ _ ((HO14.out.ext (by repeat (first | exact Ext.refl _ | apply Ext.plus | apply Ext.alloc | apply Ext.drew))).e HRI.out.1 HRI.out.2.1 HRI.out.2.2.1 HRI.out.2.2.2.1 HRI.out.2.2.2.2.1) ((HW7.out.ext (by repeat (first | exact Ext.refl _ | apply Ext.plus | apply Ext.alloc | apply Ext.drew))).e HRI.out.1 HRI.out.2.1 HRI.out.2.2.1 HRI.out.2.2.2.1 HRI.out.2.2.2.2.1)).mono ?_
    rintro e _ ⟨rfl, ⟨X8, rfl⟩⟩
    clear c0 c1 c2 c3 c4 c5 co e0 e1 e2 e3 e4 e5 eo
    go_upto_region 10 with fail
    refine gen_world (fun W10 hWg => ?_)
    have HE10 : Hid (Ext W7 W10) := Lib.hid (by rw [hWg]; exact (by repeat (first | exact Ext.refl _ | apply Ext.plus | apply Ext.alloc | apply Ext.drew)))
    clear hWg X8
    have HE100 : Hid (Ext (((w.alloc (.cells #[.slice ap0 d.pairs.length kp0, .slice ab0 d.box.length kb0, .slice as0 d.audit.length ks0, (.int .i64 d.used), (.int .i64 d.now)] 24)).alloc (.cells #[(.int .i64 x.lv), (.int .i64 x.st)] 26)).alloc (.cells #[(.int .i64 y.lv), (.int .i64 y.st)] 26)) W10) := Lib.hid (HE70.out.trans HE10.out)
    have HB1310 := Lib.hid (HB137.out.ext HE10.out)
    have HX10 := Lib.hid (HX7.out.ext HE10.out)
    have HXP10 := Lib.hid (HX10.out.e HI.out.1 HI.out.2.1 HI.out.2.2.1 HI.out.2.2.2.1 HI.out.2.2.2.2)
    unfold Dk.val at HXP10
    obtain ⟨l0, l1, l2, l3, l4, n0, n1, o0, o1, lo, no, oo⟩ := argD HE100.out
    have y0 := HB1310.out 0 _ rfl
    have y1 := HB1310.out 1 _ rfl
    have y2 := HB1310.out 2 _ rfl
    have y3 := HB1310.out 3 _ rfl
    have y4 := HB1310.out 4 _ rfl
    have yo := World.old_of_cell y0
    (refine wp_region_y 5 [(fun u _ => u = (.agg #[.slice ax1 d.pairs.length cx1, .slice ax2 d.box.length cx2, .slice ax3 d.audit.length cx3, (.int .i64 d.used), (.int .i64 d.now)])), (fun u _ => u = (.agg #[.slice ap0 d.pairs.length kp0, .slice ab0 d.box.length kb0, .slice as0 d.audit.length ks0, (.int .i64 d.used), (.int .i64 d.now)])), kDesk d, (fun u _ => u = (.bool true)), (fun u _ => u = (.bool false))] (by kernel_rfl) (by kernel_rfl) (by kernel_rfl) rfl ?_ (by (repeat' (first | exact trivial | exact XReg.GoodK.same _ default | refine And.intro ?_ ?_)); all_goals exact kDesk_good HP.out))
    (apply YReg.val (.agg #[.slice ax1 d.pairs.length cx1, .slice ax2 d.box.length cx2, .slice ax3 d.audit.length cx3, (.int .i64 d.used), (.int .i64 d.now)]); (case h => (intro w' hw' hF'; obtain ⟨X', rfl⟩ := hw'; have HF' := Lib.hid hF'; clear hF'; go_wp2_with (fail); exact ⟨rfl, (by repeat (first | exact Ext.refl _ | apply Ext.plus | apply Ext.alloc | apply Ext.drew))⟩)); (case hv => kernel_rfl))
    (apply YReg.val (.agg #[.slice ap0 d.pairs.length kp0, .slice ab0 d.box.length kb0, .slice as0 d.audit.length ks0, (.int .i64 d.used), (.int .i64 d.now)]); (case h => (intro w' hw' hF'; obtain ⟨X', rfl⟩ := hw'; have HF' := Lib.hid hF'; clear hF'; go_wp2_with (fail); exact ⟨rfl, (by repeat (first | exact Ext.refl _ | apply Ext.plus | apply Ext.alloc | apply Ext.drew))⟩)); (case hv => kernel_rfl))
    refine YReg.kind (fun w' hw' hF' => ?_) (fun v1 w1 hK => ?_)
    · have HP9 := Lib.hid ((HP.out.ext (by exact (((Ext.refl w).alloc _).alloc _).alloc _)).ext (HE100.out.trans hw'))
      obtain ⟨X9, rfl⟩ := hw'
      clear hF'
      go_wp2_with fail
      refine (toDesk_any d _ _ (HP9.out.ext (by repeat (first | exact Ext.refl _ | apply Ext.plus | apply Ext.alloc | apply Ext.drew))) hf).mono ?_
      rintro e _ ⟨c9, j9, s9, fc9, fj9, fs9, rfl, ⟨Y9, rfl⟩, hO9⟩
      have H9 := Lib.hid (hO9.e HI.out.1 HI.out.2.1 HI.out.2.2.1 HI.out.2.2.2.1 HI.out.2.2.2.2)
      obtain ⟨a9, k9, rfl⟩ := hO9.p.shape
      obtain ⟨b9, d9, rfl⟩ := hO9.b.shape
      obtain ⟨g9, h9, rfl⟩ := hO9.a.shape
      clear hO9
      unfold Dk.val at H9 ⊢
      go_wp2
      exact ⟨(by repeat (first | exact Ext.refl _ | apply Ext.plus | apply Ext.alloc | apply Ext.drew)), H9.out⟩
    obtain ⟨a7, k7, b7, d7, s7, e7, rfl, hq1, hq2, hq3, hq4, hq5⟩ := hK
    clear hq1 hq2 hq3 hq4 hq5 w1
    unfold Dk.val
    (apply YReg.val (.bool true); (case h => (intro w' hw' hF'; obtain ⟨X', rfl⟩ := hw'; have HF' := Lib.hid hF'; clear hF'; go_wp2_with ((go_at_call 16; refine (eqDesk_self d _ _ _ (HXP10.out.ext (by repeat (first | exact Ext.refl _ | apply Ext.plus | apply Ext.alloc | apply Ext.drew))) (HF'.out.get 2 (p := (kDesk d, (Value.agg #[.slice a7 d.pairs.length k7, .slice b7 d.box.length d7, .slice s7 d.audit.length e7, (.int .i64 d.used), (.int .i64 d.now)]))) (by kernel_rfl) (by kernel_rfl))).mono ?_; rintro e _ ⟨rfl, Y3, rfl⟩)); exact ⟨rfl, (by repeat (first | exact Ext.refl _ | apply Ext.plus | apply Ext.alloc | apply Ext.drew))⟩)); (case hv => kernel_rfl))
    (apply YReg.val (.bool false); (case h => (intro w' hw' hF'; obtain ⟨X', rfl⟩ := hw'; have HF' := Lib.hid hF'; clear hF'; go_wp2_with (fail); exact ⟨rfl, (by repeat (first | exact Ext.refl _ | apply Ext.plus | apply Ext.alloc | apply Ext.drew))⟩)); (case hv => kernel_rfl))
    refine YReg.doneN (fun X4 _ => ?_)
    go_wp2_with fail
    refine (markDesk_any d _ _ _ 1 _ fx1 fx2 fx3 _ (HX10.out.ext (by repeat (first | exact Ext.refl _ | apply Ext.plus | apply Ext.alloc | apply Ext.drew))) (by omega)).mono ?_
    rintro e wm ⟨rfl, hx, hmk⟩
    have HEm : Hid (Ext (((w.alloc (.cells #[.slice ap0 d.pairs.length kp0, .slice ab0 d.box.length kb0, .slice as0 d.audit.length ks0, (.int .i64 d.used), (.int .i64 d.now)] 24)).alloc (.cells #[(.int .i64 x.lv), (.int .i64 x.st)] 26)).alloc (.cells #[(.int .i64 y.lv), (.int .i64 y.st)] 26)) wm) := Lib.hid (hx.ext (HE100.out.trans (by repeat (first | exact Ext.refl _ | apply Ext.plus | apply Ext.alloc | apply Ext.drew))) (fun q hq => by have h1 := HX6.out.low q hq; have h2 := HE5.out.below.size; have h3 := HE0'.out.below.size; simp at h3 ⊢; omega))
    have hGm : OwnD B0 wm fg1 fg2 fg3 (.slice a6 RD.pairs.length ka6) (.slice b6 RD.box.length kb6) (.slice s6 RD.audit.length ks6) RD := (HO14.out.ext (HE10.out.trans (by repeat (first | exact Ext.refl _ | apply Ext.plus | apply Ext.alloc | apply Ext.drew)))).far hx (fun q hq hq2 => by have h1 := HO14.out.low q hq; have h2 := HXlt.out q hq2; omega)
    have hWm : OwnD B0' wm fw1 fw2 fw3 (.slice a5 RD.pairs.length ka5) (.slice b5 RD.box.length kb5) (.slice s5 RD.audit.length ks5) RD := (HW7.out.ext (HE10.out.trans (by repeat (first | exact Ext.refl _ | apply Ext.plus | apply Ext.alloc | apply Ext.drew)))).far hx (fun q hq hq2 => by have h1 := HW4.out q hq; have h2 := HX6.out.low q hq2; omega)
    have HGm := Lib.hid hGm
    have HWm := Lib.hid hWm
    have HB4m := Lib.hid ((HB47.out.ext (HE10.out.trans (by repeat (first | exact Ext.refl _ | apply Ext.plus | apply Ext.alloc | apply Ext.drew)))).chg hx (fun hq => by have h1 := HX6.out.low _ hq; have h2 := HG4'.out; omega))
    have HB14m := Lib.hid ((HB14.out.ext (HE10.out.trans (by repeat (first | exact Ext.refl _ | apply Ext.plus | apply Ext.alloc | apply Ext.drew)))).chg hx (fun hq => by have h1 := HXlt.out _ hq; have h2 := HG14.out; omega))
    clear hx hmk hGm hWm l0 l1 l2 l3 l4 n0 n1 o0 o1 lo no oo y0 y1 y2 y3 y4 yo
    have c0 := HB4m.out 0 _ rfl
    have c1 := HB4m.out 1 _ rfl
    have c2 := HB4m.out 2 _ rfl
    have c3 := HB4m.out 3 _ rfl
    have c4 := HB4m.out 4 _ rfl
    have c5 := HB4m.out 5 _ rfl
    have co := World.old_of_cell c0
    have e0 := HB14m.out 0 _ rfl
    have e1 := HB14m.out 1 _ rfl
    have e2 := HB14m.out 2 _ rfl
    have e3 := HB14m.out 3 _ rfl
    have e4 := HB14m.out 4 _ rfl
    have e5 := HB14m.out 5 _ rfl
    have eo := World.old_of_cell e0
    go_wp2_with fail
    refine (eqDeskStep_self RD RC _ _ _ _ _ _ _ ((HGm.out.ext (by repeat (first | exact Ext.refl _ | apply Ext.plus | apply Ext.alloc | apply Ext.drew))).e HRI.out.1 HRI.out.2.1 HRI.out.2.2.1 HRI.out.2.2.2.1 HRI.out.2.2.2.2.1) ((HWm.out.ext (by repeat (first | exact Ext.refl _ | apply Ext.plus | apply Ext.alloc | apply Ext.drew))).e HRI.out.1 HRI.out.2.1 HRI.out.2.2.1 HRI.out.2.2.2.1 HRI.out.2.2.2.2.1)).mono ?_
    rintro e _ ⟨rfl, ⟨X5, rfl⟩⟩
    go_wp2_with fail
    refine (markDeskStep_any RD RC _ _ _ 1 _ fg1 fg2 fg3 _ (HGm.out.ext (by repeat (first | exact Ext.refl _ | apply Ext.plus | apply Ext.alloc | apply Ext.drew))) (by omega)).mono ?_
    rintro e wm2 ⟨rfl, hx, hmk⟩
    have HEn : Hid (Ext (((w.alloc (.cells #[.slice ap0 d.pairs.length kp0, .slice ab0 d.box.length kb0, .slice as0 d.audit.length ks0, (.int .i64 d.used), (.int .i64 d.now)] 24)).alloc (.cells #[(.int .i64 x.lv), (.int .i64 x.st)] 26)).alloc (.cells #[(.int .i64 y.lv), (.int .i64 y.st)] 26)) wm2) := Lib.hid (hx.ext (HEm.out.trans (by repeat (first | exact Ext.refl _ | apply Ext.plus | apply Ext.alloc | apply Ext.drew))) (fun q hq => by have h1 := HO14.out.low q hq; have h2 := HE0.out.below.size; rw [HB0.out] at h1; simp at h2 ⊢; omega))
    have hWn : OwnD B0' wm2 fw1 fw2 fw3 (.slice a5 RD.pairs.length ka5) (.slice b5 RD.box.length kb5) (.slice s5 RD.audit.length ks5) RD := (HWm.out.ext (by repeat (first | exact Ext.refl _ | apply Ext.plus | apply Ext.alloc | apply Ext.drew))).far hx (fun q hq hq2 => by have h1 := HW4.out q hq; have h2 := HO14.out.low q hq2; have h3 := h5sz.out; omega)
    have HWn := Lib.hid hWn
    have HB4n := Lib.hid ((HB4m.out.ext (by repeat (first | exact Ext.refl _ | apply Ext.plus | apply Ext.alloc | apply Ext.drew))).chg hx (fun hq => by have h1 := HO14.out.low _ hq; have h2 := HG4'.out; have h3 := h5sz.out; omega))
    have HB14n := Lib.hid ((HB14m.out.ext (by repeat (first | exact Ext.refl _ | apply Ext.plus | apply Ext.alloc | apply Ext.drew))).chg hx HN14.out)
    have HM := Lib.hid hmk.reads
    clear hx hmk hWn HGm HWm
    clear c0 c1 c2 c3 c4 c5 co e0 e1 e2 e3 e4 e5 eo
    have c0 := HB4n.out 0 _ rfl
    have c1 := HB4n.out 1 _ rfl
    have c2 := HB4n.out 2 _ rfl
    have c3 := HB4n.out 3 _ rfl
    have c4 := HB4n.out 4 _ rfl
    have c5 := HB4n.out 5 _ rfl
    have co := World.old_of_cell c0
    have e0 := HB14n.out 0 _ rfl
    have e1 := HB14n.out 1 _ rfl
    have e2 := HB14n.out 2 _ rfl
    have e3 := HB14n.out 3 _ rfl
    have e4 := HB14n.out 4 _ rfl
    have e5 := HB14n.out 5 _ rfl
    have eo := World.old_of_cell e0
    go_wp2_with fail
    refine (heldDeskStep_any RD RC _ _ _ 1 _ (HM.out.1.ext (rc_stable _) (by repeat (first | exact Ext.refl _ | apply Ext.plus | apply Ext.alloc | apply Ext.drew))) (HM.out.2.1.ext (rc_stable _) (by repeat (first | exact Ext.refl _ | apply Ext.plus | apply Ext.alloc | apply Ext.drew))) (HM.out.2.2.ext (rc_stable _) (by repeat (first | exact Ext.refl _ | apply Ext.plus | apply Ext.alloc | apply Ext.drew))) (by omega)).mono ?_
    rintro e _ ⟨rfl, ⟨X6, rfl⟩⟩
    clear c0 c1 c2 c3 c4 c5 co e0 e1 e2 e3 e4 e5 eo
    go_upto_region 24 with fail
    refine gen_world (fun W hWg => ?_)
    have HE24 : Hid (Ext wm2 W) := Lib.hid (by rw [hWg]; exact (by repeat (first | exact Ext.refl _ | apply Ext.plus | apply Ext.alloc | apply Ext.drew)))
    clear hWg X6
    have HE0 : Hid (Ext (((w.alloc (.cells #[.slice ap0 d.pairs.length kp0, .slice ab0 d.box.length kb0, .slice as0 d.audit.length ks0, (.int .i64 d.used), (.int .i64 d.now)] 24)).alloc (.cells #[(.int .i64 x.lv), (.int .i64 x.st)] 26)).alloc (.cells #[(.int .i64 y.lv), (.int .i64 y.st)] 26)) W) := Lib.hid (HEn.out.trans HE24.out)
    obtain ⟨B0, hB0⟩ : ∃ B0, B0 = W.heap.size := ⟨_, rfl⟩
    have HB0 := Lib.hid hB0
    clear hB0
    obtain ⟨l0, l1, l2, l3, l4, n0, n1, o0, o1, lo, no, oo⟩ := argD HE0.out
    (refine wp_region_y 9 [(fun u _ => u = (.agg #[.slice ap0 d.pairs.length kp0, .slice ab0 d.box.length kb0, .slice as0 d.audit.length ks0, (.int .i64 d.used), (.int .i64 d.now)])), kDesk d, (fun u _ => u = (.agg #[(.int .i64 x.lv), (.int .i64 x.st)])), (fun u _ => u = (.agg #[(.int .i64 x.lv), (.int .i64 x.st)])), (fun u _ => u = (.agg #[(.int .i64 y.lv), (.int .i64 y.st)])), (fun u _ => u = (.agg #[(.int .i64 y.lv), (.int .i64 y.st)])), (fun u _ => u = (.int .i64 q)), kStO B0 RD RC, kBox B0 [.slice none 0 0, .slice none 0 0, .slice none 0 0, (.int .i64 0), (.int .i64 0), (.int .i64 0)] 32] (by kernel_rfl) (by kernel_rfl) (by kernel_rfl) rfl ?_ (by (repeat' (first | exact trivial | exact XReg.GoodK.same _ default | refine And.intro ?_ ?_)); all_goals (first | exact kDesk_good HP.out | exact HG.out _ | exact kBox_goodB _ _ _)))
    (apply YReg.val (.agg #[.slice ap0 d.pairs.length kp0, .slice ab0 d.box.length kb0, .slice as0 d.audit.length ks0, (.int .i64 d.used), (.int .i64 d.now)]); (case h => (intro w' hw' hF'; obtain ⟨X', rfl⟩ := hw'; have HF' := Lib.hid hF'; clear hF'; go_wp2_with (fail); exact ⟨rfl, (by repeat (first | exact Ext.refl _ | apply Ext.plus | apply Ext.alloc | apply Ext.drew))⟩)); (case hv => kernel_rfl))
    refine YReg.kind (fun w' hw' hF' => ?_) (fun v1 w1 hK => ?_)
    · have HP9 := Lib.hid ((HP.out.ext (by exact (((Ext.refl w).alloc _).alloc _).alloc _)).ext (HE0.out.trans hw'))
      obtain ⟨X9, rfl⟩ := hw'
      clear hF'
      go_wp2_with fail
      refine (toDesk_any d _ _ (HP9.out.ext (by repeat (first | exact Ext.refl _ | apply Ext.plus | apply Ext.alloc | apply Ext.drew))) hf).mono ?_
      rintro e _ ⟨c9, j9, s9, fc9, fj9, fs9, rfl, ⟨Y9, rfl⟩, hO9⟩
      have H9 := Lib.hid (hO9.e HI.out.1 HI.out.2.1 HI.out.2.2.1 HI.out.2.2.2.1 HI.out.2.2.2.2)
      obtain ⟨a9, k9, rfl⟩ := hO9.p.shape
      obtain ⟨b9, d9, rfl⟩ := hO9.b.shape
      obtain ⟨g9, h9, rfl⟩ := hO9.a.shape
      clear hO9
      unfold Dk.val at H9 ⊢
      go_wp2
      exact ⟨(by repeat (first | exact Ext.refl _ | apply Ext.plus | apply Ext.alloc | apply Ext.drew)), H9.out⟩
    obtain ⟨a3, k3, b3, d3, s3, e3, rfl, hq1, hq2, hq3, hq4, hq5⟩ := hK
    clear hq1 hq2 hq3 hq4 hq5 w1
    unfold Dk.val
    (apply YReg.val (.agg #[(.int .i64 x.lv), (.int .i64 x.st)]); (case h => (intro w' hw' hF'; obtain ⟨X', rfl⟩ := hw'; have HF' := Lib.hid hF'; clear hF'; go_wp2_with (fail); exact ⟨rfl, (by repeat (first | exact Ext.refl _ | apply Ext.plus | apply Ext.alloc | apply Ext.drew))⟩)); (case hv => kernel_rfl))
    (apply YReg.val (.agg #[(.int .i64 x.lv), (.int .i64 x.st)]); (case h => (intro w' hw' hF'; obtain ⟨X', rfl⟩ := hw'; have HF' := Lib.hid hF'; clear hF'; go_wp2_with ((go_at_call 13; refine (toLabel_any _ _ _).mono ?_; rintro e _ ⟨rfl, X, rfl⟩)); exact ⟨rfl, (by repeat (first | exact Ext.refl _ | apply Ext.plus | apply Ext.alloc | apply Ext.drew))⟩)); (case hv => kernel_rfl))
    (apply YReg.val (.agg #[(.int .i64 y.lv), (.int .i64 y.st)]); (case h => (intro w' hw' hF'; obtain ⟨X', rfl⟩ := hw'; have HF' := Lib.hid hF'; clear hF'; go_wp2_with (fail); exact ⟨rfl, (by repeat (first | exact Ext.refl _ | apply Ext.plus | apply Ext.alloc | apply Ext.drew))⟩)); (case hv => kernel_rfl))
    (apply YReg.val (.agg #[(.int .i64 y.lv), (.int .i64 y.st)]); (case h => (intro w' hw' hF'; obtain ⟨X', rfl⟩ := hw'; have HF' := Lib.hid hF'; clear hF'; go_wp2_with ((go_at_call 13; refine (toLabel_any _ _ _).mono ?_; rintro e _ ⟨rfl, X, rfl⟩)); exact ⟨rfl, (by repeat (first | exact Ext.refl _ | apply Ext.plus | apply Ext.alloc | apply Ext.drew))⟩)); (case hv => kernel_rfl))
    (apply YReg.val (.int .i64 q); (case h => (intro w' hw' hF'; obtain ⟨X', rfl⟩ := hw'; have HF' := Lib.hid hF'; clear hF'; go_wp2_with (fail); exact ⟨rfl, (by repeat (first | exact Ext.refl _ | apply Ext.plus | apply Ext.alloc | apply Ext.drew))⟩)); (case hv => kernel_rfl))
    refine YReg.kind (fun w' hw' hF' => ?_) (fun v1 w1 hK => ?_)
    · have HSW : Hid (B0 ≤ w'.heap.size) := Lib.hid (by rw [HB0.out]; exact hw'.below.size)
      have HK9 := Lib.hid (show eDesk w' (.agg #[.slice a3 d.pairs.length k3, .slice b3 d.box.length d3, .slice s3 d.audit.length e3, (.int .i64 d.used), (.int .i64 d.now)]) d from hF'.get 1 (p := (kDesk d, (.agg #[.slice a3 d.pairs.length k3, .slice b3 d.box.length d3, .slice s3 d.audit.length e3, (.int .i64 d.used), (.int .i64 d.now)]))) (by kernel_rfl) (by kernel_rfl))
      obtain ⟨X9, rfl⟩ := hw'
      clear hF'
      go_wp2_with fail
      refine (implLetDown_any d _ x y q _ (HK9.out.ext (by repeat (first | exact Ext.refl _ | apply Ext.plus | apply Ext.alloc | apply Ext.drew))) hf).mono ?_
      rintro e _ ⟨pv9, bv9, sv9, fp9, fb9, fs9, rfl, ⟨Y9, rfl⟩, hO9⟩
      rw [HEQ.out] at hO9 ⊢
      have H9 := Lib.hid (kStO_in (c := RC) (hO9.mono HSW.out))
      obtain ⟨a9, c9, rfl⟩ := hO9.p.shape
      obtain ⟨b9, d9, rfl⟩ := hO9.b.shape
      obtain ⟨s9, e9, rfl⟩ := hO9.a.shape
      clear hO9
      unfold stV at H9 ⊢
      go_wp2
      exact ⟨(by repeat (first | exact Ext.refl _ | apply Ext.plus | apply Ext.alloc | apply Ext.drew)), H9.out⟩
    obtain ⟨a8, ka8, b8, kb8, s8, ks8, fq1, fq2, fq3, rfl, hq9⟩ := hK
    clear hq9 w1 fq1 fq2 fq3
    unfold stV
    refine YReg.kind (fun w' hw' hF' => ?_) (fun v1 w1 hK => ?_)
    · have HSW : Hid (B0 ≤ w'.heap.size) := Lib.hid (by rw [HB0.out]; exact hw'.below.size)
      have HNB := Lib.hid (heap_alloc_new w' (.cells (List.toArray [.slice none 0 0, .slice none 0 0, .slice none 0 0, (.int .i64 0), (.int .i64 0), (.int .i64 0)]) 32))
      clear hF' hw'
      go_wp2
      exact ⟨(by repeat (first | exact Ext.refl _ | apply Ext.plus | apply Ext.alloc | apply Ext.drew)), _, rfl, HSW.out, HNB.out⟩
    obtain ⟨g18, rfl, hgB, hgh⟩ := hK
    clear hgB hgh w1
    refine YReg.done1 (fun X3 hF => ?_)
    obtain ⟨fh1, fh2, fh3, hO5⟩ := kStO_out (hF 7 (kStO B0 RD RC, .agg #[.slice a8 RD.pairs.length ka8, .slice b8 RD.box.length kb8, .slice s8 RD.audit.length ks8, (.int .i64 RD.used), (.int .i64 RD.now), (.int .i64 RC)]) (by kernel_rfl))
    have hbx := kBox_g (hF 8 (kBox B0 [.slice none 0 0, .slice none 0 0, .slice none 0 0, (.int .i64 0), (.int .i64 0), (.int .i64 0)] 32, .pointer (some ⟨g18, 0, none⟩)) (by kernel_rfl))
    clear hF
    have HO5 := Lib.hid hO5
    have HBH := Lib.hid hbx.2
    have HG18 := Lib.hid hbx.1
    have hbc := CellsAt.of_heap hbx.2
    have hfz := frozen_of_heap hbx.2
    have m0 := hbc 0 _ rfl
    have m1 := hbc 1 _ rfl
    have m2 := hbc 2 _ rfl
    have m3 := hbc 3 _ rfl
    have m4 := hbc 4 _ rfl
    have m5 := hbc 5 _ rfl
    have hog := World.old_of_cell m0
    clear hbx hbc hO5
    go_upto_region 25 with fail
    clear m0 m1 m2 m3 m4 m5 hog hfz
    refine gen_world (fun W25 hW8 => ?_)
    have hLay : W25 = (W.plus X3).layCells g18 0 [.slice a8 RD.pairs.length ka8, .slice b8 RD.box.length kb8, .slice s8 RD.audit.length ks8, (.int .i64 RD.used), (.int .i64 RD.now), (.int .i64 RC)] := hW8
    have hC8 : Chg [g18] (W.plus X3) W25 := by rw [hLay]; exact layCells_chg _ _ _ _
    have HB18 : Hid (CellsAt W25 g18 [.slice a8 RD.pairs.length ka8, .slice b8 RD.box.length kb8, .slice s8 RD.audit.length ks8, (.int .i64 RD.used), (.int .i64 RD.now), (.int .i64 RC)]) := Lib.hid (by rw [hLay]; exact CellsAt.lay HBH.out (by kernel_rfl))
    have hbn : g18 ∉ fh1 ++ fh2 ++ fh3 := apart_of_type HBH.out (by decide) HO5.out.tys
    have HO18 := Lib.hid (HO5.out.far hC8 (fun q hq hq2 => by
      simp at hq2
      subst hq2
      exact hbn hq))
    have HE25 : Hid (Ext W W25) := Lib.hid (hC8.ext ((Ext.refl _).plus X3) (fun q hq => by simp at hq; subst hq; have := HG18.out; rw [HB0.out] at this; exact this))
    have HN18 := Lib.hid hbn
    clear hW8 hLay hC8 hbn HBH HO5
    clear l0 l1 l2 l3 l4 n0 n1 o0 o1 lo no oo
    have HE2 : Hid (Ext wm2 W25) := Lib.hid (HE24.out.trans HE25.out)
    have HB425 := Lib.hid (HB4n.out.ext HE2.out)
    have HB1425 := Lib.hid (HB14n.out.ext HE2.out)
    have HW25 := Lib.hid (HWn.out.ext HE2.out)
    have c0 := HB425.out 0 _ rfl
    have c1 := HB425.out 1 _ rfl
    have c2 := HB425.out 2 _ rfl
    have c3 := HB425.out 3 _ rfl
    have c4 := HB425.out 4 _ rfl
    have c5 := HB425.out 5 _ rfl
    have co := World.old_of_cell c0
    have e0 := HB18.out 0 _ rfl
    have e1 := HB18.out 1 _ rfl
    have e2 := HB18.out 2 _ rfl
    have e3 := HB18.out 3 _ rfl
    have e4 := HB18.out 4 _ rfl
    have e5 := HB18.out 5 _ rfl
    have eo := World.old_of_cell e0
    go_wp2_with fail
    refine (eqDeskStep_self RD RC _ _ _ _ _ _ _ ((HO18.out.ext (by repeat (first | exact Ext.refl _ | apply Ext.plus | apply Ext.alloc | apply Ext.drew))).e HRI.out.1 HRI.out.2.1 HRI.out.2.2.1 HRI.out.2.2.2.1 HRI.out.2.2.2.2.1) ((HW25.out.ext (by repeat (first | exact Ext.refl _ | apply Ext.plus | apply Ext.alloc | apply Ext.drew))).e HRI.out.1 HRI.out.2.1 HRI.out.2.2.1 HRI.out.2.2.2.1 HRI.out.2.2.2.2.1)).mono ?_
    rintro e _ ⟨rfl, ⟨X9, rfl⟩⟩
    clear c0 c1 c2 c3 c4 c5 co e0 e1 e2 e3 e4 e5 eo
    have c0 := HB425.out 0 _ rfl
    have c1 := HB425.out 1 _ rfl
    have c2 := HB425.out 2 _ rfl
    have c3 := HB425.out 3 _ rfl
    have c4 := HB425.out 4 _ rfl
    have c5 := HB425.out 5 _ rfl
    have co := World.old_of_cell c0
    have e0 := HB1425.out 0 _ rfl
    have e1 := HB1425.out 1 _ rfl
    have e2 := HB1425.out 2 _ rfl
    have e3 := HB1425.out 3 _ rfl
    have e4 := HB1425.out 4 _ rfl
    have e5 := HB1425.out 5 _ rfl
    have eo := World.old_of_cell e0
    go_wp2_with fail
    refine (heldDeskStep_any RD RC _ _ _ 1 _ (HM.out.1.ext (rc_stable _) (HE2.out.trans (by repeat (first | exact Ext.refl _ | apply Ext.plus | apply Ext.alloc | apply Ext.drew)))) (HM.out.2.1.ext (rc_stable _) (HE2.out.trans (by repeat (first | exact Ext.refl _ | apply Ext.plus | apply Ext.alloc | apply Ext.drew)))) (HM.out.2.2.ext (rc_stable _) (HE2.out.trans (by repeat (first | exact Ext.refl _ | apply Ext.plus | apply Ext.alloc | apply Ext.drew)))) (by omega)).mono ?_
    rintro e _ ⟨rfl, ⟨Z9, rfl⟩⟩
    go_wp2
    go_ret
    exact ⟨rfl, ((((Ext.refl w).alloc _).alloc _).alloc _).trans ((HE0.out.trans HE25.out).trans (by repeat (first | exact Ext.refl _ | apply Ext.plus | apply Ext.alloc | apply Ext.drew)))⟩
  · go_enter Try.func3, Try.ntmps3
    go_wp2_with fail
    refine (szDesk_any d _ 1048576 _ (HP.out.ext (by repeat (first | exact Ext.refl _ | apply Ext.plus | apply Ext.alloc | apply Ext.drew))) (Nat.le_refl _)).mono ?_
    rintro e _ ⟨rfl, ⟨X0, rfl⟩⟩
    rw [if_neg hf]
    go_wp2
    go_ret
    exact ⟨rfl, (by repeat (first | exact Ext.refl _ | apply Ext.plus | apply Ext.alloc | apply Ext.drew))⟩
end Go.Proofs.Ytkekfncgpbileaa
