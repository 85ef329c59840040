/- FnLabel: the walk. -/
import Derived.Test.YtocadhcggkbimaaDoorLU5
import Derived.Test.YtocadhcggkbimaaDoorLT5
import Derived.Test.YtocadhcggkbimaaDoorLT6
import Derived.Test.YtocadhcggkbimaaDoorTAB
import Derived.Test.YtocadhcggkbimaaDoorC4
import Derived.Deep.Cut
set_option maxRecDepth 100000
set_option linter.unusedVariables false
namespace Go.Proofs.YtocadhcggkbimaaDoor
open Go.RowKit Go.Fin1
/-- A fresh block, made by one operation, within its range. -/
def kBoxR (B : Nat) (cs : List Value) (ty : TypeId) (x : Nat × Nat) : XReg.Kind := fun v w => ∃ g, v = .pointer (some ⟨g, 0, none⟩) ∧ B ≤ g ∧ x.1 ≤ g ∧ g < x.2 ∧ Blk w g cs ty
theorem kBoxR_good (B : Nat) (cs : List Value) (ty : TypeId) : (XReg.ZOp.A (kBoxR B cs ty) [] [] []).Good :=
  ⟨fun x v w w' hx ⟨g, hv, hB, h1, h2, hg⟩ => ⟨g, hv, hB, h1, h2, hg.chg hx (by simp)⟩,
    (B, B + 1), _, (emptyG B).alloc (.cells cs.toArray ty), (emptyG B).heap.size, rfl, by rw [emptyG_size]; exact Nat.le_refl _, by rw [emptyG_size]; exact Nat.le_refl _, by rw [emptyG_size]; exact Nat.lt_succ_self _, Blk.new rfl⟩
theorem kBoxR_g {B : Nat} {cs : List Value} {ty : TypeId} {x : Nat × Nat} {g : Nat} {w : World} (h : kBoxR B cs ty x (.pointer (some ⟨g, 0, none⟩)) w) : B ≤ g ∧ x.1 ≤ g ∧ g < x.2 ∧ Blk w g cs ty := by
  obtain ⟨g', hv, h1⟩ := h
  obtain rfl : g = g' := by simpa using hv
  exact h1
theorem sameL_rfl (a b : Int) : sameL ⟨a, b⟩ ⟨a, b⟩ = true := by unfold sameL; simp
/-- A label, or a code, that was read. -/
@[irreducible] def sameO (a b c d e f : Int) : Bool := decide (a = d) && decide (b = e) && decide (c = f)
theorem sameO_rfl (a b c : Int) : sameO a b c a b c = true := by unfold sameO; simp
set_option maxHeartbeats 400000 in
@[go_sem high] theorem equalIn_out (w : World) (a b c d e f : Int) : (Op.equalIn 10000 32 (.agg #[(.int .i64 a), (.int .i64 b), (.int .i64 c)]) (.agg #[(.int .i64 d), (.int .i64 e), (.int .i64 f)])).run Tryd.prog w = .ok (sameO a b c d e f) w := by
  unfold sameO
  by_cases q1 : a = d <;> by_cases q2 : b = e <;> by_cases q3 : c = f
  all_goals simp [go_sem, q1, q2, q3, Tryd.underlying32, Tryd.underlying24]

theorem lbl_short : ∀ k, k < 32 → (lblN (ordK k) 3).length ≤ 100 := by decide +kernel
theorem text_short {x : Lab} (h : labR x = true) {s : ByteArray} (hs : s.toList = lblT x) : ¬ 8000 < s.size := by
  obtain ⟨k, hk, rfl⟩ := ordK_of h
  have h1 := lbl_short k hk
  have h2 : s.size = s.toList.length := by rw [ByteArray.toList_eq]; simp
  rw [h2, hs, lblT_yes h]; omega
set_option maxHeartbeats 3200000 in
theorem fnLabel_any (a b : Arg (List Int)) (w : World) (ha : SlR w 1 rU8 a.v a.x) (hb : SlR w 1 rU8 b.v b.x) :
    Calls Tryd.prog 3 #[a.v, b.v] w fun e w' => e = .returned (.bool true) ∧ Ext w w' := by
  obtain ⟨v1, l1⟩ := a
  obtain ⟨v2, l2⟩ := b
  change SlR w 1 rU8 v1 l1 at ha
  change SlR w 1 rU8 v2 l2 at hb
  change Calls Tryd.prog 3 #[v1, v2] w _
  obtain ⟨ad1, cp1, rfl⟩ := ha.len
  obtain ⟨ad2, cp2, rfl⟩ := hb.len
  have H1 := Lib.hid ha
  have H2 := Lib.hid hb
  clear ha hb
  by_cases hl1 : l1.length ≤ 1048576
  · by_cases hl2 : l2.length ≤ 1048576
    · have hb1 : decide ((1048576 : Int) < (l1.length : Int)) = false := decide_eq_false (by omega)
      have hb2 : decide ((1048576 : Int) < (l2.length : Int)) = false := decide_eq_false (by omega)
      go_enter Tryd.func3, Tryd.ntmps3
      go_wp2_with fail
      refine (drawJoinOf_any _ l1 _ (H1.out.ext rU8_stable (by repeat (first | exact Ext.refl _ | apply Ext.plus | apply Ext.alloc | apply Ext.drew))) hl1).mono ?_
      rintro e _ ⟨⟨a1, a2⟩, ⟨b1, b2⟩, rfl, ha, hb, ⟨X1, rfl⟩⟩
      have HA := Lib.hid ha
      have HB := Lib.hid hb
      clear ha hb hb1 hb2
      dsimp only
      obtain ⟨⟨j1, j2⟩, hj⟩ : ∃ j : Lab, joinL ⟨a1, a2⟩ ⟨b1, b2⟩ = j := ⟨_, rfl⟩
      obtain ⟨⟨m1, m2⟩, hm⟩ : ∃ j : Lab, meetL ⟨a1, a2⟩ ⟨b1, b2⟩ = j := ⟨_, rfl⟩
      have HIJ := Lib.hid (fun w => (by have := implJoinOf_any a1 a2 b1 b2 w; rw [hj] at this; exact this : Calls Tryd.prog 5 #[(.agg #[(.int .i64 a1), (.int .i64 a2)]), (.agg #[(.int .i64 b1), (.int .i64 b2)])] w fun e w' => e = .returned (.agg #[(.int .i64 j1), (.int .i64 j2)]) ∧ Ext w w'))
      have HSJ := Lib.hid (fun w => (by have := specJoinOf_any a1 a2 b1 b2 w; rw [hj] at this; exact this : Calls Tryd.prog 13 #[(.agg #[(.int .i64 a1), (.int .i64 a2)]), (.agg #[(.int .i64 b1), (.int .i64 b2)])] w fun e w' => e = .returned (.agg #[(.int .i64 j1), (.int .i64 j2)]) ∧ Ext w w'))
      have HIM := Lib.hid (fun w => (by have := implMeetOf_any a1 a2 b1 b2 w; rw [hm] at this; exact this : Calls Tryd.prog 6 #[(.agg #[(.int .i64 a1), (.int .i64 a2)]), (.agg #[(.int .i64 b1), (.int .i64 b2)])] w fun e w' => e = .returned (.agg #[(.int .i64 m1), (.int .i64 m2)]) ∧ Ext w w'))
      have HSM := Lib.hid (fun w => (by have := specMeetOf_any a1 a2 b1 b2 w; rw [hm] at this; exact this : Calls Tryd.prog 14 #[(.agg #[(.int .i64 a1), (.int .i64 a2)]), (.agg #[(.int .i64 b1), (.int .i64 b2)])] w fun e w' => e = .returned (.agg #[(.int .i64 m1), (.int .i64 m2)]) ∧ Ext w w'))
      have HJ := Lib.hid hj
      have HM := Lib.hid hm
      clear hj hm
      go_upto_region 4 with fail
      have HA5 := Lib.hid (Blk.new (w := w.plus X1) (cs := #[(.int .i64 a1), (.int .i64 a2)]) (ty := 24) rfl)
      have HB5 := Lib.hid (Blk.new (w := (w.plus X1).alloc (.cells #[(.int .i64 a1), (.int .i64 a2)] 24)) (cs := #[(.int .i64 b1), (.int .i64 b2)]) (ty := 24) rfl)
      have HA6 := Lib.hid (HA5.out.ext ((Ext.refl _).alloc (.cells #[(.int .i64 b1), (.int .i64 b2)] 24)))
      clear HA5
      simp only [World.size_plus, World.size_alloc] at HA6 HB5
      refine gen_world (fun W hW => ?_)
      have HW : Hid (Ext w W) := Lib.hid (by rw [hW]; exact (by repeat (first | exact Ext.refl _ | apply Ext.plus | apply Ext.alloc | apply Ext.drew)))
      rw [← hW] at HA6 HB5
      clear hW
      generalize w.heap.size + X1.n = gA at HA6 HB5 ⊢
      generalize hgB : gA + 1 = gB at HA6 HB5 ⊢
      have HGB := Lib.hid hgB
      clear hgB
      have a50 : W.cell? ⟨gA, 0, none⟩ = some (.int .i64 a1) := HA6.out.cell 0
      have a51 : W.cell? ⟨gA, 1, none⟩ = some (.int .i64 a2) := HA6.out.cell 1
      have b60 : W.cell? ⟨gB, 0, none⟩ = some (.int .i64 b1) := HB5.out.cell 0
      have b61 : W.cell? ⟨gB, 1, none⟩ = some (.int .i64 b2) := HB5.out.cell 1
      have aold := HA6.out.old
      have bold := HB5.out.old
      (refine wp_region_z [] [XReg.ZOp.A (fun _ u _ => u = (.agg #[(.int .i64 a1), (.int .i64 a2)])) [] [] [], XReg.ZOp.A (fun _ u _ => u = (.agg #[(.int .i64 b1), (.int .i64 b2)])) [] [] [], XReg.ZOp.A (fun _ u _ => u = (.agg #[(.int .i64 j1), (.int .i64 j2)])) [] [] [], XReg.ZOp.A (fun _ u _ => u = (.agg #[(.int .i64 a1), (.int .i64 a2)])) [] [] [], XReg.ZOp.A (fun _ u _ => u = (.agg #[(.int .i64 b1), (.int .i64 b2)])) [] [] [], XReg.ZOp.A (fun _ u _ => u = (.agg #[(.int .i64 m1), (.int .i64 m2)])) [] [] [], .A (kBoxR W.heap.size [(.int .i64 0), (.int .i64 0)] 24) [] [] [], .A (kBoxR W.heap.size [(.int .i64 0), (.int .i64 0)] 24) [] [] [], .T, .T] [_, _] (by kernel_rfl) (by kernel_rfl) (by kernel_rfl) (by kernel_rfl) rfl ?_ (by repeat' (first | exact trivial | exact XReg.ZOp.good_is _ _ _ _ | exact XReg.ZOp.good_v _ | exact XReg.ZOp.good_t | exact kBoxR_good _ _ _ | refine And.intro ?_ ?_)) (by repeat' (first | exact trivial | exact XReg.subL_nil _ | exact XReg.subL_refl _ | exact Or.inr (XReg.subL_nil _) | exact Or.inr (XReg.subL_refl _) | exact Or.inl (by kernel_rfl) | refine And.intro ?_ ?_)))
      (apply ZReg.setE (.agg #[(.int .i64 a1), (.int .i64 a2)]); (case h => (intro w' hw' hF'; obtain ⟨X', rfl⟩ := hw'; have HF' := Lib.hid hF'; clear hF'; go_wp2_with (fail); exact ⟨rfl, (by repeat (first | exact Ext.refl _ | apply Ext.plus | apply Ext.alloc | apply Ext.drew))⟩)); (case hv => kernel_rfl); intro _)
      (apply ZReg.setE (.agg #[(.int .i64 b1), (.int .i64 b2)]); (case h => (intro w' hw' hF'; obtain ⟨X', rfl⟩ := hw'; have HF' := Lib.hid hF'; clear hF'; go_wp2_with (fail); exact ⟨rfl, (by repeat (first | exact Ext.refl _ | apply Ext.plus | apply Ext.alloc | apply Ext.drew))⟩)); (case hv => kernel_rfl); intro _)
      (apply ZReg.setE (.agg #[(.int .i64 j1), (.int .i64 j2)]); (case h => (intro w' hw' hF'; obtain ⟨X', rfl⟩ := hw'; have HF' := Lib.hid hF'; clear hF'; go_wp2_with ((go_at_call 5; refine (HIJ.out _).mono ?_; rintro e _ ⟨rfl, X, rfl⟩)); exact ⟨rfl, (by repeat (first | exact Ext.refl _ | apply Ext.plus | apply Ext.alloc | apply Ext.drew))⟩)); (case hv => kernel_rfl); intro _)
      (apply ZReg.setE (.agg #[(.int .i64 a1), (.int .i64 a2)]); (case h => (intro w' hw' hF'; obtain ⟨X', rfl⟩ := hw'; have HF' := Lib.hid hF'; clear hF'; go_wp2_with (fail); exact ⟨rfl, (by repeat (first | exact Ext.refl _ | apply Ext.plus | apply Ext.alloc | apply Ext.drew))⟩)); (case hv => kernel_rfl); intro _)
      (apply ZReg.setE (.agg #[(.int .i64 b1), (.int .i64 b2)]); (case h => (intro w' hw' hF'; obtain ⟨X', rfl⟩ := hw'; have HF' := Lib.hid hF'; clear hF'; go_wp2_with (fail); exact ⟨rfl, (by repeat (first | exact Ext.refl _ | apply Ext.plus | apply Ext.alloc | apply Ext.drew))⟩)); (case hv => kernel_rfl); intro _)
      (apply ZReg.setE (.agg #[(.int .i64 m1), (.int .i64 m2)]); (case h => (intro w' hw' hF'; obtain ⟨X', rfl⟩ := hw'; have HF' := Lib.hid hF'; clear hF'; go_wp2_with ((go_at_call 6; refine (HIM.out _).mono ?_; rintro e _ ⟨rfl, X, rfl⟩)); exact ⟨rfl, (by repeat (first | exact Ext.refl _ | apply Ext.plus | apply Ext.alloc | apply Ext.drew))⟩)); (case hv => kernel_rfl); intro _)
      refine ZReg.kindE (fun w' hw' hF' => ?_) (fun v w1 x1 hK => ?_)
      · obtain ⟨X', rfl⟩ := hw'
        have H9 := Lib.hid (show kBoxR W.heap.size [(.int .i64 0), (.int .i64 0)] 24 ((W.plus X').heap.size, ((W.plus X').alloc (.cells #[(.int .i64 0), (.int .i64 0)] 24)).heap.size) (.pointer (some ⟨(W.plus X').heap.size, 0, none⟩)) ((W.plus X').alloc (.cells #[(.int .i64 0), (.int .i64 0)] 24)) from ⟨_, rfl, by simp, by simp, by simp, Blk.new rfl⟩)
        clear hF'
        simp only [World.size_plus, World.size_alloc] at H9
        go_wp2
        exact ⟨(by repeat (first | exact Ext.refl _ | apply Ext.plus | apply Ext.alloc | apply Ext.drew)), H9.out⟩
      obtain ⟨gJ, rfl, -⟩ := hK
      clear w1
      refine ZReg.kindE (fun w' hw' hF' => ?_) (fun v w1 x2 hK => ?_)
      · obtain ⟨X', rfl⟩ := hw'
        have H9 := Lib.hid (show kBoxR W.heap.size [(.int .i64 0), (.int .i64 0)] 24 ((W.plus X').heap.size, ((W.plus X').alloc (.cells #[(.int .i64 0), (.int .i64 0)] 24)).heap.size) (.pointer (some ⟨(W.plus X').heap.size, 0, none⟩)) ((W.plus X').alloc (.cells #[(.int .i64 0), (.int .i64 0)] 24)) from ⟨_, rfl, by simp, by simp, by simp, Blk.new rfl⟩)
        clear hF'
        simp only [World.size_plus, World.size_alloc] at H9
        go_wp2
        exact ⟨(by repeat (first | exact Ext.refl _ | apply Ext.plus | apply Ext.alloc | apply Ext.drew)), H9.out⟩
      obtain ⟨gK, rfl, -⟩ := hK
      clear w1
      refine ZReg.T ?_
      refine ZReg.T ?_
      refine ZReg.doneE (fun X hF hR => ?_)
      obtain ⟨q1, q2, q3, hBJ⟩ := kBoxR_g (hF 6 (kBoxR W.heap.size [(.int .i64 0), (.int .i64 0)] 24 x1, (.pointer (some ⟨gJ, 0, none⟩))) (by kernel_rfl))
      obtain ⟨q4, q5, q6, hBK⟩ := kBoxR_g (hF 7 (kBoxR W.heap.size [(.int .i64 0), (.int .i64 0)] 24 x2, (.pointer (some ⟨gK, 0, none⟩))) (by kernel_rfl))
      have hJK : gJ ≠ gK := by
        have := hR 6 7 x1 x2 (by decide) (by kernel_rfl) (by kernel_rfl)
        omega
      clear hF hR q2 q3 q5 q6
      have hA9 := HA6.out.ext ((Ext.refl W).plus X)
      have hB9 := HB5.out.ext ((Ext.refl W).plus X)
      have hW9 := HW.out.trans ((Ext.refl W).plus X)
      have hg1 : gA < W.heap.size := HA6.out.old
      have hg2 : gB < W.heap.size := HB5.out.old
      have HG := Lib.hid (show gA ≠ gJ ∧ gA ≠ gK ∧ gB ≠ gJ ∧ gB ≠ gK ∧ gJ ≠ gK ∧ w.heap.size ≤ gJ ∧ w.heap.size ≤ gK by have := HW.out.below.size; omega)
      clear a50 a51 b60 b61 aold bold q1 q4 hg1 hg2 hJK HA6 HB5 HW
      generalize W.plus X = w9 at hA9 hB9 hW9 hBJ hBK ⊢
      clear W
      have HA9 := Lib.hid hA9
      have HB9 := Lib.hid hB9
      have HW9 := Lib.hid hW9
      have HBJ := Lib.hid hBJ
      have HBK := Lib.hid hBK
      have d0 : w9.cell? ⟨gJ, 0, none⟩ = some (.int .i64 0) := hBJ.cell 0
      have d1 : w9.cell? ⟨gJ, 1, none⟩ = some (.int .i64 0) := hBJ.cell 1
      have do9 := hBJ.old
      have df9 := hBJ.fz
      clear hA9 hB9 hW9 hBJ hBK
      refine ZReg.run ?_
      go_wp2
      generalize hW : ((w9.setCell ⟨gJ, 0, none⟩ (.int .i64 j1)).setCell ⟨gJ, 1, none⟩ (.int .i64 j2)) = w10
      have hch : Chg [gJ] w9 w10 := by rw [← hW]; exact set2_chg _ _ _ _
      have hJ : Blk w10 gJ [(.int .i64 j1), (.int .i64 j2)] 24 := by rw [← hW]; exact (HBJ.out.set 0 _).set 1 _
      have hK : Blk w10 gK [(.int .i64 0), (.int .i64 0)] 24 := HBK.out.chg hch (by have := HG.out; simp; omega)
      have hA : Blk w10 gA [(.int .i64 a1), (.int .i64 a2)] 24 := HA9.out.chg hch (by have := HG.out; simp; omega)
      have hB : Blk w10 gB [(.int .i64 b1), (.int .i64 b2)] 24 := HB9.out.chg hch (by have := HG.out; simp; omega)
      have hX : Ext w w10 := hch.ext HW9.out (by have := HG.out; simp; omega)
      clear hW hch d0 d1 do9 df9 HBJ HBK HA9 HB9 HW9 w9
      have HX10 := Lib.hid hX
      have HA10 := Lib.hid hA
      have HB10 := Lib.hid hB
      have HJ10 := Lib.hid hJ
      have HK10 := Lib.hid hK
      have d0 : w10.cell? ⟨gK, 0, none⟩ = some (.int .i64 0) := hK.cell 0
      have d1 : w10.cell? ⟨gK, 1, none⟩ = some (.int .i64 0) := hK.cell 1
      have do9 := hK.old
      have df9 := hK.fz
      clear hA hB hJ hK hX
      refine ZReg.run ?_
      go_wp2
      generalize hW : ((w10.setCell ⟨gK, 0, none⟩ (.int .i64 m1)).setCell ⟨gK, 1, none⟩ (.int .i64 m2)) = w11
      have hch : Chg [gK] w10 w11 := by rw [← hW]; exact set2_chg _ _ _ _
      have HK11 := Lib.hid (show Blk w11 gK [(.int .i64 m1), (.int .i64 m2)] 24 by rw [← hW]; exact (HK10.out.set 0 _).set 1 _)
      have HJ11 := Lib.hid (HJ10.out.chg hch (by have := HG.out; simp; omega))
      have HA11 := Lib.hid (HA10.out.chg hch (by have := HG.out; simp; omega))
      have HB11 := Lib.hid (HB10.out.chg hch (by have := HG.out; simp; omega))
      have HX11 := Lib.hid (hch.ext HX10.out (by have := HG.out; simp; omega))
      clear hW hch d0 d1 do9 df9 HK10 HJ10 HA10 HB10 HX10 w10 HG HGB
      refine ZReg.end_ ?_
      go_wp2_with fail
      refine (drawBelow_any _ l2 _ (H2.out.ext rU8_stable (HX11.out.trans (by repeat (first | exact Ext.refl _ | apply Ext.plus | apply Ext.alloc | apply Ext.drew)))) hl2).mono ?_
      rintro e _ ⟨⟨c1, c2⟩, ⟨d1, d2⟩, rfl, hc, hd, ⟨X5, rfl⟩⟩
      have HC := Lib.hid hc
      have HD := Lib.hid hd
      clear hc hd
      dsimp only
      go_upto_region 6 with fail
      have h2 := Blk.new (w := (w11.plus X5).alloc (.cells #[(.int .i64 c1), (.int .i64 c2)] 24)) (cs := #[(.int .i64 d1), (.int .i64 d2)]) (ty := 24) rfl
      have h := (Blk.new (w := w11.plus X5) (cs := #[(.int .i64 c1), (.int .i64 c2)]) (ty := 24) rfl).ext ((Ext.refl _).alloc (.cells #[(.int .i64 d1), (.int .i64 d2)] 24))
      simp only [World.size_plus, World.size_alloc] at h h2
      refine gen_world (fun W6 hW => ?_)
      have HE : Hid (Ext w11 W6) := Lib.hid (by rw [hW]; exact (by repeat (first | exact Ext.refl _ | apply Ext.plus | apply Ext.alloc | apply Ext.drew)))
      rw [← hW] at h h2
      clear hW
      generalize w11.heap.size + X5.n = gC at h h2 ⊢
      generalize gC + 1 = gD at h2 ⊢
      have HC6 := Lib.hid h
      have HD6 := Lib.hid h2
      clear h h2 X5
      have HJ6 := Lib.hid (HJ11.out.ext HE.out)
      have HK6 := Lib.hid (HK11.out.ext HE.out)
      have HA6 := Lib.hid (HA11.out.ext HE.out)
      have HB6 := Lib.hid (HB11.out.ext HE.out)
      have HX6 := Lib.hid (HX11.out.trans HE.out)
      clear HE HJ11 HK11 HA11 HB11 HX11 w11
      go_wp2_with fail
      refine (drawLabelText_any _ l2 _ (H2.out.ext rU8_stable (HX6.out.trans (by repeat (first | exact Ext.refl _ | apply Ext.plus | apply Ext.alloc | apply Ext.drew)))) hl2).mono ?_
      rintro e _ ⟨⟨t1, t2⟩, rfl, ht, ⟨X7, rfl⟩⟩
      have HT := Lib.hid ht
      clear ht
      dsimp only
      go_upto_region 7 with fail
      have h := Blk.new (w := W6.plus X7) (cs := #[(.int .i64 t1), (.int .i64 t2)]) (ty := 24) rfl
      simp only [World.size_plus] at h
      refine gen_world (fun W7 hW => ?_)
      have HE : Hid (Ext W6 W7) := Lib.hid (by rw [hW]; exact (by repeat (first | exact Ext.refl _ | apply Ext.plus | apply Ext.alloc | apply Ext.drew)))
      rw [← hW] at h
      clear hW
      generalize W6.heap.size + X7.n = gT at h ⊢
      have HT7 := Lib.hid h
      clear h X7
      have HJ7 := Lib.hid (HJ6.out.ext HE.out)
      have HK7 := Lib.hid (HK6.out.ext HE.out)
      have HA7 := Lib.hid (HA6.out.ext HE.out)
      have HB7 := Lib.hid (HB6.out.ext HE.out)
      have HC7 := Lib.hid (HC6.out.ext HE.out)
      have HD7 := Lib.hid (HD6.out.ext HE.out)
      have HX7 := Lib.hid (HX6.out.trans HE.out)
      clear HE HJ6 HK6 HA6 HB6 HC6 HD6 HX6 W6
      obtain ⟨s, hs⟩ : ∃ s : ByteArray, (⟨(lblT ⟨t1, t2⟩).toArray⟩ : ByteArray) = s := ⟨_, rfl⟩
      have HIT := Lib.hid (fun w => (by have := implLabelText_any ⟨t1, t2⟩ w; rw [hs] at this; exact this : Calls Tryd.prog 9 #[(.agg #[(.int .i64 t1), (.int .i64 t2)])] w fun e w' => e = .returned (.string s) ∧ Ext w w'))
      have HST := Lib.hid (fun w => (by have := specLabelText_any ⟨t1, t2⟩ w; rw [hs] at this; exact this : Calls Tryd.prog 17 #[(.agg #[(.int .i64 t1), (.int .i64 t2)])] w fun e w' => e = .returned (.string s) ∧ Ext w w'))
      have HS := Lib.hid hs
      clear hs
      have t70 : W7.cell? ⟨gT, 0, none⟩ = some (.int .i64 t1) := HT7.out.cell 0
      have t71 : W7.cell? ⟨gT, 1, none⟩ = some (.int .i64 t2) := HT7.out.cell 1
      have told := HT7.out.old
      go_wp2_with (go_at_call 9; refine (HIT.out _).mono ?_; rintro e _ ⟨rfl, X, rfl⟩)
      refine (drawLabelRead_any _ l1 _ (H1.out.ext rU8_stable (HX7.out.trans (by repeat (first | exact Ext.refl _ | apply Ext.plus | apply Ext.alloc | apply Ext.drew)))) hl1).mono ?_
      rintro e _ ⟨u, rfl, hu, ⟨X8, rfl⟩⟩
      obtain ⟨⟨⟨x1, x2⟩, x3⟩, hx⟩ : ∃ r : Lab × Int, rdL u = r := ⟨_, rfl⟩
      have HIR := Lib.hid (fun w => (by have := implLabelRead_any u w (by omega); rw [hx] at this; exact this : Calls Tryd.prog 11 #[.string u] w fun e w' => e = .returned (.agg #[(.int .i64 x1), (.int .i64 x2), (.int .i64 x3)]) ∧ Ext w w'))
      have HSR := Lib.hid (fun w => (by have := specLabelRead_any u w (by omega); rw [hx] at this; exact this : Calls Tryd.prog 18 #[.string u] w fun e w' => e = .returned (.agg #[(.int .i64 x1), (.int .i64 x2), (.int .i64 x3)]) ∧ Ext w w'))
      have HR := Lib.hid hx
      have HU := Lib.hid hu
      clear hx hu
      go_upto_region 9 with fail
      refine gen_world (fun W8 hW => ?_)
      have HE : Hid (Ext W7 W8) := Lib.hid (by rw [hW]; exact (by repeat (first | exact Ext.refl _ | apply Ext.plus | apply Ext.alloc | apply Ext.drew)))
      clear hW t70 t71 told
      have HJ8 := Lib.hid (HJ7.out.ext HE.out)
      have HK8 := Lib.hid (HK7.out.ext HE.out)
      have HA8 := Lib.hid (HA7.out.ext HE.out)
      have HB8 := Lib.hid (HB7.out.ext HE.out)
      have HC8 := Lib.hid (HC7.out.ext HE.out)
      have HD8 := Lib.hid (HD7.out.ext HE.out)
      have HT8 := Lib.hid (HT7.out.ext HE.out)
      have HX8 := Lib.hid (HX7.out.trans HE.out)
      clear HE HJ7 HK7 HA7 HB7 HC7 HD7 HT7 HX7 X8 W7
      go_wp2_with fail
      refine (HIR.out _).mono ?_
      rintro e _ ⟨rfl, ⟨X9, rfl⟩⟩
      go_upto_region 10 with fail
      have h := Blk.new (w := W8.plus X9) (cs := #[(.int .i64 x1), (.int .i64 x2), (.int .i64 x3)]) (ty := 32) rfl
      simp only [World.size_plus] at h
      refine gen_world (fun W9 hW => ?_)
      have HE : Hid (Ext W8 W9) := Lib.hid (by rw [hW]; exact (by repeat (first | exact Ext.refl _ | apply Ext.plus | apply Ext.alloc | apply Ext.drew)))
      rw [← hW] at h
      clear hW
      generalize W8.heap.size + X9.n = gX at h ⊢
      have HO9 := Lib.hid h
      clear h X9
      have HJ9 := Lib.hid (HJ8.out.ext HE.out)
      have HK9 := Lib.hid (HK8.out.ext HE.out)
      have HA9 := Lib.hid (HA8.out.ext HE.out)
      have HB9 := Lib.hid (HB8.out.ext HE.out)
      have HC9 := Lib.hid (HC8.out.ext HE.out)
      have HD9 := Lib.hid (HD8.out.ext HE.out)
      have HT9 := Lib.hid (HT8.out.ext HE.out)
      have HX9 := Lib.hid (HX8.out.trans HE.out)
      clear HE HJ8 HK8 HA8 HB8 HC8 HD8 HT8 HX8 W8
      go_wp2_with fail
      refine (drawChain_any _ l2 _ (H2.out.ext rU8_stable (HX9.out.trans (by repeat (first | exact Ext.refl _ | apply Ext.plus | apply Ext.alloc | apply Ext.drew)))) hl2).mono ?_
      rintro e _ ⟨vc, xs, rfl, hsx, hok, ⟨Y, rfl⟩⟩
      obtain ⟨av, cv, rfl⟩ := hsx.len
      have HL := Lib.hid (show SlR (W9.plus Y) 2 rLab (.slice av xs.length cv) xs from slr_with hsx fun cs x hx hr => ⟨hr, hok x hx⟩)
      clear hsx hok
      go_upto_region 11 with fail
      refine gen_world (fun W11 hW => ?_)
      have HE : Hid (Ext W9 W11) := Lib.hid (by rw [hW]; exact (by repeat (first | exact Ext.refl _ | apply Ext.plus | apply Ext.alloc | apply Ext.drew)))
      have HL2 := Lib.hid (HL.out.ext rLab_stable (show Ext _ W11 by rw [hW]; exact (by repeat (first | exact Ext.refl _ | apply Ext.plus | apply Ext.alloc | apply Ext.drew))))
      clear hW HL
      have hJ11 := HJ9.out.ext HE.out
      have hK11 := HK9.out.ext HE.out
      have hA11 := HA9.out.ext HE.out
      have hB11 := HB9.out.ext HE.out
      have hC11 := HC9.out.ext HE.out
      have hD11 := HD9.out.ext HE.out
      have hT11 := HT9.out.ext HE.out
      have hO11 := HO9.out.ext HE.out
      have HX11 := Lib.hid (HX9.out.trans HE.out)
      clear HE HJ9 HK9 HA9 HB9 HC9 HD9 HT9 HO9 HX9 Y W9
      have a0 : W11.cell? ⟨gA, 0, none⟩ = some (.int .i64 a1) := hA11.cell 0
      have a1' : W11.cell? ⟨gA, 1, none⟩ = some (.int .i64 a2) := hA11.cell 1
      have b0 : W11.cell? ⟨gB, 0, none⟩ = some (.int .i64 b1) := hB11.cell 0
      have b1' : W11.cell? ⟨gB, 1, none⟩ = some (.int .i64 b2) := hB11.cell 1
      have c0 : W11.cell? ⟨gC, 0, none⟩ = some (.int .i64 c1) := hC11.cell 0
      have c1' : W11.cell? ⟨gC, 1, none⟩ = some (.int .i64 c2) := hC11.cell 1
      have d0 : W11.cell? ⟨gD, 0, none⟩ = some (.int .i64 d1) := hD11.cell 0
      have d1' : W11.cell? ⟨gD, 1, none⟩ = some (.int .i64 d2) := hD11.cell 1
      have j0 : W11.cell? ⟨gJ, 0, none⟩ = some (.int .i64 j1) := hJ11.cell 0
      have j1' : W11.cell? ⟨gJ, 1, none⟩ = some (.int .i64 j2) := hJ11.cell 1
      have m0 : W11.cell? ⟨gK, 0, none⟩ = some (.int .i64 m1) := hK11.cell 0
      have m1' : W11.cell? ⟨gK, 1, none⟩ = some (.int .i64 m2) := hK11.cell 1
      have t0 : W11.cell? ⟨gT, 0, none⟩ = some (.int .i64 t1) := hT11.cell 0
      have t1' : W11.cell? ⟨gT, 1, none⟩ = some (.int .i64 t2) := hT11.cell 1
      have x0 : W11.cell? ⟨gX, 0, none⟩ = some (.int .i64 x1) := hO11.cell 0
      have x1' : W11.cell? ⟨gX, 1, none⟩ = some (.int .i64 x2) := hO11.cell 1
      have x2' : W11.cell? ⟨gX, 2, none⟩ = some (.int .i64 x3) := hO11.cell 2
      have oA := hA11.old
      have oB := hB11.old
      have oC := hC11.old
      have oD := hD11.old
      have oJ := hJ11.old
      have oK := hK11.old
      have oT := hT11.old
      have oX := hO11.old
      clear hJ11 hK11 hA11 hB11 hC11 hD11 hT11 hO11
      have sJ := sameL_rfl j1 j2
      have sM := sameL_rfl m1 m2
      have sX := sameO_rfl x1 x2 x3
      (refine wp_region_x 47 (by kernel_rfl) (by kernel_rfl) (by kernel_rfl) ?_; (iterate 47 (apply XReg.step; (case h => (intro w' hw'; obtain ⟨X', rfl⟩ := hw'; go_wp2_with (first | (go_at_call 13; refine (HSJ.out _).mono ?_; rintro e _ ⟨rfl, X, rfl⟩) | (go_at_call 14; refine (HSM.out _).mono ?_; rintro e _ ⟨rfl, X, rfl⟩) | (go_at_call 15; refine (implBelow_any c1 c2 d1 d2 _ HC.out.2).mono ?_; rintro e _ ⟨rfl, X, rfl⟩) | (go_at_call 16; refine (specBelow_any c1 c2 d1 d2 _).mono ?_; rintro e _ ⟨rfl, X, rfl⟩) | (go_at_call 17; refine (HST.out _).mono ?_; rintro e _ ⟨rfl, X, rfl⟩) | (go_at_call 18; refine (HSR.out _).mono ?_; rintro e _ ⟨rfl, X, rfl⟩) | (go_at_call 19; refine (implChain_any _ xs _ (HL2.out.ext rLab_stable (by repeat (first | exact Ext.refl _ | apply Ext.plus | apply Ext.alloc | apply Ext.drew)))).mono ?_; rintro e _ ⟨rfl, X, rfl⟩) | (go_at_call 20; refine (specChain_any _ xs _ (HL2.out.ext rLab_stable (by repeat (first | exact Ext.refl _ | apply Ext.plus | apply Ext.alloc | apply Ext.drew)))).mono ?_; rintro e _ ⟨rfl, X, rfl⟩) | (go_at_call 21; refine (implLabelRight_any a1 a2 _).mono ?_; rintro e _ ⟨rfl, X, rfl⟩) | (go_at_call 22; refine (specLabelRight_any a1 a2 _).mono ?_; rintro e _ ⟨rfl, X, rfl⟩)); exact ⟨rfl, (by repeat (first | exact Ext.refl _ | apply Ext.plus | apply Ext.alloc | apply Ext.drew))⟩)); (case hv => kernel_rfl))); refine XReg.doneN (fun X => ?_))
      go_upto_region 13 with fail
      go_cut [117] from 16 (fun s117 wc => s117 = .bool false ∧ Ext W11 wc)
      case first =>
        have HTL : Hid (s.toList = lblT ⟨t1, t2⟩) := Lib.hid (by rw [← HS.out, ByteArray.toList_eq])
        cases qs : s.toList.isEmpty
        · have hlr : labR ⟨t1, t2⟩ = true := labR_of_text (by rw [← HTL.out]; intro e; rw [e] at qs; cases qs)
          have hrd : rdL s = (⟨t1, t2⟩, 0) := rdL_text hlr HTL.out (text_short hlr HTL.out)
          have HIQ := Lib.hid (fun w => (by have := implLabelRead_any s w (by have := text_short hlr HTL.out; omega); rw [hrd] at this; exact this : Calls Tryd.prog 11 #[.string s] w fun e w' => e = .returned (.agg #[(.int .i64 t1), (.int .i64 t2), (.int .i64 0)]) ∧ Ext w w'))
          have sT := sameO_rfl t1 t2 0
          clear hlr hrd HIJ HSJ HIM HSM HST HSR HIR HL2 HU
          cases qx : (x3 == 0)
          · (refine wp_region_x 21 (by kernel_rfl) (by kernel_rfl) (by kernel_rfl) ?_; (iterate 21 (apply XReg.step; (case h => (intro w' hw'; obtain ⟨X', rfl⟩ := hw'; go_wp2_with ((go_at_call 11; refine (HIQ.out _).mono ?_; rintro e _ ⟨rfl, X, rfl⟩)); exact ⟨rfl, (by repeat (first | exact Ext.refl _ | apply Ext.plus | apply Ext.alloc | apply Ext.drew))⟩)); (case hv => kernel_rfl))); refine XReg.doneN (fun X => ?_))
            go_wp2
            go_meet
            case rel => exact ⟨rfl, (by repeat (first | exact Ext.refl _ | apply Ext.plus | apply Ext.alloc | apply Ext.drew))⟩
          · skip
            have hx0 : x3 = 0 := by simpa using qx
            have htx : (⟨(lblT ⟨x1, x2⟩).toArray⟩ : ByteArray) = u := by
              have := (text_rdL (s := u) (by rw [HR.out]; exact hx0)).1
              rw [HR.out] at this
              dsimp only at this
              rw [this, ByteArray.toList_eq]
            have HIV := Lib.hid (fun w => (by have := implLabelText_any ⟨x1, x2⟩ w; rw [htx] at this; exact this : Calls Tryd.prog 9 #[(.agg #[(.int .i64 x1), (.int .i64 x2)])] w fun e w' => e = .returned (.string u) ∧ Ext w w'))
            clear hx0 htx
            (refine wp_region_x 21 (by kernel_rfl) (by kernel_rfl) (by kernel_rfl) ?_; (iterate 21 (apply XReg.step; (case h => (intro w' hw'; obtain ⟨X', rfl⟩ := hw'; go_wp2_with (first | (go_at_call 11; refine (HIQ.out _).mono ?_; rintro e _ ⟨rfl, X, rfl⟩) | (go_at_call 9; refine (HIV.out _).mono ?_; rintro e _ ⟨rfl, X, rfl⟩)); exact ⟨rfl, (by repeat (first | exact Ext.refl _ | apply Ext.plus | apply Ext.alloc | apply Ext.drew))⟩)); (case hv => kernel_rfl))); refine XReg.doneN (fun X => ?_))
            go_wp2
            go_meet
            case rel => exact ⟨rfl, (by repeat (first | exact Ext.refl _ | apply Ext.plus | apply Ext.alloc | apply Ext.drew))⟩
        · clear HIJ HSJ HIM HSM HST HSR HIR HL2 HU
          cases qx : (x3 == 0)
          · (refine wp_region_x 21 (by kernel_rfl) (by kernel_rfl) (by kernel_rfl) ?_; (iterate 21 (apply XReg.step; (case h => (intro w' hw'; obtain ⟨X', rfl⟩ := hw'; go_wp2_with (fail); exact ⟨rfl, (by repeat (first | exact Ext.refl _ | apply Ext.plus | apply Ext.alloc | apply Ext.drew))⟩)); (case hv => kernel_rfl))); refine XReg.doneN (fun X => ?_))
            go_wp2
            go_meet
            case rel => exact ⟨rfl, (by repeat (first | exact Ext.refl _ | apply Ext.plus | apply Ext.alloc | apply Ext.drew))⟩
          · skip
            have hx0 : x3 = 0 := by simpa using qx
            have htx : (⟨(lblT ⟨x1, x2⟩).toArray⟩ : ByteArray) = u := by
              have := (text_rdL (s := u) (by rw [HR.out]; exact hx0)).1
              rw [HR.out] at this
              dsimp only at this
              rw [this, ByteArray.toList_eq]
            have HIV := Lib.hid (fun w => (by have := implLabelText_any ⟨x1, x2⟩ w; rw [htx] at this; exact this : Calls Tryd.prog 9 #[(.agg #[(.int .i64 x1), (.int .i64 x2)])] w fun e w' => e = .returned (.string u) ∧ Ext w w'))
            clear hx0 htx
            (refine wp_region_x 21 (by kernel_rfl) (by kernel_rfl) (by kernel_rfl) ?_; (iterate 21 (apply XReg.step; (case h => (intro w' hw'; obtain ⟨X', rfl⟩ := hw'; go_wp2_with ((go_at_call 9; refine (HIV.out _).mono ?_; rintro e _ ⟨rfl, X, rfl⟩)); exact ⟨rfl, (by repeat (first | exact Ext.refl _ | apply Ext.plus | apply Ext.alloc | apply Ext.drew))⟩)); (case hv => kernel_rfl))); refine XReg.doneN (fun X => ?_))
            go_wp2
            go_meet
            case rel => exact ⟨rfl, (by repeat (first | exact Ext.refl _ | apply Ext.plus | apply Ext.alloc | apply Ext.drew))⟩
      case rest =>
        obtain ⟨rfl, ⟨X, rfl⟩⟩ := hcut
        clear HIJ HSJ HIM HSM HST HSR HIR HIT HL2 HU HR HS
        cases ra : labR ⟨a1, a2⟩
        · go_wp2_with (go_at_call 22; refine (specLabelRight_any _ _ _).mono ?_; rintro e _ ⟨rfl, X, rfl⟩; try simp only [ra])
          go_ret
          exact ⟨rfl, HX11.out.trans (by repeat (first | exact Ext.refl _ | apply Ext.plus | apply Ext.alloc | apply Ext.drew))⟩
        cases rb : labR ⟨b1, b2⟩
        · go_wp2_with (go_at_call 22; refine (specLabelRight_any _ _ _).mono ?_; rintro e _ ⟨rfl, X, rfl⟩; try simp only [ra, rb])
          go_ret
          exact ⟨rfl, HX11.out.trans (by repeat (first | exact Ext.refl _ | apply Ext.plus | apply Ext.alloc | apply Ext.drew))⟩
        cases rc : labR ⟨c1, c2⟩
        · go_wp2_with (go_at_call 22; refine (specLabelRight_any _ _ _).mono ?_; rintro e _ ⟨rfl, X, rfl⟩; try simp only [ra, rb, rc])
          go_ret
          exact ⟨rfl, HX11.out.trans (by repeat (first | exact Ext.refl _ | apply Ext.plus | apply Ext.alloc | apply Ext.drew))⟩
        have hl := lat ra rb
        rw [HJ.out, HM.out] at hl
        obtain ⟨rj, rm, f1, f2, f3, f4, f5⟩ := hl
        have g1 := (lat3 ra rb rc).1
        have g2 := (lat3 ra rb rc).2
        rw [HJ.out] at g1
        rw [HM.out] at g2
        have hjo : I64 j2 := (lab_okD rj).2
        have hmo : I64 m2 := (lab_okD rm).2
        have hao : I64 a2 := HA.out.2
        have hbo : I64 b2 := HB.out.2
        have hco : I64 c2 := HC.out.2
        change belowL _ _ = sameL ⟨j1, j2⟩ ⟨b1, b2⟩ at f5
        clear rj rm
        go_upto_region 17 with (go_at_call 22; refine (specLabelRight_any _ _ _).mono ?_; rintro e _ ⟨rfl, X, rfl⟩; try simp only [ra, rb, rc])
        clear ra rb rc
        go_cut [161] from 16 (fun s161 wc => s161 = .bool false ∧ Ext W11 wc)
        case first =>
          cases q5 : sameL ⟨j1, j2⟩ ⟨b1, b2⟩
          · rw [q5] at f5
            (refine wp_region_x 31 (by kernel_rfl) (by kernel_rfl) (by kernel_rfl) ?_; (iterate 31 (apply XReg.step; (case h => (intro w' hw'; obtain ⟨X', rfl⟩ := hw'; go_wp2_with ((go_at_call 15; refine (implBelow_any _ _ _ _ _ ?_).mono ?_; assumption; rintro e _ ⟨rfl, X, rfl⟩; try simp only [f1, f2, f3, f4, f5])); exact ⟨rfl, (by repeat (first | exact Ext.refl _ | apply Ext.plus | apply Ext.alloc | apply Ext.drew))⟩)); (case hv => kernel_rfl))); refine XReg.doneN (fun X => ?_))
            go_wp2
            go_meet
            case rel => exact ⟨rfl, (by repeat (first | exact Ext.refl _ | apply Ext.plus | apply Ext.alloc | apply Ext.drew))⟩
          · rw [q5] at f5
            (refine wp_region_x 31 (by kernel_rfl) (by kernel_rfl) (by kernel_rfl) ?_; (iterate 31 (apply XReg.step; (case h => (intro w' hw'; obtain ⟨X', rfl⟩ := hw'; go_wp2_with ((go_at_call 15; refine (implBelow_any _ _ _ _ _ ?_).mono ?_; assumption; rintro e _ ⟨rfl, X, rfl⟩; try simp only [f1, f2, f3, f4, f5])); exact ⟨rfl, (by repeat (first | exact Ext.refl _ | apply Ext.plus | apply Ext.alloc | apply Ext.drew))⟩)); (case hv => kernel_rfl))); refine XReg.doneN (fun X => ?_))
            go_wp2
            go_meet
            case rel => exact ⟨rfl, (by repeat (first | exact Ext.refl _ | apply Ext.plus | apply Ext.alloc | apply Ext.drew))⟩
        case rest =>
          obtain ⟨rfl, ⟨X, rfl⟩⟩ := hcut
          go_upto_region 19 with fail
          clear f1 f2 f3 f4 f5
          cases p1 : belowL ⟨a1, a2⟩ ⟨c1, c2⟩
          · rw [p1] at g1
            try simp only [Bool.false_and] at g1
            cases p3 : belowL ⟨c1, c2⟩ ⟨a1, a2⟩
            · rw [p3] at g2
              try simp only [Bool.false_and] at g2
              (refine wp_region_x 27 (by kernel_rfl) (by kernel_rfl) (by kernel_rfl) ?_; (iterate 27 (apply XReg.step; (case h => (intro w' hw'; obtain ⟨X', rfl⟩ := hw'; go_wp2_with ((go_at_call 15; refine (implBelow_any _ _ _ _ _ ?_).mono ?_; assumption; rintro e _ ⟨rfl, X, rfl⟩; try simp only [p3, g2, p1, g1])); exact ⟨rfl, (by repeat (first | exact Ext.refl _ | apply Ext.plus | apply Ext.alloc | apply Ext.drew))⟩)); (case hv => kernel_rfl))); refine XReg.doneN (fun X => ?_))
              go_wp2
              go_ret
              exact ⟨rfl, HX11.out.trans (by repeat (first | exact Ext.refl _ | apply Ext.plus | apply Ext.alloc | apply Ext.drew))⟩
            · rw [p3] at g2
              cases p4 : belowL ⟨c1, c2⟩ ⟨b1, b2⟩
              · rw [p4] at g2
                try simp only [Bool.true_and] at g2
                (refine wp_region_x 27 (by kernel_rfl) (by kernel_rfl) (by kernel_rfl) ?_; (iterate 27 (apply XReg.step; (case h => (intro w' hw'; obtain ⟨X', rfl⟩ := hw'; go_wp2_with ((go_at_call 15; refine (implBelow_any _ _ _ _ _ ?_).mono ?_; assumption; rintro e _ ⟨rfl, X, rfl⟩; try simp only [p3, p4, g2, p1, g1])); exact ⟨rfl, (by repeat (first | exact Ext.refl _ | apply Ext.plus | apply Ext.alloc | apply Ext.drew))⟩)); (case hv => kernel_rfl))); refine XReg.doneN (fun X => ?_))
                go_wp2
                go_ret
                exact ⟨rfl, HX11.out.trans (by repeat (first | exact Ext.refl _ | apply Ext.plus | apply Ext.alloc | apply Ext.drew))⟩
              · rw [p4] at g2
                try simp only [Bool.true_and] at g2
                (refine wp_region_x 27 (by kernel_rfl) (by kernel_rfl) (by kernel_rfl) ?_; (iterate 27 (apply XReg.step; (case h => (intro w' hw'; obtain ⟨X', rfl⟩ := hw'; go_wp2_with ((go_at_call 15; refine (implBelow_any _ _ _ _ _ ?_).mono ?_; assumption; rintro e _ ⟨rfl, X, rfl⟩; try simp only [p3, p4, g2, p1, g1])); exact ⟨rfl, (by repeat (first | exact Ext.refl _ | apply Ext.plus | apply Ext.alloc | apply Ext.drew))⟩)); (case hv => kernel_rfl))); refine XReg.doneN (fun X => ?_))
                go_wp2
                go_ret
                exact ⟨rfl, HX11.out.trans (by repeat (first | exact Ext.refl _ | apply Ext.plus | apply Ext.alloc | apply Ext.drew))⟩
          · rw [p1] at g1
            cases p2 : belowL ⟨b1, b2⟩ ⟨c1, c2⟩
            · rw [p2] at g1
              try simp only [Bool.true_and] at g1
              cases p3 : belowL ⟨c1, c2⟩ ⟨a1, a2⟩
              · rw [p3] at g2
                try simp only [Bool.false_and] at g2
                (refine wp_region_x 27 (by kernel_rfl) (by kernel_rfl) (by kernel_rfl) ?_; (iterate 27 (apply XReg.step; (case h => (intro w' hw'; obtain ⟨X', rfl⟩ := hw'; go_wp2_with ((go_at_call 15; refine (implBelow_any _ _ _ _ _ ?_).mono ?_; assumption; rintro e _ ⟨rfl, X, rfl⟩; try simp only [p3, g2, p1, p2, g1])); exact ⟨rfl, (by repeat (first | exact Ext.refl _ | apply Ext.plus | apply Ext.alloc | apply Ext.drew))⟩)); (case hv => kernel_rfl))); refine XReg.doneN (fun X => ?_))
                go_wp2
                go_ret
                exact ⟨rfl, HX11.out.trans (by repeat (first | exact Ext.refl _ | apply Ext.plus | apply Ext.alloc | apply Ext.drew))⟩
              · rw [p3] at g2
                cases p4 : belowL ⟨c1, c2⟩ ⟨b1, b2⟩
                · rw [p4] at g2
                  try simp only [Bool.true_and] at g2
                  (refine wp_region_x 27 (by kernel_rfl) (by kernel_rfl) (by kernel_rfl) ?_; (iterate 27 (apply XReg.step; (case h => (intro w' hw'; obtain ⟨X', rfl⟩ := hw'; go_wp2_with ((go_at_call 15; refine (implBelow_any _ _ _ _ _ ?_).mono ?_; assumption; rintro e _ ⟨rfl, X, rfl⟩; try simp only [p3, p4, g2, p1, p2, g1])); exact ⟨rfl, (by repeat (first | exact Ext.refl _ | apply Ext.plus | apply Ext.alloc | apply Ext.drew))⟩)); (case hv => kernel_rfl))); refine XReg.doneN (fun X => ?_))
                  go_wp2
                  go_ret
                  exact ⟨rfl, HX11.out.trans (by repeat (first | exact Ext.refl _ | apply Ext.plus | apply Ext.alloc | apply Ext.drew))⟩
                · rw [p4] at g2
                  try simp only [Bool.true_and] at g2
                  (refine wp_region_x 27 (by kernel_rfl) (by kernel_rfl) (by kernel_rfl) ?_; (iterate 27 (apply XReg.step; (case h => (intro w' hw'; obtain ⟨X', rfl⟩ := hw'; go_wp2_with ((go_at_call 15; refine (implBelow_any _ _ _ _ _ ?_).mono ?_; assumption; rintro e _ ⟨rfl, X, rfl⟩; try simp only [p3, p4, g2, p1, p2, g1])); exact ⟨rfl, (by repeat (first | exact Ext.refl _ | apply Ext.plus | apply Ext.alloc | apply Ext.drew))⟩)); (case hv => kernel_rfl))); refine XReg.doneN (fun X => ?_))
                  go_wp2
                  go_ret
                  exact ⟨rfl, HX11.out.trans (by repeat (first | exact Ext.refl _ | apply Ext.plus | apply Ext.alloc | apply Ext.drew))⟩
            · rw [p2] at g1
              try simp only [Bool.true_and] at g1
              cases p3 : belowL ⟨c1, c2⟩ ⟨a1, a2⟩
              · rw [p3] at g2
                try simp only [Bool.false_and] at g2
                (refine wp_region_x 27 (by kernel_rfl) (by kernel_rfl) (by kernel_rfl) ?_; (iterate 27 (apply XReg.step; (case h => (intro w' hw'; obtain ⟨X', rfl⟩ := hw'; go_wp2_with ((go_at_call 15; refine (implBelow_any _ _ _ _ _ ?_).mono ?_; assumption; rintro e _ ⟨rfl, X, rfl⟩; try simp only [p3, g2, p1, p2, g1])); exact ⟨rfl, (by repeat (first | exact Ext.refl _ | apply Ext.plus | apply Ext.alloc | apply Ext.drew))⟩)); (case hv => kernel_rfl))); refine XReg.doneN (fun X => ?_))
                go_wp2
                go_ret
                exact ⟨rfl, HX11.out.trans (by repeat (first | exact Ext.refl _ | apply Ext.plus | apply Ext.alloc | apply Ext.drew))⟩
              · rw [p3] at g2
                cases p4 : belowL ⟨c1, c2⟩ ⟨b1, b2⟩
                · rw [p4] at g2
                  try simp only [Bool.true_and] at g2
                  (refine wp_region_x 27 (by kernel_rfl) (by kernel_rfl) (by kernel_rfl) ?_; (iterate 27 (apply XReg.step; (case h => (intro w' hw'; obtain ⟨X', rfl⟩ := hw'; go_wp2_with ((go_at_call 15; refine (implBelow_any _ _ _ _ _ ?_).mono ?_; assumption; rintro e _ ⟨rfl, X, rfl⟩; try simp only [p3, p4, g2, p1, p2, g1])); exact ⟨rfl, (by repeat (first | exact Ext.refl _ | apply Ext.plus | apply Ext.alloc | apply Ext.drew))⟩)); (case hv => kernel_rfl))); refine XReg.doneN (fun X => ?_))
                  go_wp2
                  go_ret
                  exact ⟨rfl, HX11.out.trans (by repeat (first | exact Ext.refl _ | apply Ext.plus | apply Ext.alloc | apply Ext.drew))⟩
                · rw [p4] at g2
                  try simp only [Bool.true_and] at g2
                  (refine wp_region_x 27 (by kernel_rfl) (by kernel_rfl) (by kernel_rfl) ?_; (iterate 27 (apply XReg.step; (case h => (intro w' hw'; obtain ⟨X', rfl⟩ := hw'; go_wp2_with ((go_at_call 15; refine (implBelow_any _ _ _ _ _ ?_).mono ?_; assumption; rintro e _ ⟨rfl, X, rfl⟩; try simp only [p3, p4, g2, p1, p2, g1])); exact ⟨rfl, (by repeat (first | exact Ext.refl _ | apply Ext.plus | apply Ext.alloc | apply Ext.drew))⟩)); (case hv => kernel_rfl))); refine XReg.doneN (fun X => ?_))
                  go_wp2
                  go_ret
                  exact ⟨rfl, HX11.out.trans (by repeat (first | exact Ext.refl _ | apply Ext.plus | apply Ext.alloc | apply Ext.drew))⟩
    · have hb1 : decide ((1048576 : Int) < (l1.length : Int)) = false := decide_eq_false (by omega)
      have hb2 : decide ((1048576 : Int) < (l2.length : Int)) = true := decide_eq_true (by omega)
      go_enter Tryd.func3, Tryd.ntmps3
      go_wp2
      go_ret
      exact ⟨rfl, (by repeat (first | exact Ext.refl _ | apply Ext.plus | apply Ext.alloc | apply Ext.drew))⟩
  · have hb1 : decide ((1048576 : Int) < (l1.length : Int)) = true := decide_eq_true (by omega)
    go_enter Tryd.func3, Tryd.ntmps3
    go_wp2
    go_ret
    exact ⟨rfl, (by repeat (first | exact Ext.refl _ | apply Ext.plus | apply Ext.alloc | apply Ext.drew))⟩
end Go.Proofs.YtocadhcggkbimaaDoor
