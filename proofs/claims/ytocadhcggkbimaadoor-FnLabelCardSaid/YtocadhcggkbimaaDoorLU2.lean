/- The draws of texts of labels. -/
import Derived.Test.YtocadhcggkbimaaDoorLU1
import Derived.Test.YtocadhcggkbimaaDoorLT1
set_option maxRecDepth 100000
set_option linter.unusedVariables false
namespace Go.Proofs.YtocadhcggkbimaaDoor
open Go.RowKit Go.Fin1
set_option maxHeartbeats 3200000 in
theorem srcSpoil_any (g : Nat) (t : ByteArray) (w : World) (cv : Value) (l : List Int) (h : SrcA w g cv l) (ht : t.size ≤ 1000) :
    Calls Tryd.prog 27 #[.pointer (some ⟨g, 0, none⟩), .string t] w fun e w' => ∃ s : ByteArray, e = .returned (.string s) ∧ s.size ≤ t.size + 1 ∧ Chg [g] w w' ∧ SrcA w' g cv l := by
  have HS := Lib.hid h
  clear h
  have H17 : Hid (I64 17) := Lib.hid (by unfold I64; omega)
  have H3 : Hid (I64 3) := Lib.hid (by unfold I64; omega)
  have H2 : Hid (I64 2) := Lib.hid (by unfold I64; omega)
  have HT1 : Hid (I64 ((t.size : Int) + 1)) := Lib.hid (by unfold I64; omega)
  have hw1 : wrap64 ((t.size : Int) + 1) = (t.size : Int) + 1 := by unfold wrap64; omega
  go_enter Tryd.func27, Tryd.ntmps27
  go_wp2_with fail
  refine (srcN' g _ _ cv l HS.out HT1.out).mono ?_
  rintro e w2 ⟨k, rfl, hb, hc, hs⟩
  have hk : k ≤ t.size := by omega
  have HC := Lib.hid hc
  have HA := Lib.hid hs
  clear hc hs hb hw1
  go_wp2_with fail
  refine (srcN' g 17 _ cv l HA.out H17.out).mono ?_
  rintro e w3 ⟨q, rfl, hb, hc, hs⟩
  have hq : q < 17 := by omega
  have HC2 := Lib.hid (HC.out.trans hc)
  have HA2 := Lib.hid hs
  clear hc hs hb HC HA
  have hs := run_string_own (P := Tryd.prog) (src := 22) (dst := 9) Tryd.underlying22 Tryd.underlying5 Tryd.underlying9 (ownsOne9 w3 ((((⟨#[32, 10, 48, 97, 45, 110, 44, 58, 93, 255, 40, 120, 126, 49, 128, 225, 59]⟩ : ByteArray)[q]'hq).toNat : Nat) : Int))
  obtain ⟨cs, hcs, hz1⟩ : ∃ cs : ByteArray, cs = strOfNums [((((⟨#[32, 10, 48, 97, 45, 110, 44, 58, 93, 255, 40, 120, 126, 49, 128, 225, 59]⟩ : ByteArray)[q]'hq).toNat : Nat) : Int)] ∧ cs.size = 1 := ⟨_, rfl, strOfNums_size _⟩
  rw [← hcs] at hs
  clear hcs
  have HA3 := Lib.hid (HA2.out.ext ((Ext.refl w3).alloc (.cells #[.int .u8 ((((⟨#[32, 10, 48, 97, 45, 110, 44, 58, 93, 255, 40, 120, 126, 49, 128, 225, 59]⟩ : ByteArray)[q]'hq).toNat : Nat) : Int)] 5)))
  have HC3 := Lib.hid (HC2.out.trans (((Ext.refl w3).alloc (.cells #[.int .u8 ((((⟨#[32, 10, 48, 97, 45, 110, 44, 58, 93, 255, 40, 120, 126, 49, 128, 225, 59]⟩ : ByteArray)[q]'hq).toNat : Nat) : Int)] 5)).chg [g]))
  have hx1 : (t.extract 0 k).size = k := by rw [ByteArray.size_extract]; omega
  have hx2 : (t.extract k t.size).size = t.size - k := by rw [ByteArray.size_extract]; omega
  go_upto_region 3 with fail
  refine gen_world (fun w4 hW => ?_)
  rw [← hW] at HA3 HC3
  clear hW HA2 HC2 hs
  by_cases hkt : k = t.size
  · have hkb : ((k : Int) == (t.size : Int)) = true := by simp [hkt]
    clear hkt
    go_upto_region 4 with fail
    (refine wp_region_x 10 (by kernel_rfl) (by kernel_rfl) (by kernel_rfl) ?_; (iterate 10 (apply XReg.step; (case h => (intro w' hw'; obtain ⟨X', rfl⟩ := hw'; go_wp2_with (fail); exact ⟨rfl, (by repeat (first | exact Ext.refl _ | apply Ext.plus | apply Ext.alloc | apply Ext.drew))⟩)); (case hv => kernel_rfl))); refine XReg.doneN (fun X => ?_))
    go_wp2
    go_ret
    exact ⟨_, rfl, by simp only [ByteArray.size_append, hx1, hx2, hz1]; omega, HC3.out.trans (Ext.chg (by repeat (first | exact Ext.refl _ | apply Ext.plus | apply Ext.alloc | apply Ext.drew)) _), HA3.out.ext (by repeat (first | exact Ext.refl _ | apply Ext.plus | apply Ext.alloc | apply Ext.drew))⟩
  · have hkb : ((k : Int) == (t.size : Int)) = false := by simp; omega
    have hk1 : k + 1 ≤ t.size := by omega
    have hw2 : wrap64 ((k : Int) + 1) = (k : Int) + 1 := by unfold wrap64; omega
    have hx3 : (t.extract (k + 1) t.size).size = t.size - (k + 1) := by rw [ByteArray.size_extract]; omega
    clear hkt
    go_wp2_with fail
    refine (srcOne_any g 3 _ cv l HA3.out H3.out).mono ?_
    rintro e w5 ⟨b, rfl, hc, hs⟩
    have HC4 := Lib.hid (HC3.out.trans hc)
    have HA4 := Lib.hid hs
    clear hc hs HC3 HA3
    cases b
    · go_wp2_with fail
      refine (srcOne_any g 2 _ cv l HA4.out H2.out).mono ?_
      rintro e w6 ⟨b, rfl, hc, hs⟩
      have HC5 := Lib.hid (HC4.out.trans hc)
      have HA5 := Lib.hid hs
      clear hc hs HC4 HA4
      cases b
      · go_upto_region 7 with fail
        (refine wp_region_x 11 (by kernel_rfl) (by kernel_rfl) (by kernel_rfl) ?_; (iterate 11 (apply XReg.step; (case h => (intro w' hw'; obtain ⟨X', rfl⟩ := hw'; go_wp2_with (fail); exact ⟨rfl, (by repeat (first | exact Ext.refl _ | apply Ext.plus | apply Ext.alloc | apply Ext.drew))⟩)); (case hv => kernel_rfl))); refine XReg.doneN (fun X => ?_))
        go_wp2
        go_ret
        exact ⟨_, rfl, by simp only [ByteArray.size_append, hx1, hx3, hz1]; omega, HC5.out.trans (Ext.chg (by repeat (first | exact Ext.refl _ | apply Ext.plus | apply Ext.alloc | apply Ext.drew)) _), HA5.out.ext (by repeat (first | exact Ext.refl _ | apply Ext.plus | apply Ext.alloc | apply Ext.drew))⟩
      · go_upto_region 6 with fail
        (refine wp_region_x 9 (by kernel_rfl) (by kernel_rfl) (by kernel_rfl) ?_; (iterate 9 (apply XReg.step; (case h => (intro w' hw'; obtain ⟨X', rfl⟩ := hw'; go_wp2_with (fail); exact ⟨rfl, (by repeat (first | exact Ext.refl _ | apply Ext.plus | apply Ext.alloc | apply Ext.drew))⟩)); (case hv => kernel_rfl))); refine XReg.doneN (fun X => ?_))
        go_wp2
        go_ret
        exact ⟨_, rfl, by simp only [ByteArray.size_append, hx1, hx3]; omega, HC5.out.trans (Ext.chg (by repeat (first | exact Ext.refl _ | apply Ext.plus | apply Ext.alloc | apply Ext.drew)) _), HA5.out.ext (by repeat (first | exact Ext.refl _ | apply Ext.plus | apply Ext.alloc | apply Ext.drew))⟩
    · go_upto_region 4 with fail
      (refine wp_region_x 10 (by kernel_rfl) (by kernel_rfl) (by kernel_rfl) ?_; (iterate 10 (apply XReg.step; (case h => (intro w' hw'; obtain ⟨X', rfl⟩ := hw'; go_wp2_with (fail); exact ⟨rfl, (by repeat (first | exact Ext.refl _ | apply Ext.plus | apply Ext.alloc | apply Ext.drew))⟩)); (case hv => kernel_rfl))); refine XReg.doneN (fun X => ?_))
      go_wp2
      go_ret
      exact ⟨_, rfl, by simp only [ByteArray.size_append, hx1, hx2, hz1]; omega, HC4.out.trans (Ext.chg (by repeat (first | exact Ext.refl _ | apply Ext.plus | apply Ext.alloc | apply Ext.drew)) _), HA4.out.ext (by repeat (first | exact Ext.refl _ | apply Ext.plus | apply Ext.alloc | apply Ext.drew))⟩
set_option maxHeartbeats 800000 in
theorem srcPick6_any (g : Nat) (a b c d e1 f : ByteArray) (w0 w : World) (B : Nat) (cv : Value) (l : List Int) (h : SrcA w g cv l) (hB : Blk w B [.string a, .string b, .string c, .string d, .string e1, .string f] 9) (hBg : B ≠ g) (hm : ∀ x ∈ [a, b, c, d, e1, f], x.size ≤ 100) :
    Calls Tryd.prog 28 #[.pointer (some ⟨g, 0, none⟩), .slice (some ⟨B, 0, none⟩) 6 6] w fun e w' => ∃ s : ByteArray, e = .returned (.string s) ∧ s.size ≤ 100 ∧ Chg [g] w w' ∧ SrcA w' g cv l := by
  have HS := Lib.hid h
  have HB := Lib.hid hB
  have HM := Lib.hid hm
  have H6 : Hid (I64 6) := Lib.hid (by unfold I64; omega)
  clear h hB hm
  go_enter Tryd.func28, Tryd.ntmps28
  go_wp2_with fail
  refine (srcN' g 6 _ cv l HS.out H6.out).mono ?_
  rintro e w2 ⟨k, rfl, hb, hc, hs⟩
  have hk : k < 6 := by omega
  have HB2 := Lib.hid (HB.out.chg hc (by simpa using hBg))
  have HC := Lib.hid hc
  have HA := Lib.hid hs
  obtain ⟨s, hss, hsm⟩ : ∃ s : ByteArray, ([.string a, .string b, .string c, .string d, .string e1, .string f] : List Value)[k]? = some (.string s) ∧ s ∈ [a, b, c, d, e1, f] := by
    have : k = 0 ∨ k = 1 ∨ k = 2 ∨ k = 3 ∨ k = 4 ∨ k = 5 := by omega
    rcases this with rfl | rfl | rfl | rfl | rfl | rfl <;> exact ⟨_, rfl, by simp⟩
  have hc0 : w2.cell? ⟨B, k, none⟩ = some (.string s) := by rw [HB2.out.cell k]; exact hss
  have hbo := HB2.out.old
  have HSM := Lib.hid (HM.out s hsm)
  clear hc hs hb hss hsm
  go_wp2
  go_ret
  exact ⟨s, rfl, HSM.out, HC.out, HA.out⟩
end Go.Proofs.YtocadhcggkbimaaDoor
