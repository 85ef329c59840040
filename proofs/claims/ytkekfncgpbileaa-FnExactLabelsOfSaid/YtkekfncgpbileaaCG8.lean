/- ConfigRight: both walks. -/
import Derived.Test.YtkekfncgpbileaaCG3
import Derived.Test.YtkekfncgpbileaaCG4
import Derived.Test.YtkekfncgpbileaaCG5
import Derived.Test.YtkekfncgpbileaaCG6
import Derived.Test.YtkekfncgpbileaaCG7
set_option maxRecDepth 100000
set_option linter.unusedVariables false
namespace Go.Proofs.Ytkekfncgpbileaa
open Go.RowKit Go.Fin1
theorem cfgR_eq (c : Cfg) : cfgR c = (clearR c.nodes && isIn c.half 1 9 && decide ((labsOf c.nodes).length ≤ 8) && prsR (labsOf c.nodes) c.pairs && qusR (labsOf c.nodes) c.quotas) := by unfold cfgR; rfl
theorem lab_okR {x : Lab} (h : labR x = true) : x.ok := by
  unfold labR at h
  rw [Bool.and_eq_true, isIn_iff, isIn_iff] at h
  unfold Lab.ok I64; omega
theorem row_lab {B : Nat} {w : World} {v : Value} {l : List Lab} (h : Row B w 35 2 Lab.cells v l) (hl : ∀ x ∈ l, x.ok) : SlR w 2 rLab v l := by
  obtain ⟨fp, hO⟩ := Row.own (f := Lab.cells) (K := 2) (fun _ => rfl) h
  exact own_lab_r hO hl
set_option maxHeartbeats 3200000 in
theorem implConfigRight_any (c : Cfg) (v : Value) (w : World) (h : eCfg w v c) :
    Calls Try.prog 50 #[v] w fun e w' => e = .returned (.bool (cfgR c)) ∧ Ext w w' := by
  have HC := Lib.hid h
  have HQ := Lib.hid (cfgR_eq c)
  obtain ⟨a1, c1, a2, c2, a3, c3, rfl, hz, h1, h2, h3⟩ := h
  have H1 := Lib.hid h1
  clear hz h1 h2 h3
  unfold Cfg.val at HC ⊢
  cases r1 : clearR c.nodes
  · have HN : Hid (cfgR c = false) := Lib.hid (by rw [HQ.out, r1]; rfl)
    go_enter Try.func50, Try.ntmps50
    go_wp2_with (first | (go_at_call 117; refine (clearRight_any _ c.nodes _ (H1.out.ext rLabS_stable (by repeat (first | exact Ext.refl _ | apply Ext.plus | apply Ext.alloc | apply Ext.drew)))).mono ?_; rintro e _ ⟨rfl, Y, rfl⟩; rw [r1]) | (go_at_call 81; refine (within_any _ _ _ _).mono ?_; rintro e _ ⟨rfl, rfl⟩; rw [r2]))
    go_ret
    exact ⟨ret_bool HN.out.symm, (by repeat (first | exact Ext.refl _ | apply Ext.plus | apply Ext.alloc | apply Ext.drew))⟩
  cases r2 : isIn c.half 1 9
  · have HN : Hid (cfgR c = false) := Lib.hid (by rw [HQ.out, r1, r2]; rfl)
    go_enter Try.func50, Try.ntmps50
    go_wp2_with (first | (go_at_call 117; refine (clearRight_any _ c.nodes _ (H1.out.ext rLabS_stable (by repeat (first | exact Ext.refl _ | apply Ext.plus | apply Ext.alloc | apply Ext.drew)))).mono ?_; rintro e _ ⟨rfl, Y, rfl⟩; rw [r1]) | (go_at_call 81; refine (within_any _ _ _ _).mono ?_; rintro e _ ⟨rfl, rfl⟩; rw [r2]))
    go_ret
    exact ⟨ret_bool HN.out.symm, (by repeat (first | exact Ext.refl _ | apply Ext.plus | apply Ext.alloc | apply Ext.drew))⟩
  have HO : Hid (∀ x ∈ labsOf c.nodes, x.ok) := Lib.hid (fun x hx => lab_okR (labsOf_labR hx))
  go_enter Try.func50, Try.ntmps50
  go_upto_region 3 with (first | (go_at_call 117; refine (clearRight_any _ c.nodes _ (H1.out.ext rLabS_stable (by repeat (first | exact Ext.refl _ | apply Ext.plus | apply Ext.alloc | apply Ext.drew)))).mono ?_; rintro e _ ⟨rfl, Y, rfl⟩; rw [r1]) | (go_at_call 81; refine (within_any _ _ _ _).mono ?_; rintro e _ ⟨rfl, rfl⟩; rw [r2]))
  go_wp2_with fail
  refine (cfgLabels_any c _ _ (HC.out.ext (by repeat (first | exact Ext.refl _ | apply Ext.plus | apply Ext.alloc | apply Ext.drew))) r1).mono ?_
  rintro e _ ⟨v', fp, rfl, ⟨X, rfl⟩, hO⟩
  have HL := Lib.hid (own_lab_r hO HO.out)
  obtain ⟨a, k, rfl⟩ := hO.shape
  clear hO
  by_cases h8 : (labsOf c.nodes).length ≤ 8
  · have hb8 : decide (((labsOf c.nodes).length : Int) ≤ 8) = true := decide_eq_true (by omega)
    cases r3 : prsR (labsOf c.nodes) c.pairs
    · have HN : Hid (cfgR c = false) := Lib.hid (by rw [HQ.out, r3]; simp)
      go_wp2_with (first | (go_at_call 119; refine (pairsOf_any c (labsOf c.nodes) _ _ _ (HC.out.ext (by repeat (first | exact Ext.refl _ | apply Ext.plus | apply Ext.alloc | apply Ext.drew))) (HL.out.ext rLab_stable (by repeat (first | exact Ext.refl _ | apply Ext.plus | apply Ext.alloc | apply Ext.drew)))).mono ?_; rintro e _ ⟨rfl, Y, rfl⟩; rw [r3]) | (go_at_call 120; refine (quotasOf_any c (labsOf c.nodes) _ _ _ (HC.out.ext (by repeat (first | exact Ext.refl _ | apply Ext.plus | apply Ext.alloc | apply Ext.drew))) (HL.out.ext rLab_stable (by repeat (first | exact Ext.refl _ | apply Ext.plus | apply Ext.alloc | apply Ext.drew)))).mono ?_; rintro e _ ⟨rfl, Y, rfl⟩; rw [r4]))
      go_ret
      exact ⟨ret_bool HN.out.symm, (by repeat (first | exact Ext.refl _ | apply Ext.plus | apply Ext.alloc | apply Ext.drew))⟩
    cases r4 : qusR (labsOf c.nodes) c.quotas
    · have HN : Hid (cfgR c = false) := Lib.hid (by rw [HQ.out, r4]; simp)
      go_wp2_with (first | (go_at_call 119; refine (pairsOf_any c (labsOf c.nodes) _ _ _ (HC.out.ext (by repeat (first | exact Ext.refl _ | apply Ext.plus | apply Ext.alloc | apply Ext.drew))) (HL.out.ext rLab_stable (by repeat (first | exact Ext.refl _ | apply Ext.plus | apply Ext.alloc | apply Ext.drew)))).mono ?_; rintro e _ ⟨rfl, Y, rfl⟩; rw [r3]) | (go_at_call 120; refine (quotasOf_any c (labsOf c.nodes) _ _ _ (HC.out.ext (by repeat (first | exact Ext.refl _ | apply Ext.plus | apply Ext.alloc | apply Ext.drew))) (HL.out.ext rLab_stable (by repeat (first | exact Ext.refl _ | apply Ext.plus | apply Ext.alloc | apply Ext.drew)))).mono ?_; rintro e _ ⟨rfl, Y, rfl⟩; rw [r4]))
      go_ret
      exact ⟨ret_bool HN.out.symm, (by repeat (first | exact Ext.refl _ | apply Ext.plus | apply Ext.alloc | apply Ext.drew))⟩
    · have HN : Hid (cfgR c = true) := Lib.hid (by rw [HQ.out, r1, r2, r3, r4, decide_eq_true h8]; rfl)
      go_wp2_with (first | (go_at_call 119; refine (pairsOf_any c (labsOf c.nodes) _ _ _ (HC.out.ext (by repeat (first | exact Ext.refl _ | apply Ext.plus | apply Ext.alloc | apply Ext.drew))) (HL.out.ext rLab_stable (by repeat (first | exact Ext.refl _ | apply Ext.plus | apply Ext.alloc | apply Ext.drew)))).mono ?_; rintro e _ ⟨rfl, Y, rfl⟩; rw [r3]) | (go_at_call 120; refine (quotasOf_any c (labsOf c.nodes) _ _ _ (HC.out.ext (by repeat (first | exact Ext.refl _ | apply Ext.plus | apply Ext.alloc | apply Ext.drew))) (HL.out.ext rLab_stable (by repeat (first | exact Ext.refl _ | apply Ext.plus | apply Ext.alloc | apply Ext.drew)))).mono ?_; rintro e _ ⟨rfl, Y, rfl⟩; rw [r4]))
      go_ret
      exact ⟨ret_bool HN.out.symm, (by repeat (first | exact Ext.refl _ | apply Ext.plus | apply Ext.alloc | apply Ext.drew))⟩
  · have hb8 : decide (((labsOf c.nodes).length : Int) ≤ 8) = false := decide_eq_false (by omega)
    have HN : Hid (cfgR c = false) := Lib.hid (by rw [HQ.out, decide_eq_false h8]; simp)
    go_wp2_with fail
    go_ret
    exact ⟨ret_bool HN.out.symm, (by repeat (first | exact Ext.refl _ | apply Ext.plus | apply Ext.alloc | apply Ext.drew))⟩
set_option maxHeartbeats 3200000 in
theorem specConfigRight_any (c : Cfg) (v : Value) (w : World) (h : eCfg w v c) :
    Calls Try.prog 48 #[v] w fun e w' => e = .returned (.bool (cfgR c)) ∧ Ext w w' := by
  have HQ := Lib.hid (cfgR_eq c)
  obtain ⟨a1, c1, a2, c2, a3, c3, rfl, hz, h1, h2, h3⟩ := h
  have H1 := Lib.hid h1
  have H2 := Lib.hid h2
  have H3 := Lib.hid h3
  clear hz h1 h2 h3
  unfold Cfg.val
  cases r1 : clearR c.nodes
  · have HN : Hid (cfgR c = false) := Lib.hid (by rw [HQ.out, r1]; rfl)
    go_enter Try.func48, Try.ntmps48
    go_wp2_with (first | (go_at_call 110; refine (l05Clear_any _ c.nodes _ (H1.out.ext rLabS_stable (by repeat (first | exact Ext.refl _ | apply Ext.plus | apply Ext.alloc | apply Ext.drew)))).mono ?_; rintro e _ ⟨rfl, Y, rfl⟩; rw [r1]) | (go_at_call 63; refine (l02Is_any _ _ _ _).mono ?_; rintro e _ ⟨rfl, rfl⟩; rw [r2]))
    go_ret
    exact ⟨ret_bool HN.out.symm, (by repeat (first | exact Ext.refl _ | apply Ext.plus | apply Ext.alloc | apply Ext.drew))⟩
  cases r2 : isIn c.half 1 9
  · have HN : Hid (cfgR c = false) := Lib.hid (by rw [HQ.out, r1, r2]; rfl)
    go_enter Try.func48, Try.ntmps48
    go_wp2_with (first | (go_at_call 110; refine (l05Clear_any _ c.nodes _ (H1.out.ext rLabS_stable (by repeat (first | exact Ext.refl _ | apply Ext.plus | apply Ext.alloc | apply Ext.drew)))).mono ?_; rintro e _ ⟨rfl, Y, rfl⟩; rw [r1]) | (go_at_call 63; refine (l02Is_any _ _ _ _).mono ?_; rintro e _ ⟨rfl, rfl⟩; rw [r2]))
    go_ret
    exact ⟨ret_bool HN.out.symm, (by repeat (first | exact Ext.refl _ | apply Ext.plus | apply Ext.alloc | apply Ext.drew))⟩
  have HR : Hid (∀ x ∈ labsOf c.nodes, labR x = true) := Lib.hid (fun x hx => labsOf_labR hx)
  go_enter Try.func48, Try.ntmps48
  go_upto_region 3 with (first | (go_at_call 110; refine (l05Clear_any _ c.nodes _ (H1.out.ext rLabS_stable (by repeat (first | exact Ext.refl _ | apply Ext.plus | apply Ext.alloc | apply Ext.drew)))).mono ?_; rintro e _ ⟨rfl, Y, rfl⟩; rw [r1]) | (go_at_call 63; refine (l02Is_any _ _ _ _).mono ?_; rintro e _ ⟨rfl, rfl⟩; rw [r2]))
  go_wp2_with fail
  refine (l09Labels_any c.nodes _ _ (H1.out.ext rLabS_stable (by repeat (first | exact Ext.refl _ | apply Ext.plus | apply Ext.alloc | apply Ext.drew)))).mono ?_
  rintro e _ ⟨v', rfl, ⟨X, rfl⟩, hO⟩
  have HL := Lib.hid (row_lab hO (fun x hx => lab_okR (HR.out x hx)))
  obtain ⟨a, k, rfl⟩ := hO.shape
  clear hO
  by_cases h8 : (labsOf c.nodes).length ≤ 8
  · have hb8 : decide (((labsOf c.nodes).length : Int) ≤ 8) = true := decide_eq_true (by omega)
    cases r3 : prsR (labsOf c.nodes) c.pairs
    · have HN : Hid (cfgR c = false) := Lib.hid (by rw [HQ.out, r3]; simp)
      go_wp2_with (first | (go_at_call 112; refine (l09Pairs_any (labsOf c.nodes) c.pairs _ _ _ (H2.out.ext rPrr_stable (by repeat (first | exact Ext.refl _ | apply Ext.plus | apply Ext.alloc | apply Ext.drew))) (HL.out.ext rLab_stable (by repeat (first | exact Ext.refl _ | apply Ext.plus | apply Ext.alloc | apply Ext.drew)))).mono ?_; rintro e _ ⟨rfl, Y, rfl⟩; rw [r3]) | (go_at_call 113; refine (l09Quotas_any (labsOf c.nodes) c.quotas _ _ _ (H3.out.ext rQuo_stable (by repeat (first | exact Ext.refl _ | apply Ext.plus | apply Ext.alloc | apply Ext.drew))) (HL.out.ext rLab_stable (by repeat (first | exact Ext.refl _ | apply Ext.plus | apply Ext.alloc | apply Ext.drew))) HR.out h8).mono ?_; rintro e _ ⟨rfl, Y, rfl⟩; rw [r4]))
      go_ret
      exact ⟨ret_bool HN.out.symm, (by repeat (first | exact Ext.refl _ | apply Ext.plus | apply Ext.alloc | apply Ext.drew))⟩
    cases r4 : qusR (labsOf c.nodes) c.quotas
    · have HN : Hid (cfgR c = false) := Lib.hid (by rw [HQ.out, r4]; simp)
      go_wp2_with (first | (go_at_call 112; refine (l09Pairs_any (labsOf c.nodes) c.pairs _ _ _ (H2.out.ext rPrr_stable (by repeat (first | exact Ext.refl _ | apply Ext.plus | apply Ext.alloc | apply Ext.drew))) (HL.out.ext rLab_stable (by repeat (first | exact Ext.refl _ | apply Ext.plus | apply Ext.alloc | apply Ext.drew)))).mono ?_; rintro e _ ⟨rfl, Y, rfl⟩; rw [r3]) | (go_at_call 113; refine (l09Quotas_any (labsOf c.nodes) c.quotas _ _ _ (H3.out.ext rQuo_stable (by repeat (first | exact Ext.refl _ | apply Ext.plus | apply Ext.alloc | apply Ext.drew))) (HL.out.ext rLab_stable (by repeat (first | exact Ext.refl _ | apply Ext.plus | apply Ext.alloc | apply Ext.drew))) HR.out h8).mono ?_; rintro e _ ⟨rfl, Y, rfl⟩; rw [r4]))
      go_ret
      exact ⟨ret_bool HN.out.symm, (by repeat (first | exact Ext.refl _ | apply Ext.plus | apply Ext.alloc | apply Ext.drew))⟩
    · have HN : Hid (cfgR c = true) := Lib.hid (by rw [HQ.out, r1, r2, r3, r4, decide_eq_true h8]; rfl)
      go_wp2_with (first | (go_at_call 112; refine (l09Pairs_any (labsOf c.nodes) c.pairs _ _ _ (H2.out.ext rPrr_stable (by repeat (first | exact Ext.refl _ | apply Ext.plus | apply Ext.alloc | apply Ext.drew))) (HL.out.ext rLab_stable (by repeat (first | exact Ext.refl _ | apply Ext.plus | apply Ext.alloc | apply Ext.drew)))).mono ?_; rintro e _ ⟨rfl, Y, rfl⟩; rw [r3]) | (go_at_call 113; refine (l09Quotas_any (labsOf c.nodes) c.quotas _ _ _ (H3.out.ext rQuo_stable (by repeat (first | exact Ext.refl _ | apply Ext.plus | apply Ext.alloc | apply Ext.drew))) (HL.out.ext rLab_stable (by repeat (first | exact Ext.refl _ | apply Ext.plus | apply Ext.alloc | apply Ext.drew))) HR.out h8).mono ?_; rintro e _ ⟨rfl, Y, rfl⟩; rw [r4]))
      go_ret
      exact ⟨ret_bool HN.out.symm, (by repeat (first | exact Ext.refl _ | apply Ext.plus | apply Ext.alloc | apply Ext.drew))⟩
  · have hb8 : decide (((labsOf c.nodes).length : Int) ≤ 8) = false := decide_eq_false (by omega)
    have HN : Hid (cfgR c = false) := Lib.hid (by rw [HQ.out, decide_eq_false h8]; simp)
    go_wp2_with fail
    go_ret
    exact ⟨ret_bool HN.out.symm, (by repeat (first | exact Ext.refl _ | apply Ext.plus | apply Ext.alloc | apply Ext.drew))⟩
end Go.Proofs.Ytkekfncgpbileaa
