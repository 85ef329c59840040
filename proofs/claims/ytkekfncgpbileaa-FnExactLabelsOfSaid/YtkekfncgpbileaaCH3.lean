/- LabelsOf's walks. -/
import Derived.Test.YtkekfncgpbileaaCG9
import Derived.Test.YtkekfncgpbileaaI4
set_option maxRecDepth 100000
set_option linter.unusedVariables false
namespace Go.Proofs.Ytkekfncgpbileaa
open Go.RowKit Go.Fin1
@[irreducible] def labsC (c : Cfg) : List Lab := if cfgR c = true then labsOf c.nodes else []
theorem labsC_yes {c : Cfg} (h : cfgR c = true) : labsC c = labsOf c.nodes := by unfold labsC; rw [if_pos h]
theorem labsC_no {c : Cfg} (h : cfgR c = false) : labsC c = [] := by unfold labsC; rw [h]; rfl
theorem labsC_R (c : Cfg) : ∀ x ∈ labsC c, labR x = true := fun x hx => by
  cases h : cfgR c
  · rw [labsC_no h] at hx; cases hx
  · rw [labsC_yes h] at hx; exact labsOf_labR hx
theorem labsC_ok (c : Cfg) : ∀ x ∈ labsC c, x.ok := fun x hx => lab_okR (labsC_R c x hx)
theorem labsC_len (c : Cfg) : (labsC c).length ≤ 32 := by
  cases h : cfgR c
  · rw [labsC_no h]; simp
  · rw [labsC_yes h]; unfold labsOf; exact labsN_len _ _
theorem cfgR_clear {c : Cfg} (h : cfgR c = true) : clearR c.nodes = true := by
  rw [cfgR_eq] at h
  simp only [Bool.and_eq_true] at h
  exact h.1.1.1.1
theorem labsC_has {c : Cfg} (h : cfgR c = true) (x : Lab) : hasL (labsC c) x = c.nodes.any (fun l => hasL l x) := by
  rw [labsC_yes h, Bool.eq_iff_iff, hasL_mem, labsOf_mem (clearR_labs (cfgR_clear h)), List.mem_flatten, List.any_eq_true]
  exact ⟨fun ⟨l, h1, h2⟩ => ⟨l, h1, hasL_mem.2 h2⟩, fun ⟨l, h1, h2⟩ => ⟨l, h1, hasL_mem.1 h2⟩⟩
theorem kLab_good {l : List Lab} (h : l.length ≤ maxLen) (hok : ∀ x ∈ l, x.ok) : XReg.GoodK (kSl 2 rLab l) := by
  obtain ⟨w', fy, cs, hx, ho, hl⟩ := canO_sl (ty := 35) (K := 2) (oFlat_local _) (oFlat_held _) (xs := l) (fun y _ => canO_flat (f := Lab.cells) (fun _ => rfl) y) h default
  obtain ⟨v, rfl⟩ : ∃ v, cs = [v] := List.length_eq_one_iff.1 hl
  exact kSl_good rLab_stable (own_lab_r ho hok)
theorem own_nilL (B : Nat) (w : World) : Own B w oLabelS [] [.slice none 0 0] [] := ⟨⟨_, rfl, .inl ⟨rfl, rfl, rfl⟩⟩, List.nodup_nil, fun b hb => by cases hb⟩
set_option maxHeartbeats 800000 in
theorem specLabelsOf_any (c : Cfg) (v : Value) (w : World) (h : eCfg w v c) :
    Calls Try.prog 56 #[v] w fun e w' => ∃ v' fp, e = .returned v' ∧ Ext w w' ∧ Own w.heap.size w' oLabelS fp [v'] (labsC c) := by
  have HC := Lib.hid h
  obtain ⟨a1, c1, a2, c2, a3, c3, rfl, hz, h1, h2, h3⟩ := h
  have H1 := Lib.hid h1
  clear h1 h2 h3 hz
  unfold Cfg.val at HC ⊢
  cases r : cfgR c
  · have HN := Lib.hid (labsC_no r)
    go_enter Try.func56, Try.ntmps56
    go_wp2_with (go_at_call 48; refine (specConfigRight_any c _ _ (HC.out.ext (by repeat (first | exact Ext.refl _ | apply Ext.plus | apply Ext.alloc | apply Ext.drew)))).mono ?_; rintro e _ ⟨rfl, Y, rfl⟩; rw [r])
    go_ret
    obtain ⟨fp, hO⟩ := Row.own (f := Lab.cells) (K := 2) (fun _ => rfl) (Row.madeB' (f := Lab.cells) (K := 2) (ty := 35) (W := (w.alloc (.cells #[.slice a1 c.nodes.length c1, .slice a2 c.pairs.length c2, .slice a3 c.quotas.length c3, (.int .i64 c.half)] 82)).plus Y) (B := w.heap.size) (b := w.heap.size + 1 + Y.n) (by simp) (by simp; omega))
    exact ⟨_, fp, rfl, (by repeat (first | exact Ext.refl _ | apply Ext.plus | apply Ext.alloc | apply Ext.drew)), by rw [HN.out]; exact hO⟩
  · have HN := Lib.hid (labsC_yes r)
    go_enter Try.func56, Try.ntmps56
    go_upto_region 3 with (go_at_call 48; refine (specConfigRight_any c _ _ (HC.out.ext (by repeat (first | exact Ext.refl _ | apply Ext.plus | apply Ext.alloc | apply Ext.drew)))).mono ?_; rintro e _ ⟨rfl, Y, rfl⟩; rw [r])
    go_wp2_with fail
    refine (l09Labels_any c.nodes _ _ (H1.out.ext rLabS_stable (by repeat (first | exact Ext.refl _ | apply Ext.plus | apply Ext.alloc | apply Ext.drew)))).mono ?_
    rintro e _ ⟨v', rfl, ⟨X, rfl⟩, hR⟩
    obtain ⟨fp, hO⟩ := Row.own (f := Lab.cells) (K := 2) (fun _ => rfl) hR
    have HO := Lib.hid (hO.mono (B' := w.heap.size) (by simp; omega))
    clear hO hR
    go_wp2
    go_ret
    exact ⟨_, fp, rfl, (by repeat (first | exact Ext.refl _ | apply Ext.plus | apply Ext.alloc | apply Ext.drew)), by rw [HN.out]; exact HO.out⟩
set_option maxHeartbeats 800000 in
theorem implLabelsOf_any (c : Cfg) (v : Value) (w : World) (h : eCfg w v c) :
    Calls Try.prog 57 #[v] w fun e w' => ∃ v' fp, e = .returned v' ∧ Ext w w' ∧ Own w.heap.size w' oLabelS fp [v'] (labsC c) := by
  have HC := Lib.hid h
  obtain ⟨a1, c1, a2, c2, a3, c3, rfl, hz, h1, h2, h3⟩ := h
  clear h1 h2 h3 hz
  unfold Cfg.val at HC ⊢
  cases r : cfgR c
  · have HN := Lib.hid (labsC_no r)
    go_enter Try.func57, Try.ntmps57
    go_wp2_with (go_at_call 50; refine (implConfigRight_any c _ _ (HC.out.ext (by repeat (first | exact Ext.refl _ | apply Ext.plus | apply Ext.alloc | apply Ext.drew)))).mono ?_; rintro e _ ⟨rfl, Y, rfl⟩; rw [r])
    go_ret
    exact ⟨_, [], rfl, (by repeat (first | exact Ext.refl _ | apply Ext.plus | apply Ext.alloc | apply Ext.drew)), by rw [HN.out]; exact own_nilL _ _⟩
  · have HN := Lib.hid (labsC_yes r)
    have HR := Lib.hid (cfgR_clear r)
    go_enter Try.func57, Try.ntmps57
    go_upto_region 3 with (go_at_call 50; refine (implConfigRight_any c _ _ (HC.out.ext (by repeat (first | exact Ext.refl _ | apply Ext.plus | apply Ext.alloc | apply Ext.drew)))).mono ?_; rintro e _ ⟨rfl, Y, rfl⟩; rw [r])
    go_wp2_with fail
    refine (cfgLabels_any c _ _ (HC.out.ext (by repeat (first | exact Ext.refl _ | apply Ext.plus | apply Ext.alloc | apply Ext.drew))) HR.out).mono ?_
    rintro e _ ⟨v', fp, rfl, ⟨X, rfl⟩, hO⟩
    have HO := Lib.hid (hO.mono (B' := w.heap.size) (by simp; omega))
    clear hO
    go_wp2
    go_ret
    exact ⟨_, fp, rfl, (by repeat (first | exact Ext.refl _ | apply Ext.plus | apply Ext.alloc | apply Ext.drew)), by rw [HN.out]; exact HO.out⟩
end Go.Proofs.Ytkekfncgpbileaa
