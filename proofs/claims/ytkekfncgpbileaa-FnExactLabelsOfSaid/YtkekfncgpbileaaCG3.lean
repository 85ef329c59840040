/- impl: the labels of a configuration; its pairs. -/
import Derived.Test.YtkekfncgpbileaaCG2
import Derived.Test.YtkekfncgpbileaaSC
import Derived.Test.YtkekfncgpbileaaCA
import Derived.Test.YtkekfncgpbileaaCP
import Derived.Test.YtkekfncgpbileaaP2
import Derived.Test.YtkekfncgpbileaaW2
set_option maxRecDepth 100000
set_option linter.unusedVariables false
namespace Go.Proofs.Ytkekfncgpbileaa
open Go.RowKit Go.Fin1
theorem labsOf_ok {cl : List (List Lab)} : ∀ x ∈ labsOf cl, x.ok := fun x hx => by
  have h := labsOf_labR hx
  unfold labR at h
  rw [Bool.and_eq_true, isIn_iff, isIn_iff] at h
  exact ⟨by unfold I64; omega, by unfold I64; omega⟩
theorem own_lab_r {B : Nat} {w : World} {fp : List Nat} {v : Value} {l : List Lab} (h : Own B w oLabelS fp [v] l) (hok : ∀ x ∈ l, x.ok) : SlR w 2 rLab v l :=
  slr_with (oFl_reads (f := Lab.cells) (fun _ => rfl) h.1) fun cs x hm hc => ⟨hc, hok x hm⟩
theorem row_someC {α : Type} {B : Nat} {w : World} {ty K : Nat} {f : α → List Value} {v : Value} {xs : List α} (h : Row B w ty K f v xs) (h0 : 0 < xs.length) : ∃ g cap, v = .slice (some ⟨g, 0, none⟩) xs.length cap ∧ B ≤ g := by
  rcases h.2 with ⟨_, h1⟩ | ⟨g, cap, cur, rfl, hb, _⟩
  · omega
  · exact ⟨g, cap, rfl, hb⟩
set_option maxHeartbeats 1600000 in
theorem cfgLabels_any (c : Cfg) (v : Value) (w : World) (h : eCfg w v c) (hr : clearR c.nodes = true) :
    Calls Try.prog 118 #[v] w fun e w' => ∃ v' fp, e = .returned v' ∧ Ext w w' ∧ Own w.heap.size w' oLabelS fp [v'] (labsOf c.nodes) := by
  obtain ⟨a1, c1, a2, c2, a3, c3, rfl, hz, h1, h2, h3⟩ := h
  have H1 := Lib.hid h1
  obtain ⟨hb1, hb2⟩ := clearR_bd hr
  have hfl := flat_len (n := 4) (fun l hl => (hb2 l hl).2)
  have hf0 : 0 < c.nodes.flatten.length := by
    obtain ⟨x, l, hx⟩ : ∃ x l, c.nodes = x :: l := by
      cases e : c.nodes with
      | nil => rw [e] at hb1; simp at hb1
      | cons x l => exact ⟨x, l, rfl⟩
    have := (hb2 x (by rw [hx]; simp)).1
    rw [hx, List.flatten_cons, List.length_append]; omega
  have HR := Lib.hid hr
  have HB := Lib.hid hb2
  have hfb : c.nodes.flatten.length ≤ 1048576 := by omega
  have hnb : c.nodes.length ≤ 1048576 := by omega
  clear h1 h2 h3 hz hb2 hfl hr
  unfold Cfg.val
  go_enter Try.func118, Try.ntmps118
  go_wp2_with fail
  refine (concatLab_any _ c.nodes _ (H1.out.ext rLabS_stable (by repeat (first | exact Ext.refl _ | apply Ext.plus | apply Ext.alloc | apply Ext.drew))) hnb hfb (fun l hl => (HB.out l hl).1)).mono ?_
  rintro e _ ⟨v1, rfl, ⟨X, rfl⟩, hR⟩
  obtain ⟨F, hF⟩ : ∃ F, F = c.nodes.flatten := ⟨_, rfl⟩
  rw [← hF] at hR hf0 hfb
  have HF := Lib.hid hF
  clear hF
  obtain ⟨g, cap, rfl, hBg⟩ := row_someC hR hf0
  have HRR := Lib.hid (hR.mono (B' := w.heap.size) (by simp))
  have HBg : Hid (w.heap.size ≤ g) := Lib.hid (by simp at hBg; omega)
  have HF0 := Lib.hid hf0
  clear hR hBg hb1 hf0
  go_wp2_with fail
  refine (sortLab_any w.heap.size g F.length cap F _ HRR.out hfb).mono ?_
  rintro e w2 ⟨l', rfl, hm, hs, hl, hc, hR2⟩
  have HC := Lib.hid hc
  rw [HF.out] at hm
  have HM := Lib.hid (comp_labs HR.out hm hs)
  have HL := Lib.hid hl
  obtain ⟨fp, hO⟩ := Row.own (f := Lab.cells) (K := 2) (fun _ => rfl) hR2
  rw [← hl] at hO
  have HO := Lib.hid hO
  have H0 : Hid (0 < l'.length) := Lib.hid (by rw [hl]; exact HF0.out)
  clear hm hs hl hc hR2 hO
  go_wp2_with fail
  rw [← HL.out]
  refine (compactLab_any w.heap.size g cap l'.length fp l' _ HO.out H0.out).mono ?_
  rintro e w3 ⟨k, fp', rfl, hc3, hO3⟩
  rw [HM.out] at hO3
  have HO3 := Lib.hid hO3
  have HC3 := Lib.hid hc3
  clear hc3 hO3
  go_wp2
  go_ret
  exact ⟨_, fp', rfl, (HC.out.trans HC3.out).ext (by repeat (first | exact Ext.refl _ | apply Ext.plus | apply Ext.alloc | apply Ext.drew)) (fun x hx => by rw [List.mem_singleton.1 hx]; exact HBg.out), HO3.out⟩
end Go.Proofs.Ytkekfncgpbileaa
