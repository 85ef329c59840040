/- The walk of the reference's copy of a desk. -/
import Derived.Test.YtkekfncgpbileaaD15
import Derived.Test.YtkekfncgpbileaaD12
import Derived.Test.YtkekfncgpbileaaI4
set_option maxRecDepth 100000
set_option linter.unusedVariables false
namespace Go.Proofs.Ytkekfncgpbileaa
open Go.RowKit Go.Fin1

/-- A list of letters in blocks of its own from B on. -/
def kLtrO (B : Nat) (l : List Ltr) : XReg.Kind := fun v w => ∃ a c fp, v = .slice a l.length c ∧ Own B w oLetterS fp [.slice a l.length c] l
theorem kLtrO_good (B : Nat) {l : List Ltr} (hm : l.length ≤ maxLen) : XReg.GoodK (kLtrO B l) :=
  ⟨fun _ _ _ hx ⟨a, c, fp, hv, h⟩ => ⟨a, c, fp, hv, h.ext oLetterS_local oLetterS_held hx⟩, by
    obtain ⟨a, c, w', fp, h⟩ := own_ltr_new { (default : World) with heap := Array.replicate B (.cells #[] 0) } l hm
    exact ⟨_, w', a, c, fp, rfl, h.mono (by simp)⟩⟩
theorem kLtrO_in {B : Nat} {l : List Ltr} {w : World} {fp : List Nat} {v : Value} (h : Own B w oLetterS fp [v] l) : kLtrO B l v w := by
  obtain ⟨a, c, rfl⟩ := h.shape
  exact ⟨a, c, fp, rfl, h⟩
theorem kLtrO_out {B : Nat} {l : List Ltr} {w : World} {v : Value} (h : kLtrO B l v w) : ∃ fp, Own B w oLetterS fp [v] l := by
  obtain ⟨a, c, fp, rfl, h⟩ := h; exact ⟨fp, h⟩
/-- A fresh empty list of letters. -/
def kEmpY (B : Nat) : XReg.Kind := fun v w => ∃ g, v = .slice (some ⟨g, 0, none⟩) 0 0 ∧ Row B w 100 6 Ltr.cells v []
theorem kEmpY_in {W : World} {g B : Nat} (hg : g = W.heap.size) (hB : B ≤ W.heap.size) : kEmpY B (.slice (some ⟨g, 0, none⟩) 0 0) (W.alloc (.cells #[] 100)) := ⟨g, rfl, by subst hg; exact (Row.made W _ _ _).mono hB⟩
theorem kEmpY_good (B : Nat) : XReg.GoodK (kEmpY B) := ⟨fun _ _ _ hx ⟨g, hv, h⟩ => ⟨g, hv, h.ext hx⟩, _, _, kEmpY_in (W := { (default : World) with heap := Array.replicate B (.cells #[] 0) }) rfl (by simp)⟩
theorem kEmpY_r {B : Nat} {v : Value} {w : World} (h : kEmpY B v w) : Row B w 100 6 Ltr.cells v [] := by obtain ⟨_, _, h⟩ := h; exact h
/-- A desk whose lists lie in blocks of their own from B on. -/
def kDeskO (B : Nat) (d : Dk) : XReg.Kind := fun v w => ∃ a1 c1 a2 c2 a3 c3 f1 f2 f3, v = d.val (.slice a1 d.pairs.length c1) (.slice a2 d.box.length c2) (.slice a3 d.audit.length c3) ∧ Own B w oLetterS f1 [.slice a1 d.pairs.length c1] d.pairs ∧ Own B w oLetterS f2 [.slice a2 d.box.length c2] d.box ∧ Own B w oLetterS f3 [.slice a3 d.audit.length c3] d.audit
theorem kDeskO_out {B : Nat} {d : Dk} {w : World} {p b a : Value} (h : kDeskO B d (d.val p b a) w) : ∃ f1 f2 f3, Own B w oLetterS f1 [p] d.pairs ∧ Own B w oLetterS f2 [b] d.box ∧ Own B w oLetterS f3 [a] d.audit := by
  obtain ⟨a1, c1, a2, c2, a3, c3, f1, f2, f3, hv, h⟩ := h
  unfold Dk.val at hv
  simp at hv
  obtain ⟨rfl, rfl, rfl⟩ := hv
  exact ⟨f1, f2, f3, h⟩
theorem own_ltr_at (w : World) (xs : List Ltr) (hm : xs.length ≤ maxLen) : ∃ a c X fp, Own w.heap.size (w.plus X) oLetterS fp [.slice a xs.length c] xs := by
  obtain ⟨fp, h⟩ := Row.own (B := w.heap.size) (w := w.alloc (.cells (xs.flatMap Ltr.cells).toArray 100)) (ty := 100) (K := 6) (f := Ltr.cells) (v := .slice (some ⟨w.heap.size, 0, none⟩) xs.length xs.length) (xs := xs) (fun _ => rfl)
    ⟨flatMap_len (K := 6) (fun _ => rfl) xs, .inr ⟨w.heap.size, xs.length, _, rfl, Nat.le_refl _, heap_alloc_new w _, Nat.le_refl _, hm, (by have := flatMap_len (f := Ltr.cells) (K := 6) (fun _ => rfl) xs; simpa using this), by
      rw [List.take_of_length_le (Nat.le_of_eq (flatMap_len (f := Ltr.cells) (K := 6) (fun _ => rfl) xs))]⟩⟩
  obtain ⟨X, hX⟩ := (Ext.refl w).alloc (.cells (xs.flatMap Ltr.cells).toArray 100)
  rw [hX] at h
  exact ⟨_, _, X, fp, h⟩
theorem kDeskO_good (B : Nat) {d : Dk} (h1 : d.pairs.length ≤ maxLen) (h2 : d.box.length ≤ maxLen) (h3 : d.audit.length ≤ maxLen) : XReg.GoodK (kDeskO B d) :=
  ⟨fun _ _ _ hx ⟨a1, c1, a2, c2, a3, c3, f1, f2, f3, hv, o1, o2, o3⟩ => ⟨a1, c1, a2, c2, a3, c3, f1, f2, f3, hv, o1.ext oLetterS_local oLetterS_held hx, o2.ext oLetterS_local oLetterS_held hx, o3.ext oLetterS_local oLetterS_held hx⟩, by
    obtain ⟨a1, c1, X1, f1, o1⟩ := own_ltr_at { (default : World) with heap := Array.replicate B (.cells #[] 0) } d.pairs h1
    obtain ⟨a2, c2, X2, f2, o2⟩ := own_ltr_at (World.plus { (default : World) with heap := Array.replicate B (.cells #[] 0) } X1) d.box h2
    obtain ⟨a3, c3, X3, f3, o3⟩ := own_ltr_at ((World.plus { (default : World) with heap := Array.replicate B (.cells #[] 0) } X1).plus X2) d.audit h3
    exact ⟨_, _, a1, c1, a2, c2, a3, c3, f1, f2, f3, rfl, ((o1.plus oLetterS_local oLetterS_held X2).plus oLetterS_local oLetterS_held X3).mono (by simp), (o2.plus oLetterS_local oLetterS_held X3).mono (by simp), o3.mono (by simp; try omega)⟩⟩

set_option maxHeartbeats 1600000 in
theorem l06Copy_any (d : Dk) (v : Value) (w : World) (h : eDesk w v d) (hf : d.sz ≤ 1048576) :
    Calls Try.prog 65 #[v] w fun e w' => ∃ p b a f1 f2 f3, e = .returned (d.val p b a) ∧ Ext w w' ∧ Own w.heap.size w' oLetterS f1 [p] d.pairs ∧ Own w.heap.size w' oLetterS f2 [b] d.box ∧ Own w.heap.size w' oLetterS f3 [a] d.audit := by
  obtain ⟨a1, c1, a2, c2, a3, c3, rfl, z1, z2, h1, h2, h3⟩ := h
  have HZ : Hid (I64 d.used ∧ I64 d.now) := Lib.hid ⟨z1, z2⟩
  have H1 := Lib.hid h1
  have H2 := Lib.hid h2
  have H3 := Lib.hid h3
  clear h1 h2 h3 z1 z2
  have hg1 : d.pairs.length ≤ maxLen := by unfold Dk.sz at hf; unfold maxLen; omega
  have hg2 : d.box.length ≤ maxLen := by unfold Dk.sz at hf; unfold maxLen; omega
  have hg3 : d.audit.length ≤ maxLen := by unfold Dk.sz at hf; unfold maxLen; omega
  unfold Dk.val
  go_enter Try.func65, Try.ntmps65
  go_upto_region 1 with fail
  (refine wp_region_y 17 [kEmpY (w.heap.size + 1 + 1), (fun u _ => u = (.pointer (some ⟨w.heap.size, 0, none⟩))), (fun u _ => u = (.slice a1 d.pairs.length c1)), kLtrO (w.heap.size + 1 + 1) d.pairs, kEmpY (w.heap.size + 1 + 1), (fun u _ => u = (.pointer (some ⟨w.heap.size, 1, none⟩))), (fun u _ => u = (.slice a2 d.box.length c2)), kLtrO (w.heap.size + 1 + 1) d.box, kEmpY (w.heap.size + 1 + 1), (fun u _ => u = (.pointer (some ⟨w.heap.size, 2, none⟩))), (fun u _ => u = (.slice a3 d.audit.length c3)), kLtrO (w.heap.size + 1 + 1) d.audit, (fun u _ => u = (.pointer (some ⟨w.heap.size, 3, none⟩))), (fun u _ => u = (.int .i64 d.used)), (fun u _ => u = (.pointer (some ⟨w.heap.size, 4, none⟩))), (fun u _ => u = (.int .i64 d.now)), kDeskO (w.heap.size + 1 + 1) d] (by kernel_rfl) (by kernel_rfl) (by kernel_rfl) rfl ?_ (by (repeat' (first | exact trivial | exact XReg.GoodK.same _ default | refine And.intro ?_ ?_)); all_goals (first | exact kEmpY_good _ | exact kLtrO_good _ hg1 | exact kLtrO_good _ hg2 | exact kLtrO_good _ hg3 | exact kDeskO_good _ hg1 hg2 hg3)))
  refine YReg.kind (fun w' hw' hF' => ?_) (fun v w1 hK => ?_)
  · obtain ⟨X', rfl⟩ := hw'
    clear hF'
    go_wp2
    exact ⟨(by repeat (first | exact Ext.refl _ | apply Ext.plus | apply Ext.alloc | apply Ext.drew)), kEmpY_in (by simp) (by simp; try omega)⟩
  obtain ⟨g1, rfl, hs3⟩ := hK
  clear hs3 w1
  (apply YReg.val (.pointer (some ⟨w.heap.size, 0, none⟩)); (case h => (intro w' hw' hF'; obtain ⟨X', rfl⟩ := hw'; have HF' := Lib.hid hF'; clear hF'; go_wp2_with (fail); exact ⟨rfl, (by repeat (first | exact Ext.refl _ | apply Ext.plus | apply Ext.alloc | apply Ext.drew))⟩)); (case hv => kernel_rfl))
  (apply YReg.val (.slice a1 d.pairs.length c1); (case h => (intro w' hw' hF'; obtain ⟨X', rfl⟩ := hw'; have HF' := Lib.hid hF'; clear hF'; go_wp2_with (fail); exact ⟨rfl, (by repeat (first | exact Ext.refl _ | apply Ext.plus | apply Ext.alloc | apply Ext.drew))⟩)); (case hv => kernel_rfl))
  refine YReg.kind (fun w' hw' hF' => ?_) (fun v w1 hK => ?_)
  · obtain ⟨X', rfl⟩ := hw'
    have HE := Lib.hid (kEmpY_r (hF'.get 0 (p := (kEmpY (w.heap.size + 1 + 1), .slice (some ⟨g1, 0, none⟩) 0 0)) (by kernel_rfl) (by kernel_rfl)))
    clear hF'
    unfold Dk.sz at hf
    refine Row.appE (f := Ltr.cells) el_Letter rfl _ _ rfl g1 rfl _ d.pairs rfl (fun _ => rfl) (rLtr_rc (H1.out.ext rLtr_stable (by repeat (first | exact Ext.refl _ | apply Ext.plus | apply Ext.alloc | apply Ext.drew)))) ?_ ?_ ?_ (HE.out.mono (Nat.zero_le _)) ?_ ?_
    · intro x u hu
      simp [Ltr.cells] at hu
      rcases hu with rfl | rfl | rfl | rfl | rfl | rfl <;> rfl
    · unfold maxLen; omega
    · omega
    · intro hnil
      have H9 : Hid (kLtrO (w.heap.size + 1 + 1) d.pairs (.slice (some ⟨g1, 0, none⟩) 0 0) _) := Lib.hid (by
        obtain ⟨fp, hO⟩ := Row.own (f := Ltr.cells) (K := 6) (fun _ => rfl) HE.out
        rw [hnil]
        exact ⟨_, _, _, rfl, hO⟩)
      clear hnil
      go_wp2
      exact ⟨(by repeat (first | exact Ext.refl _ | apply Ext.plus | apply Ext.alloc | apply Ext.drew)), H9.out⟩
    · intro v' Y' hR
      obtain ⟨fp, hO⟩ := Row.own (f := Ltr.cells) (K := 6) (fun _ => rfl) hR
      have H9 := Lib.hid (kLtrO_in (hO.mono (B' := w.heap.size + 1 + 1) (by simp; try omega)))
      obtain ⟨a9, c9, rfl⟩ := hO.shape
      clear hO hR
      go_wp2
      exact ⟨(by repeat (first | exact Ext.refl _ | apply Ext.plus | apply Ext.alloc | apply Ext.drew)), H9.out⟩
  obtain ⟨b1, e1, fp9, rfl, hs3⟩ := hK
  clear hs3 w1 fp9
  refine YReg.kind (fun w' hw' hF' => ?_) (fun v w1 hK => ?_)
  · obtain ⟨X', rfl⟩ := hw'
    clear hF'
    go_wp2
    exact ⟨(by repeat (first | exact Ext.refl _ | apply Ext.plus | apply Ext.alloc | apply Ext.drew)), kEmpY_in (by simp) (by simp; try omega)⟩
  obtain ⟨g2, rfl, hs3⟩ := hK
  clear hs3 w1
  (apply YReg.val (.pointer (some ⟨w.heap.size, 1, none⟩)); (case h => (intro w' hw' hF'; obtain ⟨X', rfl⟩ := hw'; have HF' := Lib.hid hF'; clear hF'; go_wp2_with (fail); exact ⟨rfl, (by repeat (first | exact Ext.refl _ | apply Ext.plus | apply Ext.alloc | apply Ext.drew))⟩)); (case hv => kernel_rfl))
  (apply YReg.val (.slice a2 d.box.length c2); (case h => (intro w' hw' hF'; obtain ⟨X', rfl⟩ := hw'; have HF' := Lib.hid hF'; clear hF'; go_wp2_with (fail); exact ⟨rfl, (by repeat (first | exact Ext.refl _ | apply Ext.plus | apply Ext.alloc | apply Ext.drew))⟩)); (case hv => kernel_rfl))
  refine YReg.kind (fun w' hw' hF' => ?_) (fun v w1 hK => ?_)
  · obtain ⟨X', rfl⟩ := hw'
    have HE := Lib.hid (kEmpY_r (hF'.get 4 (p := (kEmpY (w.heap.size + 1 + 1), .slice (some ⟨g2, 0, none⟩) 0 0)) (by kernel_rfl) (by kernel_rfl)))
    clear hF'
    unfold Dk.sz at hf
    refine Row.appE (f := Ltr.cells) el_Letter rfl _ _ rfl g2 rfl _ d.box rfl (fun _ => rfl) (rLtr_rc (H2.out.ext rLtr_stable (by repeat (first | exact Ext.refl _ | apply Ext.plus | apply Ext.alloc | apply Ext.drew)))) ?_ ?_ ?_ (HE.out.mono (Nat.zero_le _)) ?_ ?_
    · intro x u hu
      simp [Ltr.cells] at hu
      rcases hu with rfl | rfl | rfl | rfl | rfl | rfl <;> rfl
    · unfold maxLen; omega
    · omega
    · intro hnil
      have H9 : Hid (kLtrO (w.heap.size + 1 + 1) d.box (.slice (some ⟨g2, 0, none⟩) 0 0) _) := Lib.hid (by
        obtain ⟨fp, hO⟩ := Row.own (f := Ltr.cells) (K := 6) (fun _ => rfl) HE.out
        rw [hnil]
        exact ⟨_, _, _, rfl, hO⟩)
      clear hnil
      go_wp2
      exact ⟨(by repeat (first | exact Ext.refl _ | apply Ext.plus | apply Ext.alloc | apply Ext.drew)), H9.out⟩
    · intro v' Y' hR
      obtain ⟨fp, hO⟩ := Row.own (f := Ltr.cells) (K := 6) (fun _ => rfl) hR
      have H9 := Lib.hid (kLtrO_in (hO.mono (B' := w.heap.size + 1 + 1) (by simp; try omega)))
      obtain ⟨a9, c9, rfl⟩ := hO.shape
      clear hO hR
      go_wp2
      exact ⟨(by repeat (first | exact Ext.refl _ | apply Ext.plus | apply Ext.alloc | apply Ext.drew)), H9.out⟩
  obtain ⟨b2, e2, fp9, rfl, hs3⟩ := hK
  clear hs3 w1 fp9
  refine YReg.kind (fun w' hw' hF' => ?_) (fun v w1 hK => ?_)
  · obtain ⟨X', rfl⟩ := hw'
    clear hF'
    go_wp2
    exact ⟨(by repeat (first | exact Ext.refl _ | apply Ext.plus | apply Ext.alloc | apply Ext.drew)), kEmpY_in (by simp) (by simp; try omega)⟩
  obtain ⟨g3, rfl, hs3⟩ := hK
  clear hs3 w1
  (apply YReg.val (.pointer (some ⟨w.heap.size, 2, none⟩)); (case h => (intro w' hw' hF'; obtain ⟨X', rfl⟩ := hw'; have HF' := Lib.hid hF'; clear hF'; go_wp2_with (fail); exact ⟨rfl, (by repeat (first | exact Ext.refl _ | apply Ext.plus | apply Ext.alloc | apply Ext.drew))⟩)); (case hv => kernel_rfl))
  (apply YReg.val (.slice a3 d.audit.length c3); (case h => (intro w' hw' hF'; obtain ⟨X', rfl⟩ := hw'; have HF' := Lib.hid hF'; clear hF'; go_wp2_with (fail); exact ⟨rfl, (by repeat (first | exact Ext.refl _ | apply Ext.plus | apply Ext.alloc | apply Ext.drew))⟩)); (case hv => kernel_rfl))
  refine YReg.kind (fun w' hw' hF' => ?_) (fun v w1 hK => ?_)
  · obtain ⟨X', rfl⟩ := hw'
    have HE := Lib.hid (kEmpY_r (hF'.get 8 (p := (kEmpY (w.heap.size + 1 + 1), .slice (some ⟨g3, 0, none⟩) 0 0)) (by kernel_rfl) (by kernel_rfl)))
    clear hF'
    unfold Dk.sz at hf
    refine Row.appE (f := Ltr.cells) el_Letter rfl _ _ rfl g3 rfl _ d.audit rfl (fun _ => rfl) (rLtr_rc (H3.out.ext rLtr_stable (by repeat (first | exact Ext.refl _ | apply Ext.plus | apply Ext.alloc | apply Ext.drew)))) ?_ ?_ ?_ (HE.out.mono (Nat.zero_le _)) ?_ ?_
    · intro x u hu
      simp [Ltr.cells] at hu
      rcases hu with rfl | rfl | rfl | rfl | rfl | rfl <;> rfl
    · unfold maxLen; omega
    · omega
    · intro hnil
      have H9 : Hid (kLtrO (w.heap.size + 1 + 1) d.audit (.slice (some ⟨g3, 0, none⟩) 0 0) _) := Lib.hid (by
        obtain ⟨fp, hO⟩ := Row.own (f := Ltr.cells) (K := 6) (fun _ => rfl) HE.out
        rw [hnil]
        exact ⟨_, _, _, rfl, hO⟩)
      clear hnil
      go_wp2
      exact ⟨(by repeat (first | exact Ext.refl _ | apply Ext.plus | apply Ext.alloc | apply Ext.drew)), H9.out⟩
    · intro v' Y' hR
      obtain ⟨fp, hO⟩ := Row.own (f := Ltr.cells) (K := 6) (fun _ => rfl) hR
      have H9 := Lib.hid (kLtrO_in (hO.mono (B' := w.heap.size + 1 + 1) (by simp; try omega)))
      obtain ⟨a9, c9, rfl⟩ := hO.shape
      clear hO hR
      go_wp2
      exact ⟨(by repeat (first | exact Ext.refl _ | apply Ext.plus | apply Ext.alloc | apply Ext.drew)), H9.out⟩
  obtain ⟨b3, e3, fp9, rfl, hs3⟩ := hK
  clear hs3 w1 fp9
  (apply YReg.val (.pointer (some ⟨w.heap.size, 3, none⟩)); (case h => (intro w' hw' hF'; obtain ⟨X', rfl⟩ := hw'; have HF' := Lib.hid hF'; clear hF'; go_wp2_with (fail); exact ⟨rfl, (by repeat (first | exact Ext.refl _ | apply Ext.plus | apply Ext.alloc | apply Ext.drew))⟩)); (case hv => kernel_rfl))
  (apply YReg.val (.int .i64 d.used); (case h => (intro w' hw' hF'; obtain ⟨X', rfl⟩ := hw'; have HF' := Lib.hid hF'; clear hF'; go_wp2_with (fail); exact ⟨rfl, (by repeat (first | exact Ext.refl _ | apply Ext.plus | apply Ext.alloc | apply Ext.drew))⟩)); (case hv => kernel_rfl))
  (apply YReg.val (.pointer (some ⟨w.heap.size, 4, none⟩)); (case h => (intro w' hw' hF'; obtain ⟨X', rfl⟩ := hw'; have HF' := Lib.hid hF'; clear hF'; go_wp2_with (fail); exact ⟨rfl, (by repeat (first | exact Ext.refl _ | apply Ext.plus | apply Ext.alloc | apply Ext.drew))⟩)); (case hv => kernel_rfl))
  (apply YReg.val (.int .i64 d.now); (case h => (intro w' hw' hF'; obtain ⟨X', rfl⟩ := hw'; have HF' := Lib.hid hF'; clear hF'; go_wp2_with (fail); exact ⟨rfl, (by repeat (first | exact Ext.refl _ | apply Ext.plus | apply Ext.alloc | apply Ext.drew))⟩)); (case hv => kernel_rfl))
  refine YReg.kind (fun w' hw' hF' => ?_) (fun v w1 hK => ?_)
  · obtain ⟨X', rfl⟩ := hw'
    obtain ⟨f1, K1⟩ := kLtrO_out (hF'.get 3 (p := (kLtrO (w.heap.size + 1 + 1) d.pairs, .slice b1 d.pairs.length e1)) (by kernel_rfl) (by kernel_rfl))
    obtain ⟨f2, K2⟩ := kLtrO_out (hF'.get 7 (p := (kLtrO (w.heap.size + 1 + 1) d.box, .slice b2 d.box.length e2)) (by kernel_rfl) (by kernel_rfl))
    obtain ⟨f3, K3⟩ := kLtrO_out (hF'.get 11 (p := (kLtrO (w.heap.size + 1 + 1) d.audit, .slice b3 d.audit.length e3)) (by kernel_rfl) (by kernel_rfl))
    have HK : Hid (kDeskO (w.heap.size + 1 + 1) d (.agg #[.slice b1 d.pairs.length e1, .slice b2 d.box.length e2, .slice b3 d.audit.length e3, (.int .i64 d.used), (.int .i64 d.now)]) _) := Lib.hid ⟨b1, e1, b2, e2, b3, e3, f1, f2, f3, rfl, K1, K2, K3⟩
    clear hF' K1 K2 K3
    go_wp2
    exact ⟨(by repeat (first | exact Ext.refl _ | apply Ext.plus | apply Ext.alloc | apply Ext.drew)), HK.out⟩
  obtain ⟨p1, q1, p2, q2, p3, q3, f1, f2, f3, rfl, hz1, hz2, hz3⟩ := hK
  clear hz1 hz2 hz3 w1 f1 f2 f3 hg1 hg2 hg3
  unfold Dk.val
  refine YReg.done1 (fun X hF => ?_)
  obtain ⟨f1, f2, f3, o1, o2, o3⟩ := kDeskO_out (hF 16 (kDeskO (w.heap.size + 1 + 1) d, d.val (.slice p1 d.pairs.length q1) (.slice p2 d.box.length q2) (.slice p3 d.audit.length q3)) (by kernel_rfl))
  have O1 := Lib.hid o1
  have O2 := Lib.hid o2
  have O3 := Lib.hid o3
  have I1 := Lib.hid (slr_ltrs H1.out)
  have I2 := Lib.hid (slr_ltrs H2.out)
  have I3 := Lib.hid (slr_ltrs H3.out)
  clear hF o1 o2 o3
  go_wp2
  refine bodyPost_ret (v := .agg #[.slice p1 d.pairs.length q1, .slice p2 d.box.length q2, .slice p3 d.audit.length q3, (.int .i64 d.used), (.int .i64 d.now)]) (by simp [results, Try.results65, go_sem]) rfl ⟨.slice p1 d.pairs.length q1, .slice p2 d.box.length q2, .slice p3 d.audit.length q3, f1, f2, f3, rfl, (by repeat' (first | (with_reducible exact Ext.refl _) | (with_reducible refine Ext.plus ?_ _) | (with_reducible refine Ext.alloc ?_ _) | (with_reducible refine Ext.setCell ?_ ?_ _) | (with_reducible refine Ext.drew ?_) | (with_reducible exact Nat.le_refl _) | (dsimp only; omega))), ?_, ?_, ?_⟩
  · exact (O1.out.swap oLetterS_local (by simp) (by simp)).mono (by omega)
  · exact (O2.out.swap oLetterS_local (by simp) (by simp)).mono (by omega)
  · exact (O3.out.swap oLetterS_local (by simp) (by simp)).mono (by omega)
end Go.Proofs.Ytkekfncgpbileaa
