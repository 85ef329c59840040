/- The walks of copyDesk, NextTime. -/
import Derived.Test.YtkekfncgpbileaaBG
import Derived.Test.YtkekfncgpbileaaD13
import Derived.Test.YtkekfncgpbileaaD6
import Derived.Lib.SliceRun
set_option maxRecDepth 100000
set_option linter.unusedVariables false
namespace Go.Proofs.Ytkekfncgpbileaa
open Go.RowKit Go.Fin1

set_option maxHeartbeats 800000 in
theorem cloneLtr_any (v : Value) (l : List Ltr) (w : World) (h : SlR w 6 (rc Ltr.cells) v l) (hl : l.length ≤ 1048576) :
    Calls Try.prog 133 #[v] w fun e w' => ∃ v', e = .returned v' ∧ Ext w w' ∧ Row w.heap.size w' 100 6 Ltr.cells v' l := by
  obtain ⟨ad, cap, rfl⟩ := h.len
  have q22 : ∀ (w : World) (a : Option Addr) (n c n' c' : Nat), (binOp .eql 28 (.slice a n c) (.slice none n' c')).run Try.prog w = .ok (.bool a.isNone) w := fun w a n c n' c' => Lib.run_eql_slice_nil w _ _ a n c n' c' (show Try.prog.underlying 28 = some (.slice 100) by kernel_rfl)
  have HS := Lib.hid h
  cases ad with
  | none =>
    have h0 : l = [] := by
      cases l with
      | nil => rfl
      | cons x l => obtain ⟨b, off, he⟩ := slr_some h (Nat.zero_lt_succ _); cases he
    subst h0
    clear h
    go_enter Try.func133, Try.ntmps133
    go_wp2
    go_ret
    exact ⟨_, rfl, (by repeat (first | exact Ext.refl _ | apply Ext.plus | apply Ext.alloc | apply Ext.drew)), Row.nil _ _ _ _ _⟩
  | some ad =>
    have HC := Lib.hid (slr_flat (f := Ltr.cells) (K := 6) (fun _ => rfl) h)
    clear h
    go_enter Try.func133, Try.ntmps133
    go_wp2_with (at_builtin; go_must (refine Row.appS (f := Ltr.cells) el_Letter rfl _ _ rfl w (by repeat (first | exact Ext.refl _ | apply Ext.plus | apply Ext.alloc | apply Ext.drew)) _ _ rfl (Row.made _ _ _ _) ad l.length cap l rfl rfl (fun _ => rfl) ?_ ?_ ?_ ?_ ?_); (exact fun j u hu => Ext.cellA (by repeat (first | exact Ext.refl _ | apply Ext.plus | apply Ext.alloc | apply Ext.drew)) (HC.out j u hu)); (intro u hu; obtain ⟨x, _, hx⟩ := List.mem_flatMap.1 hu; simp [Ltr.cells] at hx; first | (rcases hx with rfl | rfl <;> rfl) | (subst hx; rfl) | (rcases hx with rfl | rfl | rfl <;> rfl) | (rcases hx with rfl | rfl | rfl | rfl | rfl | rfl <;> rfl)); (unfold maxLen; simp; omega); (simp; omega); intro v' X' hown' hne; have HO' := Lib.hid hown'; clear hown' hne)
    go_ret
    exact ⟨_, rfl, (by repeat (first | exact Ext.refl _ | apply Ext.plus | apply Ext.alloc | apply Ext.drew)), by have := HO'.out; simpa using this⟩

theorem rLtr_rc {w : World} {v : Value} {l : List Ltr} (h : SlR w 6 rLtr v l) : SlR w 6 (rc Ltr.cells) v l := slr_with h fun _ _ _ hr => hr.1

/-- A list of letters in blocks of its own, made by one operation. -/
def kLtrN (B : Nat) (l : List Ltr) (x : Nat × Nat) : XReg.Kind := fun v w => ∃ a c fp, v = .slice a l.length c ∧ Own x.1 w oLetterS fp [.slice a l.length c] l ∧ (∀ b ∈ fp, b < x.2) ∧ B ≤ x.1
theorem own_ltr_new (w : World) (xs : List Ltr) (hm : xs.length ≤ maxLen) : ∃ a c w' fp, Own w.heap.size w' oLetterS fp [.slice a xs.length c] xs := by
  obtain ⟨fp, h⟩ := Row.own (B := w.heap.size) (w := w.alloc (.cells (xs.flatMap Ltr.cells).toArray 100)) (ty := 100) (K := 6) (f := Ltr.cells) (v := .slice (some ⟨w.heap.size, 0, none⟩) xs.length xs.length) (xs := xs) (fun _ => rfl)
    ⟨flatMap_len (K := 6) (fun _ => rfl) xs, .inr ⟨w.heap.size, xs.length, _, rfl, Nat.le_refl _, heap_alloc_new w _, Nat.le_refl _, hm, (by have := flatMap_len (f := Ltr.cells) (K := 6) (fun _ => rfl) xs; simpa using this), by
      rw [List.take_of_length_le (Nat.le_of_eq (flatMap_len (f := Ltr.cells) (K := 6) (fun _ => rfl) xs))]⟩⟩
  exact ⟨_, _, _, fp, h⟩
theorem kLtrN_good (B : Nat) {l : List Ltr} (hm : l.length ≤ maxLen) : (XReg.ZOp.A (kLtrN B l) [] [] []).Good :=
  ⟨fun x v w w' hx ⟨a, c, fp, hv, h, hb⟩ => ⟨a, c, fp, hv, h.ext oLetterS_local oLetterS_held hx.ext0, hb⟩, by
    obtain ⟨a, c, w', fp, h⟩ := own_ltr_new { (default : World) with heap := Array.replicate B (.cells #[] 0) } l hm
    exact ⟨(_, w'.heap.size), _, w', a, c, fp, rfl, h, oLetterS_held _ _ _ _ h.1, by simp⟩⟩
theorem kLtrN_in {B C m : Nat} {l : List Ltr} {w : World} {fp : List Nat} {v : Value} (h : Own B w oLetterS fp [v] l) (hB : B = m) (hC : C ≤ B) {n : Nat} (hn : n = w.heap.size) : kLtrN C l (m, n) v w := by
  subst hn hB
  obtain ⟨a, c, rfl⟩ := h.shape
  exact ⟨a, c, fp, rfl, h, oLetterS_held _ _ _ _ h.1, hC⟩
theorem kLtrN_out {B : Nat} {l : List Ltr} {x : Nat × Nat} {w : World} {v : Value} (h : kLtrN B l x v w) : ∃ fp, Own x.1 w oLetterS fp [v] l ∧ (∀ b ∈ fp, b < x.2) ∧ B ≤ x.1 := by
  obtain ⟨a, c, fp, rfl, h, hb⟩ := h; exact ⟨fp, h, hb⟩
theorem apart_range {x y : Nat × Nat} {f g : List Nat} (h : x.2 ≤ y.1 ∨ y.2 ≤ x.1) (f1 : ∀ b ∈ f, x.1 ≤ b) (f2 : ∀ b ∈ f, b < x.2) (g1 : ∀ b ∈ g, y.1 ≤ b) (g2 : ∀ b ∈ g, b < y.2) : ∀ b ∈ f, b ∉ g := fun b hb hg => by
  have := f1 b hb; have := f2 b hb; have := g1 b hg; have := g2 b hg; omega

set_option maxHeartbeats 3200000 in
theorem copyDesk_any (d : Dk) (v : Value) (w : World) (h : eDesk w v d) (hf : d.sz ≤ 1048576) :
    Calls Try.prog 69 #[v] w fun e w' => ∃ p b a f1 f2 f3, e = .returned (d.val p b a) ∧ Ext w w' ∧ OwnD w.heap.size w' f1 f2 f3 p b a d := by
  obtain ⟨a1, c1, a2, c2, a3, c3, rfl, z1, z2, h1, h2, h3⟩ := h
  have H1 := Lib.hid h1
  have H2 := Lib.hid h2
  have H3 := Lib.hid h3
  have hg1 : d.pairs.length ≤ maxLen := by unfold Dk.sz at hf; unfold maxLen; omega
  have hg2 : d.box.length ≤ maxLen := by unfold Dk.sz at hf; unfold maxLen; omega
  have hg3 : d.audit.length ≤ maxLen := by unfold Dk.sz at hf; unfold maxLen; omega
  clear h1 h2 h3 z1 z2
  unfold Dk.val
  go_enter Try.func69, Try.ntmps69
  go_upto_region 1 with fail
  (refine wp_region_z [] [.V (.pointer (some ⟨w.heap.size, 0, none⟩)), XReg.ZOp.A (fun _ u _ => u = (.slice a1 d.pairs.length c1)) [] [] [], .A (kLtrN (w.heap.size + 1 + 1) d.pairs) [] [] [], .V (.pointer (some ⟨w.heap.size, 1, none⟩)), XReg.ZOp.A (fun _ u _ => u = (.slice a2 d.box.length c2)) [] [] [], .A (kLtrN (w.heap.size + 1 + 1) d.box) [] [] [], .V (.pointer (some ⟨w.heap.size, 2, none⟩)), XReg.ZOp.A (fun _ u _ => u = (.slice a3 d.audit.length c3)) [] [] [], .A (kLtrN (w.heap.size + 1 + 1) d.audit) [] [] [], .V (.pointer (some ⟨w.heap.size, 0, none⟩)), .T, .V (.pointer (some ⟨w.heap.size, 1, none⟩)), .T, .V (.pointer (some ⟨w.heap.size, 2, none⟩)), .T] [_, _, _] (by kernel_rfl) (by kernel_rfl) (by kernel_rfl) (by kernel_rfl) rfl ?_ (by repeat' (first | exact trivial | exact XReg.ZOp.good_is _ _ _ _ | exact XReg.ZOp.good_v _ | exact XReg.ZOp.good_t | (first | exact kLtrN_good _ hg1 | exact kLtrN_good _ hg2 | exact kLtrN_good _ hg3) | refine And.intro ?_ ?_)) (by repeat' (first | exact trivial | exact XReg.subL_nil _ | exact XReg.subL_refl _ | exact Or.inr (XReg.subL_nil _) | exact Or.inr (XReg.subL_refl _) | exact Or.inl (by kernel_rfl) | refine And.intro ?_ ?_)))
  clear hg1 hg2 hg3
  (apply ZReg.val (.pointer (some ⟨w.heap.size, 0, none⟩)); (case h => (intro w'; go_wp2_with (fail); first | exact ⟨rfl, rfl⟩ | exact rfl)); (case hv => kernel_rfl))
  (apply ZReg.setE (.slice a1 d.pairs.length c1); (case h => (intro w' hw' hF'; obtain ⟨X', rfl⟩ := hw'; have HF' := Lib.hid hF'; clear hF'; go_wp2_with (fail); exact ⟨rfl, (by repeat (first | exact Ext.refl _ | apply Ext.plus | apply Ext.alloc | apply Ext.drew))⟩)); (case hv => kernel_rfl); intro _)
  refine ZReg.kindE (fun w' hw' hF' => ?_) (fun v w1 x1 hK => ?_)
  · obtain ⟨X', rfl⟩ := hw'
    clear hF'
    go_wp2_with fail
    refine (cloneLtr_any _ d.pairs _ (rLtr_rc (H1.out.ext rLtr_stable (by repeat (first | exact Ext.refl _ | apply Ext.plus | apply Ext.alloc | apply Ext.drew)))) (by unfold Dk.sz at hf; omega)).mono ?_
    rintro e _ ⟨v3, rfl, ⟨X3, rfl⟩, hR⟩
    obtain ⟨fp3, hO⟩ := Row.own (f := Ltr.cells) (K := 6) (fun _ => rfl) hR
    have HO := Lib.hid hO
    obtain ⟨a9, c9, rfl⟩ := hO.shape
    clear hO hR
    go_wp2
    exact ⟨(by repeat (first | exact Ext.refl _ | apply Ext.plus | apply Ext.alloc | apply Ext.drew)), kLtrN_in HO.out (by simp) (by simp; try omega) (by simp)⟩
  obtain ⟨b1, e1, fp0, rfl, q1, q2⟩ := hK
  clear q1 q2 w1 fp0
  (apply ZReg.val (.pointer (some ⟨w.heap.size, 1, none⟩)); (case h => (intro w'; go_wp2_with (fail); first | exact ⟨rfl, rfl⟩ | exact rfl)); (case hv => kernel_rfl))
  (apply ZReg.setE (.slice a2 d.box.length c2); (case h => (intro w' hw' hF'; obtain ⟨X', rfl⟩ := hw'; have HF' := Lib.hid hF'; clear hF'; go_wp2_with (fail); exact ⟨rfl, (by repeat (first | exact Ext.refl _ | apply Ext.plus | apply Ext.alloc | apply Ext.drew))⟩)); (case hv => kernel_rfl); intro _)
  refine ZReg.kindE (fun w' hw' hF' => ?_) (fun v w1 x2 hK => ?_)
  · obtain ⟨X', rfl⟩ := hw'
    clear hF'
    go_wp2_with fail
    refine (cloneLtr_any _ d.box _ (rLtr_rc (H2.out.ext rLtr_stable (by repeat (first | exact Ext.refl _ | apply Ext.plus | apply Ext.alloc | apply Ext.drew)))) (by unfold Dk.sz at hf; omega)).mono ?_
    rintro e _ ⟨v3, rfl, ⟨X3, rfl⟩, hR⟩
    obtain ⟨fp3, hO⟩ := Row.own (f := Ltr.cells) (K := 6) (fun _ => rfl) hR
    have HO := Lib.hid hO
    obtain ⟨a9, c9, rfl⟩ := hO.shape
    clear hO hR
    go_wp2
    exact ⟨(by repeat (first | exact Ext.refl _ | apply Ext.plus | apply Ext.alloc | apply Ext.drew)), kLtrN_in HO.out (by simp) (by simp; try omega) (by simp)⟩
  obtain ⟨b2, e2, fp0, rfl, q1, q2⟩ := hK
  clear q1 q2 w1 fp0
  (apply ZReg.val (.pointer (some ⟨w.heap.size, 2, none⟩)); (case h => (intro w'; go_wp2_with (fail); first | exact ⟨rfl, rfl⟩ | exact rfl)); (case hv => kernel_rfl))
  (apply ZReg.setE (.slice a3 d.audit.length c3); (case h => (intro w' hw' hF'; obtain ⟨X', rfl⟩ := hw'; have HF' := Lib.hid hF'; clear hF'; go_wp2_with (fail); exact ⟨rfl, (by repeat (first | exact Ext.refl _ | apply Ext.plus | apply Ext.alloc | apply Ext.drew))⟩)); (case hv => kernel_rfl); intro _)
  refine ZReg.kindE (fun w' hw' hF' => ?_) (fun v w1 x3 hK => ?_)
  · obtain ⟨X', rfl⟩ := hw'
    clear hF'
    go_wp2_with fail
    refine (cloneLtr_any _ d.audit _ (rLtr_rc (H3.out.ext rLtr_stable (by repeat (first | exact Ext.refl _ | apply Ext.plus | apply Ext.alloc | apply Ext.drew)))) (by unfold Dk.sz at hf; omega)).mono ?_
    rintro e _ ⟨v3, rfl, ⟨X3, rfl⟩, hR⟩
    obtain ⟨fp3, hO⟩ := Row.own (f := Ltr.cells) (K := 6) (fun _ => rfl) hR
    have HO := Lib.hid hO
    obtain ⟨a9, c9, rfl⟩ := hO.shape
    clear hO hR
    go_wp2
    exact ⟨(by repeat (first | exact Ext.refl _ | apply Ext.plus | apply Ext.alloc | apply Ext.drew)), kLtrN_in HO.out (by simp) (by simp; try omega) (by simp)⟩
  obtain ⟨b3, e3, fp0, rfl, q1, q2⟩ := hK
  clear q1 q2 w1 fp0
  (apply ZReg.val (.pointer (some ⟨w.heap.size, 0, none⟩)); (case h => (intro w'; go_wp2_with (fail); first | exact ⟨rfl, rfl⟩ | exact rfl)); (case hv => kernel_rfl))
  refine ZReg.T ?_
  (apply ZReg.val (.pointer (some ⟨w.heap.size, 1, none⟩)); (case h => (intro w'; go_wp2_with (fail); first | exact ⟨rfl, rfl⟩ | exact rfl)); (case hv => kernel_rfl))
  refine ZReg.T ?_
  (apply ZReg.val (.pointer (some ⟨w.heap.size, 2, none⟩)); (case h => (intro w'; go_wp2_with (fail); first | exact ⟨rfl, rfl⟩ | exact rfl)); (case hv => kernel_rfl))
  refine ZReg.T ?_
  refine ZReg.doneE (fun X hF hR => ?_)
  obtain ⟨f1, O1, L1, B1⟩ := kLtrN_out (hF 2 (kLtrN (w.heap.size + 1 + 1) d.pairs x1, .slice b1 d.pairs.length e1) (by kernel_rfl))
  obtain ⟨f2, O2, L2, B2⟩ := kLtrN_out (hF 5 (kLtrN (w.heap.size + 1 + 1) d.box x2, .slice b2 d.box.length e2) (by kernel_rfl))
  obtain ⟨f3, O3, L3, B3⟩ := kLtrN_out (hF 8 (kLtrN (w.heap.size + 1 + 1) d.audit x3, .slice b3 d.audit.length e3) (by kernel_rfl))
  have A12 := Lib.hid (apart_range (hR 2 5 x1 x2 (by decide) (by kernel_rfl) (by kernel_rfl)) O1.2.2 L1 O2.2.2 L2)
  have A13 := Lib.hid (apart_range (hR 2 8 x1 x3 (by decide) (by kernel_rfl) (by kernel_rfl)) O1.2.2 L1 O3.2.2 L3)
  have A23 := Lib.hid (apart_range (hR 5 8 x2 x3 (by decide) (by kernel_rfl) (by kernel_rfl)) O2.2.2 L2 O3.2.2 L3)
  have HO1 := Lib.hid (O1.mono B1)
  have HO2 := Lib.hid (O2.mono B2)
  have HO3 := Lib.hid (O3.mono B3)
  clear hF hR L1 L2 L3 B1 B2 B3 O1 O2 O3
  refine ZReg.run ?_
  go_wp2
  refine ZReg.run ?_
  go_wp2
  refine ZReg.run ?_
  go_wp2
  refine ZReg.end_ ?_
  go_wp2
  refine bodyPost_ret (v := .agg #[.slice b1 d.pairs.length e1, .slice b2 d.box.length e2, .slice b3 d.audit.length e3, (.int .i64 d.used), (.int .i64 d.now)]) (by simp [results, Try.results69, go_sem]) rfl ⟨_, _, _, f1, f2, f3, rfl, (by repeat' (first | exact Ext.refl _ | exact Nat.le_refl _ | (dsimp only; omega) | apply Ext.setCell | apply Ext.plus | apply Ext.alloc | apply Ext.drew)), ?_, ?_, ?_, A12.out, A13.out, A23.out⟩
  · exact (HO1.out.swap oLetterS_local (by simp) (by simp)).mono (by omega)
  · exact (HO2.out.swap oLetterS_local (by simp) (by simp)).mono (by omega)
  · exact (HO3.out.swap oLetterS_local (by simp) (by simp)).mono (by omega)
end Go.Proofs.Ytkekfncgpbileaa
