/- Pools that are made: copyClear, PoolNew. -/
import Derived.Test.YtfkjdiaeblcimaaZ2
import Derived.Test.YtfkjdiaeblcimaaE4
import Derived.Test.YtfkjdiaeblcimaaBG
set_option maxRecDepth 100000
set_option linter.unusedVariables false
namespace Go.Proofs.Ytfkjdiaeblcimaa
open Go.RowKit Go.Fin1

set_option maxHeartbeats 800000 in
theorem cloneLab_any (v : Value) (l : List Lab) (w : World) (h : SlR w 2 (rc Lab.cells) v l) (hl : l.length ≤ 1048576) :
    Calls Try.prog 202 #[v] w fun e w' => ∃ v', e = .returned v' ∧ Ext w w' ∧ Row w.heap.size w' 35 2 Lab.cells v' l := by
  obtain ⟨ad, cap, rfl⟩ := h.len
  have q22 : ∀ (w : World) (a : Option Addr) (n c n' c' : Nat), (binOp .eql 147 (.slice a n c) (.slice none n' c')).run Try.prog w = .ok (.bool a.isNone) w := fun w a n c n' c' => Lib.run_eql_slice_nil w _ _ a n c n' c' (show Try.prog.underlying 147 = some (.slice 35) by kernel_rfl)
  have HS := Lib.hid h
  cases ad with
  | none =>
    have h0 : l = [] := by
      cases l with
      | nil => rfl
      | cons x l => obtain ⟨b, off, he⟩ := slr_some h (Nat.zero_lt_succ _); cases he
    subst h0
    clear h
    go_enter Try.func202, Try.ntmps202
    go_wp2
    go_ret
    exact ⟨_, rfl, (by repeat (first | exact Ext.refl _ | apply Ext.plus | apply Ext.alloc | apply Ext.drew)), Row.nil _ _ _ _ _⟩
  | some ad =>
    have HC := Lib.hid (slr_flat (f := Lab.cells) (K := 2) (fun _ => rfl) h)
    clear h
    go_enter Try.func202, Try.ntmps202
    go_wp2_with (at_builtin; go_must (refine Row.appS (f := Lab.cells) el_Label rfl _ _ rfl w (by repeat (first | exact Ext.refl _ | apply Ext.plus | apply Ext.alloc | apply Ext.drew)) _ _ rfl (Row.made _ _ _ _) ad l.length cap l rfl rfl (fun _ => rfl) ?_ ?_ ?_ ?_ ?_); (exact fun j u hu => Ext.cellA (by repeat (first | exact Ext.refl _ | apply Ext.plus | apply Ext.alloc | apply Ext.drew)) (HC.out j u hu)); (intro u hu; obtain ⟨x, _, hx⟩ := List.mem_flatMap.1 hu; simp [Lab.cells] at hx; first | (rcases hx with rfl | rfl <;> rfl) | (subst hx; rfl) | (rcases hx with rfl | rfl | rfl <;> rfl) | (rcases hx with rfl | rfl | rfl | rfl | rfl | rfl <;> rfl)); (unfold maxLen; simp; omega); (simp; omega); intro v' X' hown' hne; have HO' := Lib.hid hown'; clear hown' hne)
    go_ret
    exact ⟨_, rfl, (by repeat (first | exact Ext.refl _ | apply Ext.plus | apply Ext.alloc | apply Ext.drew)), by have := HO'.out; simpa using this⟩
theorem rLab_rc {w : World} {v : Value} {l : List Lab} (h : SlR w 2 rLab v l) : SlR w 2 (rc Lab.cells) v l := slr_with h fun _ _ _ hr => hr.1

set_option maxHeartbeats 1600000 in
theorem copyClear_any (v : Value) (l : List (List Lab)) (w : World) (h : SlR w 1 rLabS v l) (hl : szL List.length l ≤ 1048576) :
    Calls Try.prog 120 #[v] w fun e w' => ∃ v' fp, e = .returned v' ∧ Ext w w' ∧ Own w.heap.size w' oLabelSS fp [v'] l := by
  obtain ⟨a, cap, rfl⟩ := h.len
  have hll : l.length ≤ 1048576 := Nat.le_trans (szL_len List.length l) hl
  have HL := Lib.hid hl
  have HS := Lib.hid h
  clear h hl
  go_enter Try.func120, Try.ntmps120
  go_wp2
  go_loopw [9, 3, 5] (fun i o _ wr => ∃ k : Nat, k ≤ l.length ∧ i = .int .i64 k ∧ Ext w wr ∧ Hid (∃ fp, Own w.heap.size wr oLabelSS fp [o] (l.take k))) (fun i _ _ _ => l.length - (intOf i).toNat)
  case atStart => exact ⟨0, Nat.zero_le _, rfl, (by repeat (first | exact Ext.refl _ | apply Ext.plus | apply Ext.alloc | apply Ext.drew)), Lib.hid ⟨_, Own.made rfl (Nat.le_refl _)⟩⟩
  case round =>
    obtain ⟨k, hk, rfl, ⟨X, rfl⟩, HH⟩ := hrel
    obtain ⟨fp, hO⟩ := HH.out
    have HB := Lib.hid (oLabelSS_held _ _ _ _ hO.1)
    obtain ⟨ao, co, rfl⟩ := hO.shape
    have hZ : (l.take k).length = k := by rw [List.length_take]; omega
    rw [hZ] at hO ⊢
    have HO := Lib.hid hO
    have HZ := Lib.hid hZ
    clear hO HH hZ
    by_cases hlt : k < l.length
    · obtain ⟨b, off, rfl⟩ := slr_some HS.out hlt
      obtain ⟨ho, vx, hsx, h0⟩ := sl_at HS.out hlt
      obtain ⟨ax, cx, rfl⟩ := hsx.len
      have HX := Lib.hid hsx
      have HT := Lib.hid (List.take_append_getElem hlt)
      clear hsx
      go_wp2_with fail
      refine (cloneLab_any _ l[k] _ (rLab_rc (HX.out.ext rLab_stable (by repeat (first | exact Ext.refl _ | apply Ext.plus | apply Ext.alloc | apply Ext.drew)))) (Nat.le_trans (szL_at List.length hlt) HL.out)).mono ?_
      rintro e _ ⟨v3, rfl, ⟨Y, rfl⟩, hR⟩
      obtain ⟨fy, hy⟩ := Row.own (f := Lab.cells) (K := 2) (fun _ => rfl) hR
      obtain ⟨a3, c3, rfl⟩ := hy.shape
      have HA : Hid (∀ b ∈ fp, b ∉ fy) := Lib.hid (fun b hb hby => by have h1 := HB.out b hb; have h2 := hy.2.2 b hby; omega)
      have HY := Lib.hid (hy.mono (B' := w.heap.size) (by simp))
      have hO2 := Lib.hid (HO.out.plus oLabelSS_local oLabelSS_held Y)
      clear hy hR
      go_wp2_with (at_builtin; go_must (refine Own.app (oSl_local (oFlat_local _)) (oSl_held (oFlat_held _)) el_eLabelS rfl _ _ rfl (w0 := w) (by repeat (first | exact Ext.refl _ | apply Ext.plus | apply Ext.alloc | apply Ext.drew)) _ (l.take k) fp rfl (hO2.out) _ (by simp) rfl l[k] fy HY.out rfl HA.out ?_ ?_ ?_ ?_); (simp [Value.oneCell']); (rw [HZ.out]; unfold maxLen; omega); (rw [HZ.out]; omega); intro v' X' fp' hown'; rw [HT.out] at hown'; have HO' := Lib.hid hown'; clear hown')
      exact ⟨⟨k + 1, by omega, by go_num, (by repeat (first | exact Ext.refl _ | apply Ext.plus | apply Ext.alloc | apply Ext.drew)), Lib.hid ⟨_, HO'.out⟩⟩, by simp [intOf]; omega⟩
    · go_wp2
      obtain rfl : k = l.length := by omega
      go_ret
      exact ⟨_, fp, rfl, (by repeat (first | exact Ext.refl _ | apply Ext.plus | apply Ext.alloc | apply Ext.drew)), HO.out.cast List.take_length⟩
end Go.Proofs.Ytfkjdiaeblcimaa
