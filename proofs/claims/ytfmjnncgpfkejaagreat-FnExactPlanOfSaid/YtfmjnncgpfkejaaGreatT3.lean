/- spec.SpanPut walked. -/
import Derived.Test.YtfmjnncgpfkejaaGreatT2
set_option maxRecDepth 100000
set_option linter.unusedVariables false
namespace Go.Proofs.YtfmjnncgpfkejaaGreat
open Go.RowKit Go.Fin1

theorem slr_take {α : Type} {w : World} {K n c k : Nat} {r : World → List Value → α → Prop} {a : Option Addr} {xs : List α} (h : SlR w K r (.slice a n c) xs) (hk : k ≤ xs.length) : SlR w K r (.slice a k c) (xs.take k) := by
  obtain ⟨h1, h2, h3⟩ := slr_len h
  obtain ⟨a', c', hv, _, _, h4⟩ := h
  obtain ⟨rfl, _, rfl⟩ : a = a' ∧ n = xs.length ∧ c = c' := by simpa using hv
  have hl : (xs.take k).length = k := by simp; omega
  refine ⟨a, c, by rw [hl], by rw [hl]; omega, h3, fun i hi => ?_⟩
  rw [hl] at hi
  obtain ⟨b, off, cs, e1, e2, e3, e4⟩ := h4 i (by omega)
  exact ⟨b, off, cs, e1, e2, e3, by rw [List.getElem_take]; exact e4⟩
theorem slr_drop {α : Type} {w : World} {K n c k m q : Nat} {b off : Nat} {r : World → List Value → α → Prop} {xs : List α} (h : SlR w K r (.slice (some ⟨b, off, none⟩) n c) xs) (hk : k ≤ xs.length) (hm : m = xs.length - k) (hq : q = c - k) : SlR w K r (.slice (some ⟨b, off + k * K, none⟩) m q) (xs.drop k) := by
  subst hm
  subst hq
  obtain ⟨h1, h2, h3⟩ := slr_len h
  have hl : (xs.drop k).length = xs.length - k := by simp
  refine ⟨_, _, by rw [hl], by rw [hl]; omega, by omega, fun i hi => ?_⟩
  rw [hl] at hi
  obtain ⟨cs, e2, e3, e4⟩ := slr_cells h (i := k + i) (by omega)
  refine ⟨b, _, cs, rfl, e2, fun j u hj => ?_, by rw [List.getElem_drop]; exact e4⟩
  have := e3 j u hj
  rw [Nat.add_mul] at this
  rw [← this]; congr 2; omega
theorem slr_nil {α : Type} {w : World} {K c : Nat} {r : World → List Value → α → Prop} {a : Option Addr} {xs : List α} (h : xs = []) (hc : c ≤ maxLen) : SlR w K r (.slice a 0 c) xs := by
  subst h
  exact ⟨a, c, rfl, Nat.zero_le _, hc, fun i hi => absurd hi (Nat.not_lt_zero _)⟩

set_option maxHeartbeats 3200000 in
theorem l03Put_any (v : Value) (l : List Spn) (x : Spn) (w : World) (h : SlR w 2 rSpn v l) (hl : l.length ≤ 1048576) :
    Calls Tryz.prog 52 #[v, .agg #[(.int .i64 x.f), (.int .i64 x.t)]] w fun e w' => ∃ v', e = .returned v' ∧ Ext w w' ∧ Row w.heap.size w' 83 2 Spn.cells v' (insL l (posS l x.f) x) := by
  obtain ⟨a, cap, rfl⟩ := h.len
  obtain ⟨-, hlc, hcm⟩ := slr_len h
  have hcm2 : cap ≤ 9223372036854775807 := by unfold maxLen at hcm; omega
  have HCM := Lib.hid hcm
  clear hcm
  have HS := Lib.hid h
  clear h
  go_enter Tryz.func52, Tryz.ntmps52
  go_wp2
  go_loopw [5] (fun i wr => ∃ k : Nat, k ≤ l.length ∧ i = .int .i64 k ∧ Ext (w.alloc (.cells #[(.int .i64 x.f), (.int .i64 x.t)] 83)) wr ∧ Hid (∀ (j : Nat) (hj : j < l.length), j < k → decide (l[j].f < x.f) = true)) (fun i _ => l.length - (intOf i).toNat)
  case atStart =>
    exact ⟨0, Nat.zero_le _, rfl, Ext.refl _, Lib.hid (fun j _ h => absurd h (Nat.not_lt_zero _))⟩
  case round =>
    obtain ⟨k, hk, rfl, ⟨X, rfl⟩, HH⟩ := hrel
    by_cases hlt : k < l.length
    · obtain ⟨bb, off, rfl⟩ := slr_some HS.out hlt
      obtain ⟨ho, hok, h0, h1⟩ := spn_at HS.out hlt
      have hkl : decide ((k : Int) < (l.length : Int)) = true := decide_eq_true (by omega)
      cases q1 : decide (l[k].f < x.f)
      · have hp := Lib.hid (posS_at hlt HH.out q1)
        go_wp2
        (refine wp_region_x 14 (by kernel_rfl) (by kernel_rfl) (by kernel_rfl) ?_; (iterate 14 (apply XReg.step; (case h => (intro w' hw'; obtain ⟨X', rfl⟩ := hw'; go_wp2_with (fail); exact ⟨rfl, (by repeat (first | exact Ext.refl _ | apply Ext.plus | apply Ext.alloc | apply Ext.drew))⟩)); (case hv => kernel_rfl))); refine XReg.doneN (fun X => ?_))
        clear q1 hkl
        have hck : ¬ cap = k := by omega
        go_upto_region 5 with (at_builtin; go_must (refine Row.appV (f := Spn.cells) el_Span rfl _ _ rfl (w.alloc (.cells #[(.int .i64 x.f), (.int .i64 x.t)] 83)) (by repeat (first | exact Ext.refl _ | apply Ext.plus | apply Ext.alloc | apply Ext.drew)) _ [] rfl ?_ _ (l.take k) rfl (fun _ => rfl) ?_ ?_ ?_ ?_ ?_); (exact Row.madeB' (by first | (simp; done) | (simp; omega)) (by first | (simp; done) | (simp; omega))); (exact slr_take (rSpn_rc (HS.out.ext rSpn_stable (by repeat (first | exact Ext.refl _ | apply Ext.plus | apply Ext.alloc | apply Ext.drew)))) (by omega)); (intro y u hu; exact spn_one1 hu); (unfold maxLen; simp; omega); (simp; omega); intro v1 Z1 hown1; have HO1 := Lib.hid hown1; clear hown1)
        have hR1 := HO1.out
        rw [List.nil_append] at hR1
        obtain ⟨a1, c1, rfl⟩ := hR1.shape
        have HR1 := Lib.hid hR1
        clear hR1 HO1
        go_upto_region 6 with (at_builtin; go_must (refine Row.app (f := Spn.cells) el_Span rfl _ _ rfl (w.alloc (.cells #[(.int .i64 x.f), (.int .i64 x.t)] 83)) (by repeat (first | exact Ext.refl _ | apply Ext.plus | apply Ext.alloc | apply Ext.drew)) _ (l.take k) rfl (HR1.out.ext (by repeat (first | exact Ext.refl _ | apply Ext.plus | apply Ext.alloc | apply Ext.drew))) x rfl _ ?_ rfl rfl ?_ ?_ ?_ ?_); (simp [go_sem]); (simp [Value.oneCell']); (unfold maxLen; simp; omega); (simp; omega); intro v2 Z2 hown2 hne2; have HO2 := Lib.hid hown2; clear hown2 hne2)
        obtain ⟨a2, c2, rfl⟩ := HO2.out.shape
        go_wp2_with (at_builtin; go_must (refine Row.appV (f := Spn.cells) el_Span rfl _ _ rfl (w.alloc (.cells #[(.int .i64 x.f), (.int .i64 x.t)] 83)) (by repeat (first | exact Ext.refl _ | apply Ext.plus | apply Ext.alloc | apply Ext.drew)) _ (l.take k ++ [x]) rfl (HO2.out.ext (by repeat (first | exact Ext.refl _ | apply Ext.plus | apply Ext.alloc | apply Ext.drew))) _ (l.drop k) rfl (fun _ => rfl) (slr_drop (rSpn_rc (HS.out.ext rSpn_stable (by repeat (first | exact Ext.refl _ | apply Ext.plus | apply Ext.alloc | apply Ext.drew)))) (by omega) rfl rfl) ?_ ?_ ?_ ?_); (intro y u hu; exact spn_one1 hu); (unfold maxLen; simp; omega); (simp; omega); intro v3 Z3 hown3; have HO3 := Lib.hid hown3; clear hown3)
        all_goals go_ret
        all_goals exact ⟨_, rfl, (by repeat (first | exact Ext.refl _ | apply Ext.plus | apply Ext.alloc | apply Ext.drew)), by
          have h := HO3.out
          rw [hp.out]
          unfold insL
          rw [List.append_assoc] at h
          exact h.mono (by simp)⟩
      · go_wp2
        (refine wp_region_x 14 (by kernel_rfl) (by kernel_rfl) (by kernel_rfl) ?_; (iterate 14 (apply XReg.step; (case h => (intro w' hw'; obtain ⟨X', rfl⟩ := hw'; go_wp2_with (fail); exact ⟨rfl, (by repeat (first | exact Ext.refl _ | apply Ext.plus | apply Ext.alloc | apply Ext.drew))⟩)); (case hv => kernel_rfl))); refine XReg.doneN (fun X => ?_))
        go_wp2
        exact ⟨⟨k + 1, by omega, by go_num, (by repeat (first | exact Ext.refl _ | apply Ext.plus | apply Ext.alloc | apply Ext.drew)), Lib.hid (fun j hj hjk => by
          by_cases e : j < k
          · exact HH.out j hj e
          · obtain rfl : j = k := by omega
            exact q1)⟩, by simp [intOf]; omega⟩
    · have hkl : decide ((k : Int) < (l.length : Int)) = false := decide_eq_false (by omega)
      have hp := Lib.hid (posS_end (l := l) (f := x.f) fun j hj => HH.out j hj (by omega))
      obtain rfl : k = l.length := by omega
      go_wp2
      (refine wp_region_x 14 (by kernel_rfl) (by kernel_rfl) (by kernel_rfl) ?_; (iterate 14 (apply XReg.step; (case h => (intro w' hw'; obtain ⟨X', rfl⟩ := hw'; go_wp2_with (fail); exact ⟨rfl, (by repeat (first | exact Ext.refl _ | apply Ext.plus | apply Ext.alloc | apply Ext.drew))⟩)); (case hv => kernel_rfl))); refine XReg.doneN (fun X => ?_))
      clear hkl
      go_upto_region 5 with (at_builtin; go_must (refine Row.appV (f := Spn.cells) el_Span rfl _ _ rfl (w.alloc (.cells #[(.int .i64 x.f), (.int .i64 x.t)] 83)) (by repeat (first | exact Ext.refl _ | apply Ext.plus | apply Ext.alloc | apply Ext.drew)) _ [] rfl ?_ _ (l.take l.length) rfl (fun _ => rfl) ?_ ?_ ?_ ?_ ?_); (exact Row.madeB' (by first | (simp; done) | (simp; omega)) (by first | (simp; done) | (simp; omega))); (exact slr_take (rSpn_rc (HS.out.ext rSpn_stable (by repeat (first | exact Ext.refl _ | apply Ext.plus | apply Ext.alloc | apply Ext.drew)))) (by omega)); (intro y u hu; exact spn_one1 hu); (unfold maxLen; simp; omega); (simp; omega); intro v1 Z1 hown1; have HO1 := Lib.hid hown1; clear hown1)
      have hR1 := HO1.out
      rw [List.nil_append] at hR1
      obtain ⟨a1, c1, rfl⟩ := hR1.shape
      have HR1 := Lib.hid hR1
      clear hR1 HO1
      go_upto_region 6 with (at_builtin; go_must (refine Row.app (f := Spn.cells) el_Span rfl _ _ rfl (w.alloc (.cells #[(.int .i64 x.f), (.int .i64 x.t)] 83)) (by repeat (first | exact Ext.refl _ | apply Ext.plus | apply Ext.alloc | apply Ext.drew)) _ (l.take l.length) rfl (HR1.out.ext (by repeat (first | exact Ext.refl _ | apply Ext.plus | apply Ext.alloc | apply Ext.drew))) x rfl _ ?_ rfl rfl ?_ ?_ ?_ ?_); (simp [go_sem]); (simp [Value.oneCell']); (unfold maxLen; simp; omega); (simp; omega); intro v2 Z2 hown2 hne2; have HO2 := Lib.hid hown2; clear hown2 hne2)
      obtain ⟨a2, c2, rfl⟩ := HO2.out.shape
      go_wp2_with (at_builtin; go_must (refine Row.appV (f := Spn.cells) el_Span rfl _ _ rfl (w.alloc (.cells #[(.int .i64 x.f), (.int .i64 x.t)] 83)) (by repeat (first | exact Ext.refl _ | apply Ext.plus | apply Ext.alloc | apply Ext.drew)) _ (l.take l.length ++ [x]) rfl (HO2.out.ext (by repeat (first | exact Ext.refl _ | apply Ext.plus | apply Ext.alloc | apply Ext.drew))) _ (l.drop l.length) rfl (fun _ => rfl) (slr_nil (by simp) (Nat.le_trans (Nat.sub_le _ _) HCM.out)) ?_ ?_ ?_ ?_); (intro y u hu; exact spn_one1 hu); (unfold maxLen; simp; omega); (simp; omega); intro v3 Z3 hown3; have HO3 := Lib.hid hown3; clear hown3)
      all_goals go_ret
      all_goals exact ⟨_, rfl, (by repeat (first | exact Ext.refl _ | apply Ext.plus | apply Ext.alloc | apply Ext.drew)), by
        have h := HO3.out
        rw [hp.out]
        unfold insL
        rw [List.append_assoc] at h
        exact h.mono (by simp)⟩

end Go.Proofs.YtfmjnncgpfkejaaGreat
