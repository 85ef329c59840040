/- The walk of the reference's BoxRight, and its law. -/
import Derived.Test.YtocadhcggkbimaaD10
set_option maxRecDepth 100000
set_option linter.unusedVariables false
namespace Go.Proofs.Ytocadhcggkbimaa
open Go.RowKit Go.Fin1

set_option maxHeartbeats 3200000 in
theorem specBoxRight_any (d : Dk) (v : Value) (w : World) (h : eDesk w v d) :
    Calls Try.prog 18 #[v] w fun e w' => e = .returned (.bool (boxR d)) ∧ Ext w w' := by
  have HD := Lib.hid h
  obtain ⟨a1, c1, a2, c2, a3, c3, rfl, z1, z2, p1, p2, p3⟩ := h
  obtain ⟨_, hlc, hcm⟩ := slr_len p3
  have hlm : d.audit.length ≤ 9223372036854775807 := by unfold maxLen at hcm; omega
  clear hlc hcm
  obtain ⟨_, hlc, hcm⟩ := slr_len p2
  have hlb : d.box.length ≤ 9223372036854775807 := by unfold maxLen at hcm; omega
  have H1 := Lib.hid p1
  have H2 := Lib.hid p2
  have H3 := Lib.hid p3
  clear p1 p2 p3 z1 z2 hlc hcm
  unfold Dk.val at HD ⊢
  by_cases hp4 : 4 < d.pairs.length
  · have hb : decide ((4 : Int) < d.pairs.length) = true := decide_eq_true (by omega)
    have HN := Lib.hid (boxR_no1 (d := d) (by rw [chansR_long hp4]; rfl))
    go_enter Try.func18, Try.ntmps18
    go_wp2
    go_ret
    exact ⟨ret_bool HN.out.symm, (by repeat (first | exact Ext.refl _ | apply Ext.plus | apply Ext.alloc | apply Ext.drew))⟩
  have hb : decide ((4 : Int) < d.pairs.length) = false := decide_eq_false (by omega)
  clear hp4
  have hcs : (chansR d.pairs = false) ∨ (chansR d.pairs = true ∧ isIn d.now 0 999900 = false) ∨ (chansR d.pairs = true ∧ isIn d.now 0 999900 = true ∧ letsR d.pairs d.now d.box 6 = false) ∨ (chansR d.pairs = true ∧ isIn d.now 0 999900 = true ∧ letsR d.pairs d.now d.box 6 = true ∧ letsR d.pairs d.now d.audit 20 = false) ∨ (chansR d.pairs = true ∧ isIn d.now 0 999900 = true ∧ letsR d.pairs d.now d.box 6 = true ∧ letsR d.pairs d.now d.audit 20 = true) := by
    cases chansR d.pairs <;> cases isIn d.now 0 999900 <;> cases letsR d.pairs d.now d.box 6 <;> cases letsR d.pairs d.now d.audit 20 <;> simp
  rcases hcs with q1 | ⟨q1, q2⟩ | ⟨q1, q2, q3⟩ | ⟨q1, q2, q3, q4⟩ | ⟨q1, q2, q3, q4⟩
  · have HN := Lib.hid (boxR_no1 (d := d) (by rw [q1]; rfl))
    go_enter Try.func18, Try.ntmps18
    go_wp2_with (first | (go_at_call 59; refine (l06Pairs_any _ d.pairs _ (H1.out.ext rLtr_stable (by repeat (first | exact Ext.refl _ | apply Ext.plus | apply Ext.alloc | apply Ext.drew)))).mono ?_; rintro e _ ⟨rfl, X, rfl⟩) | (go_at_call 60; refine (l03Now_any _ _).mono ?_; rintro e _ ⟨rfl, rfl⟩) | (go_at_call 47; refine (l02Is_any _ _ _ _).mono ?_; rintro e _ ⟨rfl, rfl⟩))
    go_ret
    exact ⟨ret_bool HN.out.symm, (by repeat (first | exact Ext.refl _ | apply Ext.plus | apply Ext.alloc | apply Ext.drew))⟩
  · have HN := Lib.hid (boxR_no1 (d := d) (by rw [q2]; simp))
    go_enter Try.func18, Try.ntmps18
    go_wp2_with (first | (go_at_call 59; refine (l06Pairs_any _ d.pairs _ (H1.out.ext rLtr_stable (by repeat (first | exact Ext.refl _ | apply Ext.plus | apply Ext.alloc | apply Ext.drew)))).mono ?_; rintro e _ ⟨rfl, X, rfl⟩) | (go_at_call 60; refine (l03Now_any _ _).mono ?_; rintro e _ ⟨rfl, rfl⟩) | (go_at_call 47; refine (l02Is_any _ _ _ _).mono ?_; rintro e _ ⟨rfl, rfl⟩))
    go_ret
    exact ⟨ret_bool HN.out.symm, (by repeat (first | exact Ext.refl _ | apply Ext.plus | apply Ext.alloc | apply Ext.drew))⟩
  · have HN := Lib.hid (boxR_no1 (d := d) (by rw [q3]; simp))
    have HQ1 := Lib.hid q1
    go_enter Try.func18, Try.ntmps18
    go_wp2_with (first | (go_at_call 59; refine (l06Pairs_any _ d.pairs _ (H1.out.ext rLtr_stable (by repeat (first | exact Ext.refl _ | apply Ext.plus | apply Ext.alloc | apply Ext.drew)))).mono ?_; rintro e _ ⟨rfl, X, rfl⟩) | (go_at_call 60; refine (l03Now_any _ _).mono ?_; rintro e _ ⟨rfl, rfl⟩) | (go_at_call 47; refine (l02Is_any _ _ _ _).mono ?_; rintro e _ ⟨rfl, rfl⟩))
    refine (l06Letters_any d _ _ d.box 6 _ (HD.out.ext (by repeat (first | exact Ext.refl _ | apply Ext.plus | apply Ext.alloc | apply Ext.drew))) (H2.out.ext rLtr_stable (by repeat (first | exact Ext.refl _ | apply Ext.plus | apply Ext.alloc | apply Ext.drew))) HQ1.out).mono ?_
    rintro e _ ⟨rfl, Y, rfl⟩
    go_wp2
    go_ret
    exact ⟨ret_bool HN.out.symm, (by repeat (first | exact Ext.refl _ | apply Ext.plus | apply Ext.alloc | apply Ext.drew))⟩
  · have HN := Lib.hid (boxR_no1 (d := d) (by rw [q4]; simp))
    have HQ1 := Lib.hid q1
    go_enter Try.func18, Try.ntmps18
    go_wp2_with (first | (go_at_call 59; refine (l06Pairs_any _ d.pairs _ (H1.out.ext rLtr_stable (by repeat (first | exact Ext.refl _ | apply Ext.plus | apply Ext.alloc | apply Ext.drew)))).mono ?_; rintro e _ ⟨rfl, X, rfl⟩) | (go_at_call 60; refine (l03Now_any _ _).mono ?_; rintro e _ ⟨rfl, rfl⟩) | (go_at_call 47; refine (l02Is_any _ _ _ _).mono ?_; rintro e _ ⟨rfl, rfl⟩))
    refine (l06Letters_any d _ _ d.box 6 _ (HD.out.ext (by repeat (first | exact Ext.refl _ | apply Ext.plus | apply Ext.alloc | apply Ext.drew))) (H2.out.ext rLtr_stable (by repeat (first | exact Ext.refl _ | apply Ext.plus | apply Ext.alloc | apply Ext.drew))) HQ1.out).mono ?_
    rintro e _ ⟨rfl, Y, rfl⟩
    go_wp2_with fail
    refine (l06Letters_any d _ _ d.audit 20 _ (HD.out.ext (by repeat (first | exact Ext.refl _ | apply Ext.plus | apply Ext.alloc | apply Ext.drew))) (H3.out.ext rLtr_stable (by repeat (first | exact Ext.refl _ | apply Ext.plus | apply Ext.alloc | apply Ext.drew))) HQ1.out).mono ?_
    rintro e _ ⟨rfl, Z, rfl⟩
    go_wp2
    go_ret
    exact ⟨ret_bool HN.out.symm, (by repeat (first | exact Ext.refl _ | apply Ext.plus | apply Ext.alloc | apply Ext.drew))⟩
  have HE := Lib.hid (boxR_eq (d := d) (by rw [q1, q2, q3, q4]; rfl))
  have HQ1 := Lib.hid q1
  cases q5 : isIn d.used 0 2
  · have HN := Lib.hid (boxR_used q5)
    go_enter Try.func18, Try.ntmps18
    go_wp2_with (first | (go_at_call 59; refine (l06Pairs_any _ d.pairs _ (H1.out.ext rLtr_stable (by repeat (first | exact Ext.refl _ | apply Ext.plus | apply Ext.alloc | apply Ext.drew)))).mono ?_; rintro e _ ⟨rfl, X, rfl⟩) | (go_at_call 60; refine (l03Now_any _ _).mono ?_; rintro e _ ⟨rfl, rfl⟩) | (go_at_call 47; refine (l02Is_any _ _ _ _).mono ?_; rintro e _ ⟨rfl, rfl⟩))
    refine (l06Letters_any d _ _ d.box 6 _ (HD.out.ext (by repeat (first | exact Ext.refl _ | apply Ext.plus | apply Ext.alloc | apply Ext.drew))) (H2.out.ext rLtr_stable (by repeat (first | exact Ext.refl _ | apply Ext.plus | apply Ext.alloc | apply Ext.drew))) HQ1.out).mono ?_
    rintro e _ ⟨rfl, Y, rfl⟩
    go_wp2_with fail
    refine (l06Letters_any d _ _ d.audit 20 _ (HD.out.ext (by repeat (first | exact Ext.refl _ | apply Ext.plus | apply Ext.alloc | apply Ext.drew))) (H3.out.ext rLtr_stable (by repeat (first | exact Ext.refl _ | apply Ext.plus | apply Ext.alloc | apply Ext.drew))) HQ1.out).mono ?_
    rintro e _ ⟨rfl, Z, rfl⟩
    go_wp2_with (first | (go_at_call 59; refine (l06Pairs_any _ d.pairs _ (H1.out.ext rLtr_stable (by repeat (first | exact Ext.refl _ | apply Ext.plus | apply Ext.alloc | apply Ext.drew)))).mono ?_; rintro e _ ⟨rfl, X, rfl⟩) | (go_at_call 60; refine (l03Now_any _ _).mono ?_; rintro e _ ⟨rfl, rfl⟩) | (go_at_call 47; refine (l02Is_any _ _ _ _).mono ?_; rintro e _ ⟨rfl, rfl⟩))
    go_ret
    exact ⟨ret_bool HN.out.symm, (by repeat (first | exact Ext.refl _ | apply Ext.plus | apply Ext.alloc | apply Ext.drew))⟩
  have H5 := Lib.hid (isIn_iff.1 q5)
  go_enter Try.func18, Try.ntmps18
  go_wp2_with (first | (go_at_call 59; refine (l06Pairs_any _ d.pairs _ (H1.out.ext rLtr_stable (by repeat (first | exact Ext.refl _ | apply Ext.plus | apply Ext.alloc | apply Ext.drew)))).mono ?_; rintro e _ ⟨rfl, X, rfl⟩) | (go_at_call 60; refine (l03Now_any _ _).mono ?_; rintro e _ ⟨rfl, rfl⟩) | (go_at_call 47; refine (l02Is_any _ _ _ _).mono ?_; rintro e _ ⟨rfl, rfl⟩))
  refine (l06Letters_any d _ _ d.box 6 _ (HD.out.ext (by repeat (first | exact Ext.refl _ | apply Ext.plus | apply Ext.alloc | apply Ext.drew))) (H2.out.ext rLtr_stable (by repeat (first | exact Ext.refl _ | apply Ext.plus | apply Ext.alloc | apply Ext.drew))) HQ1.out).mono ?_
  rintro e _ ⟨rfl, Y, rfl⟩
  go_wp2_with fail
  refine (l06Letters_any d _ _ d.audit 20 _ (HD.out.ext (by repeat (first | exact Ext.refl _ | apply Ext.plus | apply Ext.alloc | apply Ext.drew))) (H3.out.ext rLtr_stable (by repeat (first | exact Ext.refl _ | apply Ext.plus | apply Ext.alloc | apply Ext.drew))) HQ1.out).mono ?_
  rintro e _ ⟨rfl, Z, rfl⟩
  go_wp2_with (first | (go_at_call 59; refine (l06Pairs_any _ d.pairs _ (H1.out.ext rLtr_stable (by repeat (first | exact Ext.refl _ | apply Ext.plus | apply Ext.alloc | apply Ext.drew)))).mono ?_; rintro e _ ⟨rfl, X, rfl⟩) | (go_at_call 60; refine (l03Now_any _ _).mono ?_; rintro e _ ⟨rfl, rfl⟩) | (go_at_call 47; refine (l02Is_any _ _ _ _).mono ?_; rintro e _ ⟨rfl, rfl⟩))
  clear q1 q2 q3 q4 q5
  go_loopw [3, 4] (fun u i wr => ∃ k : Nat, k ≤ d.audit.length ∧ i = .int .i64 k ∧ u = .int .i64 (cntT (d.audit.take k) d.now : Nat) ∧ Ext (w.alloc (.cells #[.slice a1 d.pairs.length c1, .slice a2 d.box.length c2, .slice a3 d.audit.length c3, (.int .i64 d.used), (.int .i64 d.now)] 25)) wr) (fun _ i _ => d.audit.length - (intOf i).toNat)
  case atStart => exact ⟨0, Nat.zero_le _, rfl, rfl, (by repeat (first | exact Ext.refl _ | apply Ext.plus | apply Ext.alloc | apply Ext.drew))⟩
  case round =>
    obtain ⟨k, hk, rfl, rfl, ⟨X, rfl⟩⟩ := hrel
    have hcl := cntT_le (d.audit.take k) d.now
    have hcl2 : (d.audit.take k).length ≤ k := by simp; omega
    by_cases hlt : k < d.audit.length
    · obtain ⟨b, off, rfl⟩ := slr_some H3.out hlt
      obtain ⟨ho, hok, h0, h1, h2, h3, h4, h5⟩ := ltr_at H3.out hlt
      have HS := Lib.hid (cntT_step (now := d.now) hlt)
      generalize cntT (d.audit.take k) d.now = n at *
      cases hp : (d.audit[k].p == d.now)
      · have HQ := Lib.hid (HS.out.trans (by rw [if_neg (by simpa using hp), Nat.add_zero]))
        go_upto_region 7 with fail
        (refine wp_region_x 9 (by kernel_rfl) (by kernel_rfl) (by kernel_rfl) ?_; (iterate 9 (apply XReg.step; (case h => (intro w' hw'; obtain ⟨X', rfl⟩ := hw'; go_wp2_with (fail); exact ⟨rfl, (by repeat (first | exact Ext.refl _ | apply Ext.plus | apply Ext.alloc | apply Ext.drew))⟩)); (case hv => kernel_rfl))); refine XReg.doneN (fun X => ?_))
        go_wp2
        exact ⟨⟨k + 1, by omega, by go_num, (by rw [HQ.out]), (by repeat (first | exact Ext.refl _ | apply Ext.plus | apply Ext.alloc | apply Ext.drew))⟩, by simp [intOf]; omega⟩
      · have HQ := Lib.hid (HS.out.trans (by rw [if_pos (by simpa using hp)]))
        go_upto_region 7 with fail
        (refine wp_region_x 9 (by kernel_rfl) (by kernel_rfl) (by kernel_rfl) ?_; (iterate 9 (apply XReg.step; (case h => (intro w' hw'; obtain ⟨X', rfl⟩ := hw'; go_wp2_with (fail); exact ⟨rfl, (by repeat (first | exact Ext.refl _ | apply Ext.plus | apply Ext.alloc | apply Ext.drew))⟩)); (case hv => kernel_rfl))); refine XReg.doneN (fun X => ?_))
        go_wp2
        exact ⟨⟨k + 1, by omega, by go_num, (by rw [HQ.out]; go_num), (by repeat (first | exact Ext.refl _ | apply Ext.plus | apply Ext.alloc | apply Ext.drew))⟩, by simp [intOf]; omega⟩
    · obtain rfl : k = d.audit.length := by omega
      rw [List.take_length] at hcl hcl2 ⊢
      generalize hn : cntT d.audit d.now = n at *
      have HNN := Lib.hid hn
      clear hn hcl2
      go_wp2
      go_loopw [5, 6, 7] (fun i _ _ wr => ∃ k : Nat, k ≤ d.box.length ∧ i = .int .i64 k ∧ Ext (w.alloc (.cells #[.slice a1 d.pairs.length c1, .slice a2 d.box.length c2, .slice a3 d.audit.length c3, (.int .i64 d.used), (.int .i64 d.now)] 25)) wr ∧ Hid (∀ (j : Nat) (hj : j < d.box.length), j < k → hasT d.audit d.box[j] = true)) (fun i _ _ _ => d.box.length - (intOf i).toNat)
      case atStart => exact ⟨0, Nat.zero_le _, rfl, (by repeat (first | exact Ext.refl _ | apply Ext.plus | apply Ext.alloc | apply Ext.drew)), Lib.hid (fun j _ h => absurd h (Nat.not_lt_zero _))⟩
      case round =>
        obtain ⟨k, hk, rfl, ⟨Y, rfl⟩, HH⟩ := hrel
        by_cases hlt : k < d.box.length
        · obtain ⟨b, off, rfl⟩ := slr_some H2.out hlt
          obtain ⟨ho, hok, h0, h1, h2, h3, h4, h5⟩ := ltr_at H2.out hlt
          go_wp2
          go_loopw [6, 7] (fun f i wr => ∃ m : Nat, m ≤ d.audit.length ∧ i = .int .i64 m ∧ (∃ q : Bool, f = .bool q ∧ Hid (q = hasT (d.audit.take m) d.box[k])) ∧ Ext (w.alloc (.cells #[.slice a1 d.pairs.length c1, .slice (some ⟨b, off, none⟩) d.box.length c2, .slice a3 d.audit.length c3, (.int .i64 d.used), (.int .i64 d.now)] 25)) wr) (fun _ i _ => d.audit.length - (intOf i).toNat)
          case atStart => exact ⟨0, Nat.zero_le _, rfl, ⟨false, rfl, Lib.hid (by unfold hasT; rfl)⟩, (by repeat (first | exact Ext.refl _ | apply Ext.plus | apply Ext.alloc | apply Ext.drew))⟩
          case round =>
            obtain ⟨m, hm, rfl, ⟨q, rfl, HQ⟩, ⟨Z2, rfl⟩⟩ := hrel
            by_cases hmt : m < d.audit.length
            · obtain ⟨b3, off3, rfl⟩ := slr_some H3.out hmt
              obtain ⟨go, gok, g0, g1, g2, g3, g4, g5⟩ := ltr_at H3.out hmt
              have HT := Lib.hid (hasT_step hmt d.box[k])
              cases q
              · cases hs : sameT ⟨⟨d.audit[m].a.lv, d.audit[m].a.st⟩, ⟨d.audit[m].b.lv, d.audit[m].b.st⟩, d.audit[m].p, d.audit[m].q⟩ ⟨⟨d.box[k].a.lv, d.box[k].a.st⟩, ⟨d.box[k].b.lv, d.box[k].b.st⟩, d.box[k].p, d.box[k].q⟩
                · have HR : Hid (false = hasT (d.audit.take (m + 1)) d.box[k]) := Lib.hid (by rw [HT.out, ← HQ.out, show sameT d.audit[m] d.box[k] = false from hs]; rfl)
                  go_upto_region 16 with fail
                  (refine wp_region_x 15 (by kernel_rfl) (by kernel_rfl) (by kernel_rfl) ?_; (iterate 15 (apply XReg.step; (case h => (intro w' hw'; obtain ⟨X', rfl⟩ := hw'; go_wp2_with (fail); exact ⟨rfl, (by repeat (first | exact Ext.refl _ | apply Ext.plus | apply Ext.alloc | apply Ext.drew))⟩)); (case hv => kernel_rfl))); refine XReg.doneN (fun X => ?_))
                  go_wp2
                  exact ⟨⟨m + 1, by omega, by go_num, ⟨_, rfl, HR⟩, (by repeat (first | exact Ext.refl _ | apply Ext.plus | apply Ext.alloc | apply Ext.drew))⟩, by simp [intOf]; omega⟩
                · have HR : Hid (true = hasT (d.audit.take (m + 1)) d.box[k]) := Lib.hid (by rw [HT.out, ← HQ.out, show sameT d.audit[m] d.box[k] = true from hs]; rfl)
                  go_upto_region 16 with fail
                  (refine wp_region_x 15 (by kernel_rfl) (by kernel_rfl) (by kernel_rfl) ?_; (iterate 15 (apply XReg.step; (case h => (intro w' hw'; obtain ⟨X', rfl⟩ := hw'; go_wp2_with (fail); exact ⟨rfl, (by repeat (first | exact Ext.refl _ | apply Ext.plus | apply Ext.alloc | apply Ext.drew))⟩)); (case hv => kernel_rfl))); refine XReg.doneN (fun X => ?_))
                  go_wp2
                  exact ⟨⟨m + 1, by omega, by go_num, ⟨_, rfl, HR⟩, (by repeat (first | exact Ext.refl _ | apply Ext.plus | apply Ext.alloc | apply Ext.drew))⟩, by simp [intOf]; omega⟩
              · have HR : Hid (true = hasT (d.audit.take (m + 1)) d.box[k]) := Lib.hid (by rw [HT.out, ← HQ.out]; rfl)
                go_upto_region 16 with fail
                (refine wp_region_x 15 (by kernel_rfl) (by kernel_rfl) (by kernel_rfl) ?_; (iterate 15 (apply XReg.step; (case h => (intro w' hw'; obtain ⟨X', rfl⟩ := hw'; go_wp2_with (fail); exact ⟨rfl, (by repeat (first | exact Ext.refl _ | apply Ext.plus | apply Ext.alloc | apply Ext.drew))⟩)); (case hv => kernel_rfl))); refine XReg.doneN (fun X => ?_))
                go_wp2
                exact ⟨⟨m + 1, by omega, by go_num, ⟨_, rfl, HR⟩, (by repeat (first | exact Ext.refl _ | apply Ext.plus | apply Ext.alloc | apply Ext.drew))⟩, by simp [intOf]; omega⟩
            · obtain rfl : m = d.audit.length := by omega
              rw [List.take_length] at HQ
              cases q
              · have HF : Hid (boxR d = false) := Lib.hid (by
                  rw [HE.out, show d.box.any (fun x => !hasT d.audit x) = true from List.any_eq_true.2 ⟨_, List.getElem_mem hlt, by rw [← HQ.out]; rfl⟩]; simp)
                go_wp2
                go_ret
                exact ⟨ret_bool HF.out.symm, (by repeat (first | exact Ext.refl _ | apply Ext.plus | apply Ext.alloc | apply Ext.drew))⟩
              · go_wp2
                exact ⟨⟨k + 1, by omega, by go_num, (by repeat (first | exact Ext.refl _ | apply Ext.plus | apply Ext.alloc | apply Ext.drew)), Lib.hid (fun j hj hjk => by
                  by_cases e : j < k
                  · exact HH.out j hj e
                  · obtain rfl : j = k := by omega
                    exact HQ.out.symm)⟩, by simp [intOf]; omega⟩
        · have HA : Hid (d.box.any (fun x => !hasT d.audit x) = false) := Lib.hid (by
            rw [List.any_eq_false]
            intro x hx
            obtain ⟨i, hi, rfl⟩ := List.mem_iff_getElem.1 hx
            rw [HH.out i hi (by omega)]; simp)
          have HF : Hid (boxR d = ((n : Int) == d.used)) := Lib.hid (by
            rw [HE.out, HA.out]
            have := H5.out
            by_cases e : d.used = (n : Int)
            · rw [decide_eq_true e, decide_eq_true (show (n : Int) ≤ 2 by omega)]; simp [e]
            · rw [decide_eq_false e]
              have : ((n : Int) == d.used) = false := by simpa using fun h => e h.symm
              rw [this]; rfl)
          go_wp2
          go_ret
          exact ⟨ret_bool HF.out.symm, (by repeat (first | exact Ext.refl _ | apply Ext.plus | apply Ext.alloc | apply Ext.drew))⟩
end Go.Proofs.Ytocadhcggkbimaa
