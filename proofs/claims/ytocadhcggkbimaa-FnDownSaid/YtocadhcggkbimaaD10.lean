/- The walks of BoxRight. -/
import Derived.Test.YtocadhcggkbimaaD8
import Derived.Test.YtocadhcggkbimaaD9
import Derived.Test.YtocadhcggkbimaaQ2
set_option maxRecDepth 100000
set_option linter.unusedVariables false
namespace Go.Proofs.Ytocadhcggkbimaa
open Go.RowKit Go.Fin1

theorem hasT_step {l : List Ltr} {m : Nat} (h : m < l.length) (x : Ltr) : hasT (l.take (m + 1)) x = (hasT (l.take m) x || sameT l[m] x) := by
  unfold hasT; rw [List.take_succ_eq_append_getElem h, List.any_append]; simp
theorem boxR_used {d : Dk} (h : isIn d.used 0 2 = false) : boxR d = false := by
  cases hb : boxR d
  · rfl
  · obtain ⟨_, _, _, _, h1, h2⟩ := boxR_at hb
    rw [show isIn d.used 0 2 = true from isIn_iff.2 (by omega)] at h; cases h

set_option maxHeartbeats 800000 in
theorem indexFuncLtr_any (fn : Nat) (cap : Array Value) (p : Ltr → Bool) (v : Value) (l : List Ltr) (w : World) (h : SlR w 6 rLtr v l)
    (hcf : ∀ args w, (callFunc fn args).run Try.prog w = .ok (.enter fn args) w) (Hf : ∀ W x, Ext w W → Calls Try.prog fn (#[.agg #[(.int .i64 x.a.lv), (.int .i64 x.a.st), (.int .i64 x.b.lv), (.int .i64 x.b.st), (.int .i64 x.p), (.int .i64 x.q)]] ++ cap) W fun e w' => e = .returned (.bool (p x)) ∧ Ext W w') :
    Calls Try.prog 92 #[v, .func (.func fn) #[] cap] w fun e w' =>
      e = .returned ((.int .i64 (findI p l))) ∧ Ext w w' := by
  obtain ⟨a, cap', rfl⟩ := h.len
  obtain ⟨_, hlc, hcm⟩ := slr_len h
  have hlm : l.length ≤ 9223372036854775807 := by unfold maxLen at hcm; omega
  clear hcm hlc
  have HS := Lib.hid h
  have HF := Lib.hid Hf
  clear h Hf
  go_enter Try.func92, Try.ntmps92
  go_wp2
  go_loopw [8, 5] (fun i _ wr => ∃ k : Nat, k ≤ l.length ∧ i = .int .i64 k ∧ Ext w wr ∧ Hid (∀ j (hj : j < l.length), j < k → p l[j] = false)) (fun i _ _ => l.length - (intOf i).toNat)
  case atStart =>
    exact ⟨0, Nat.zero_le _, rfl, Ext.refl _, Lib.hid (fun j _ h => absurd h (Nat.not_lt_zero _))⟩
  case round =>
    obtain ⟨k, hk, rfl, ⟨X, rfl⟩, HH⟩ := hrel
    by_cases hlt : k < l.length
    · obtain ⟨b, off, rfl⟩ := slr_some HS.out hlt
      obtain ⟨ho, hok, h0, h1, h2, h3, h4, h5⟩ := ltr_at HS.out hlt
      go_wp2_with fail
      refine (HF.out _ l[k] (Ext.refl w |>.plus X)).mono ?_
      rintro e _ ⟨rfl, Y, rfl⟩
      cases hp : p l[k]
      · go_wp2
        exact ⟨⟨k + 1, by omega, by go_num, (by repeat (first | exact Ext.refl _ | apply Ext.plus | apply Ext.alloc | apply Ext.drew)), Lib.hid (fun j hj hjk => by
          by_cases e : j < k
          · exact HH.out j hj e
          · obtain rfl : j = k := by omega
            exact hp)⟩, by simp [intOf]; omega⟩
      · go_wp2
        go_ret
        exact ⟨ret_int (findI_at hlt HH.out hp).symm, (by repeat (first | exact Ext.refl _ | apply Ext.plus | apply Ext.alloc | apply Ext.drew))⟩
    · go_wp2
      go_ret
      exact ⟨ret_int (findI_none (fun j hj => HH.out j hj (by omega))).symm, (by repeat (first | exact Ext.refl _ | apply Ext.plus | apply Ext.alloc | apply Ext.drew))⟩

set_option maxHeartbeats 800000 in
theorem containsFuncLtr_any (fn : Nat) (cap : Array Value) (p : Ltr → Bool) (v : Value) (l : List Ltr) (w : World) (h : SlR w 6 rLtr v l)
    (hcf : ∀ args w, (callFunc fn args).run Try.prog w = .ok (.enter fn args) w) (Hf : ∀ W x, Ext w W → Calls Try.prog fn (#[.agg #[(.int .i64 x.a.lv), (.int .i64 x.a.st), (.int .i64 x.b.lv), (.int .i64 x.b.st), (.int .i64 x.p), (.int .i64 x.q)]] ++ cap) W fun e w' => e = .returned (.bool (p x)) ∧ Ext W w') :
    Calls Try.prog 57 #[v, .func (.func fn) #[] cap] w fun e w' => e = .returned (.bool (l.any p)) ∧ Ext w w' := by
  have HS := Lib.hid (indexFuncLtr_any fn cap p v l w h hcf Hf)
  clear h hcf Hf
  go_enter Try.func57, Try.ntmps57
  go_wp2_with fail
  refine (HS.out).mono ?_
  rintro e _ ⟨rfl, X, rfl⟩
  go_wp2
  go_ret
  exact ⟨ret_bool (findI_nonneg p l), (by repeat (first | exact Ext.refl _ | apply Ext.plus | apply Ext.alloc | apply Ext.drew))⟩

set_option maxHeartbeats 400000 in
theorem BoxRight1_any (v : Value) (l : List Ltr) (x : Ltr) (b : Nat) (w : World) (h0 : w.cell? ⟨b, 2, none⟩ = some v) (h : SlR w 6 rLtr v l) :
    Calls Try.prog 58 #[.agg #[(.int .i64 x.a.lv), (.int .i64 x.a.st), (.int .i64 x.b.lv), (.int .i64 x.b.st), (.int .i64 x.p), (.int .i64 x.q)], .pointer (some ⟨b, 0, none⟩)] w fun e w' => e = .returned (.bool (!hasT l x)) ∧ Ext w w' := by
  have ho := World.old_of_cell h0
  have HS := Lib.hid h
  clear h
  go_enter Try.func58, Try.ntmps58
  go_wp2_with fail
  refine (containsLtr_any v l x _ (HS.out.ext rLtr_stable (by repeat (first | exact Ext.refl _ | apply Ext.plus | apply Ext.alloc | apply Ext.drew)))).mono ?_
  rintro e _ ⟨rfl, X, rfl⟩
  go_wp2
  go_ret
  exact ⟨rfl, (by repeat (first | exact Ext.refl _ | apply Ext.plus | apply Ext.alloc | apply Ext.drew))⟩

set_option maxHeartbeats 3200000 in
theorem implBoxRight_any (d : Dk) (v : Value) (w : World) (h : eDesk w v d) :
    Calls Try.prog 17 #[v] w fun e w' => e = .returned (.bool (boxR d)) ∧ Ext w w' := by
  have HD := Lib.hid h
  obtain ⟨a1, c1, a2, c2, a3, c3, rfl, z1, z2, p1, p2, p3⟩ := h
  obtain ⟨_, hlc, hcm⟩ := slr_len p3
  have hlm : d.audit.length ≤ 9223372036854775807 := by unfold maxLen at hcm; omega
  have H1 := Lib.hid p1
  have H2 := Lib.hid p2
  have H3 := Lib.hid p3
  clear p1 p2 p3 z1 z2 hlc hcm
  unfold Dk.val at HD ⊢
  have hcs : (chansR d.pairs = false) ∨ (chansR d.pairs = true ∧ isIn d.now 0 999900 = false) ∨ (chansR d.pairs = true ∧ isIn d.now 0 999900 = true ∧ letsR d.pairs d.now d.box 6 = false) ∨ (chansR d.pairs = true ∧ isIn d.now 0 999900 = true ∧ letsR d.pairs d.now d.box 6 = true ∧ letsR d.pairs d.now d.audit 20 = false) ∨ (chansR d.pairs = true ∧ isIn d.now 0 999900 = true ∧ letsR d.pairs d.now d.box 6 = true ∧ letsR d.pairs d.now d.audit 20 = true) := by
    cases chansR d.pairs <;> cases isIn d.now 0 999900 <;> cases letsR d.pairs d.now d.box 6 <;> cases letsR d.pairs d.now d.audit 20 <;> simp
  rcases hcs with q1 | ⟨q1, q2⟩ | ⟨q1, q2, q3⟩ | ⟨q1, q2, q3, q4⟩ | ⟨q1, q2, q3, q4⟩
  · have HN := Lib.hid (boxR_no1 (d := d) (by rw [q1]; rfl))
    go_enter Try.func17, Try.ntmps17
    go_wp2_with (first | (go_at_call 54; refine (pairsRight_any _ d.pairs _ (H1.out.ext rLtr_stable (by repeat (first | exact Ext.refl _ | apply Ext.plus | apply Ext.alloc | apply Ext.drew)))).mono ?_; rintro e _ ⟨rfl, X, rfl⟩) | (go_at_call 55; refine (isNow_any _ _).mono ?_; rintro e _ ⟨rfl, rfl⟩))
    go_ret
    exact ⟨ret_bool HN.out.symm, (by repeat (first | exact Ext.refl _ | apply Ext.plus | apply Ext.alloc | apply Ext.drew))⟩
  · have HN := Lib.hid (boxR_no1 (d := d) (by rw [q2]; simp))
    go_enter Try.func17, Try.ntmps17
    go_wp2_with (first | (go_at_call 54; refine (pairsRight_any _ d.pairs _ (H1.out.ext rLtr_stable (by repeat (first | exact Ext.refl _ | apply Ext.plus | apply Ext.alloc | apply Ext.drew)))).mono ?_; rintro e _ ⟨rfl, X, rfl⟩) | (go_at_call 55; refine (isNow_any _ _).mono ?_; rintro e _ ⟨rfl, rfl⟩))
    go_ret
    exact ⟨ret_bool HN.out.symm, (by repeat (first | exact Ext.refl _ | apply Ext.plus | apply Ext.alloc | apply Ext.drew))⟩
  · have HN := Lib.hid (boxR_no1 (d := d) (by rw [q3]; simp))
    go_enter Try.func17, Try.ntmps17
    go_wp2_with (first | (go_at_call 54; refine (pairsRight_any _ d.pairs _ (H1.out.ext rLtr_stable (by repeat (first | exact Ext.refl _ | apply Ext.plus | apply Ext.alloc | apply Ext.drew)))).mono ?_; rintro e _ ⟨rfl, X, rfl⟩) | (go_at_call 55; refine (isNow_any _ _).mono ?_; rintro e _ ⟨rfl, rfl⟩))
    refine (lettersRight_any d _ _ d.box 6 _ (HD.out.ext (by repeat (first | exact Ext.refl _ | apply Ext.plus | apply Ext.alloc | apply Ext.drew))) (H2.out.ext rLtr_stable (by repeat (first | exact Ext.refl _ | apply Ext.plus | apply Ext.alloc | apply Ext.drew)))).mono ?_
    rintro e _ ⟨rfl, Y, rfl⟩
    go_wp2
    go_ret
    exact ⟨ret_bool HN.out.symm, (by repeat (first | exact Ext.refl _ | apply Ext.plus | apply Ext.alloc | apply Ext.drew))⟩
  · have HN := Lib.hid (boxR_no1 (d := d) (by rw [q4]; simp))
    go_enter Try.func17, Try.ntmps17
    go_wp2_with (first | (go_at_call 54; refine (pairsRight_any _ d.pairs _ (H1.out.ext rLtr_stable (by repeat (first | exact Ext.refl _ | apply Ext.plus | apply Ext.alloc | apply Ext.drew)))).mono ?_; rintro e _ ⟨rfl, X, rfl⟩) | (go_at_call 55; refine (isNow_any _ _).mono ?_; rintro e _ ⟨rfl, rfl⟩))
    refine (lettersRight_any d _ _ d.box 6 _ (HD.out.ext (by repeat (first | exact Ext.refl _ | apply Ext.plus | apply Ext.alloc | apply Ext.drew))) (H2.out.ext rLtr_stable (by repeat (first | exact Ext.refl _ | apply Ext.plus | apply Ext.alloc | apply Ext.drew)))).mono ?_
    rintro e _ ⟨rfl, Y, rfl⟩
    go_wp2_with fail
    refine (lettersRight_any d _ _ d.audit 20 _ (HD.out.ext (by repeat (first | exact Ext.refl _ | apply Ext.plus | apply Ext.alloc | apply Ext.drew))) (H3.out.ext rLtr_stable (by repeat (first | exact Ext.refl _ | apply Ext.plus | apply Ext.alloc | apply Ext.drew)))).mono ?_
    rintro e _ ⟨rfl, Z, rfl⟩
    go_wp2
    go_ret
    exact ⟨ret_bool HN.out.symm, (by repeat (first | exact Ext.refl _ | apply Ext.plus | apply Ext.alloc | apply Ext.drew))⟩
  have HE := Lib.hid (boxR_eq (d := d) (by rw [q1, q2, q3, q4]; rfl))
  go_enter Try.func17, Try.ntmps17
  go_wp2_with (first | (go_at_call 54; refine (pairsRight_any _ d.pairs _ (H1.out.ext rLtr_stable (by repeat (first | exact Ext.refl _ | apply Ext.plus | apply Ext.alloc | apply Ext.drew)))).mono ?_; rintro e _ ⟨rfl, X, rfl⟩) | (go_at_call 55; refine (isNow_any _ _).mono ?_; rintro e _ ⟨rfl, rfl⟩))
  refine (lettersRight_any d _ _ d.box 6 _ (HD.out.ext (by repeat (first | exact Ext.refl _ | apply Ext.plus | apply Ext.alloc | apply Ext.drew))) (H2.out.ext rLtr_stable (by repeat (first | exact Ext.refl _ | apply Ext.plus | apply Ext.alloc | apply Ext.drew)))).mono ?_
  rintro e _ ⟨rfl, Y, rfl⟩
  go_wp2_with fail
  refine (lettersRight_any d _ _ d.audit 20 _ (HD.out.ext (by repeat (first | exact Ext.refl _ | apply Ext.plus | apply Ext.alloc | apply Ext.drew))) (H3.out.ext rLtr_stable (by repeat (first | exact Ext.refl _ | apply Ext.plus | apply Ext.alloc | apply Ext.drew)))).mono ?_
  rintro e _ ⟨rfl, Z, rfl⟩
  go_wp2
  clear q1 q2 q3 q4
  go_loopw [33, 3, 5] (fun i u _ wr => ∃ k : Nat, k ≤ d.audit.length ∧ i = .int .i64 k ∧ u = .int .i64 (cntT (d.audit.take k) d.now : Nat) ∧ Ext (w.alloc (.cells #[.slice a1 d.pairs.length c1, .slice a2 d.box.length c2, .slice a3 d.audit.length c3, (.int .i64 d.used), (.int .i64 d.now)] 25)) wr) (fun i _ _ _ => d.audit.length - (intOf i).toNat)
  case atStart => exact ⟨0, Nat.zero_le _, rfl, rfl, (by repeat (first | exact Ext.refl _ | apply Ext.plus | apply Ext.alloc | apply Ext.drew))⟩
  case round =>
    obtain ⟨k, hk, rfl, rfl, ⟨X, rfl⟩⟩ := hrel
    have hcl := cntT_le (d.audit.take k) d.now
    have hcl2 : (d.audit.take k).length ≤ k := by simp; omega
    by_cases hlt : k < d.audit.length
    · obtain ⟨b, off, rfl⟩ := slr_some H3.out hlt
      obtain ⟨ho, hok, h0, h1, h2, h3, h4, h5⟩ := ltr_at H3.out hlt
      have HS := Lib.hid (cntT_step (now := d.now) hlt)
      generalize cntT (d.audit.take k) d.now = n at *
      cases hp : (d.audit[k].p == d.now)
      · have HQ := Lib.hid (HS.out.trans (by rw [if_neg (by simpa using hp), Nat.add_zero]))
        go_wp2
        exact ⟨⟨k + 1, by omega, by go_num, (by rw [HQ.out]), (by repeat (first | exact Ext.refl _ | apply Ext.plus | apply Ext.alloc | apply Ext.drew))⟩, by simp [intOf]; omega⟩
      · have HQ := Lib.hid (HS.out.trans (by rw [if_pos (by simpa using hp)]))
        go_wp2
        exact ⟨⟨k + 1, by omega, by go_num, (by rw [HQ.out]; go_num), (by repeat (first | exact Ext.refl _ | apply Ext.plus | apply Ext.alloc | apply Ext.drew))⟩, by simp [intOf]; omega⟩
    · obtain rfl : k = d.audit.length := by omega
      rw [List.take_length] at hcl hcl2 ⊢
      generalize hn : cntT d.audit d.now = n at *
      have HNN := Lib.hid hn
      clear hn hcl2
      have hcs : (d.used == (n : Int)) = false ∨ ((d.used == (n : Int)) = true ∧ decide ((n : Int) ≤ 2) = false) ∨ ((d.used == (n : Int)) = true ∧ decide ((n : Int) ≤ 2) = true) := by
        cases (d.used == (n : Int)) <;> cases decide ((n : Int) ≤ 2) <;> simp
      rcases hcs with q1 | ⟨q1, q2⟩ | ⟨q1, q2⟩
      · have HF : Hid (boxR d = false) := Lib.hid (by rw [HE.out, decide_eq_false (by simpa using q1)]; rfl)
        go_wp2
        go_ret
        exact ⟨ret_bool HF.out.symm, (by repeat (first | exact Ext.refl _ | apply Ext.plus | apply Ext.alloc | apply Ext.drew))⟩
      · have HF : Hid (boxR d = false) := Lib.hid (by rw [HE.out, q2]; simp)
        go_wp2
        go_ret
        exact ⟨ret_bool HF.out.symm, (by repeat (first | exact Ext.refl _ | apply Ext.plus | apply Ext.alloc | apply Ext.drew))⟩
      · have HF : Hid (boxR d = !d.box.any (fun x => !hasT d.audit x)) := Lib.hid (by rw [HE.out, q2, decide_eq_true (show d.used = (n : Int) by simpa using q1)]; rfl)
        go_wp2_with fail
        refine (containsFuncLtr_any 58 #[.pointer (some ⟨w.heap.size, 0, none⟩)] (fun x => !hasT d.audit x) _ d.box _ (H2.out.ext rLtr_stable (by repeat (first | exact Ext.refl _ | apply Ext.plus | apply Ext.alloc | apply Ext.drew))) (fun _ _ => rfl) ?_).mono ?_
        · rintro W x ⟨Y, rfl⟩
          exact BoxRight1_any _ d.audit x _ _ (by simp [go_sem]) (H3.out.ext rLtr_stable (by repeat (first | exact Ext.refl _ | apply Ext.plus | apply Ext.alloc | apply Ext.drew)))
        rintro e _ ⟨rfl, Y, rfl⟩
        go_wp2
        go_ret
        exact ⟨ret_bool HF.out.symm, (by repeat (first | exact Ext.refl _ | apply Ext.plus | apply Ext.alloc | apply Ext.drew))⟩

end Go.Proofs.Ytocadhcggkbimaa
