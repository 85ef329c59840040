/- impl: the pairs of a configuration. -/
import Derived.Test.YtkekfncgpbileaaCG2
import Derived.Test.YtkekfncgpbileaaE5
import Derived.Test.YtkekfncgpbileaaZ1
import Derived.Test.YtkekfncgpbileaaP2
import Derived.Test.YtkekfncgpbileaaW2
set_option maxRecDepth 100000
set_option linter.unusedVariables false
namespace Go.Proofs.Ytkekfncgpbileaa
open Go.RowKit Go.Fin1
set_option maxHeartbeats 800000 in
theorem indexFuncPrr_any (fn : Nat) (cap : Array Value) (p : Prr → Bool) (v : Value) (l : List Prr) (w : World) (h : SlR w 5 rPrr v l)
    (hcf : ∀ args w, (callFunc fn args).run Try.prog w = .ok (.enter fn args) w) (Hf : ∀ W x, Ext w W → Calls Try.prog fn (#[.agg #[(.int .i64 x.a.lv), (.int .i64 x.a.st), (.int .i64 x.b.lv), (.int .i64 x.b.st), (.int .i64 x.rate)]] ++ cap) W fun e w' => e = .returned (.bool (p x)) ∧ Ext W w') :
    Calls Try.prog 163 #[v, .func (.func fn) #[] cap] w fun e w' =>
      e = .returned ((.int .i64 (findI p l))) ∧ Ext w w' := by
  obtain ⟨a, cap', rfl⟩ := h.len
  obtain ⟨_, hlc, hcm⟩ := slr_len h
  have hlm : l.length ≤ 9223372036854775807 := by unfold maxLen at hcm; omega
  clear hcm hlc
  have HS := Lib.hid h
  have HF := Lib.hid Hf
  clear h Hf
  go_enter Try.func163, Try.ntmps163
  go_wp2
  go_loopw [8, 5] (fun i _ wr => ∃ k : Nat, k ≤ l.length ∧ i = .int .i64 k ∧ Ext w wr ∧ Hid (∀ j (hj : j < l.length), j < k → p l[j] = false)) (fun i _ _ => l.length - (intOf i).toNat)
  case atStart =>
    exact ⟨0, Nat.zero_le _, rfl, Ext.refl _, Lib.hid (fun j _ h => absurd h (Nat.not_lt_zero _))⟩
  case round =>
    obtain ⟨k, hk, rfl, ⟨X, rfl⟩, HH⟩ := hrel
    by_cases hlt : k < l.length
    · obtain ⟨b, off, rfl⟩ := slr_some HS.out hlt
      obtain ⟨ho, hok, h0, h1, h2, h3, h4⟩ := prr_at HS.out hlt
      go_wp2_with fail
      refine (HF.out _ l[k] (Ext.refl w |>.plus X)).mono ?_
      rintro e _ ⟨rfl, Y, rfl⟩
      cases hp : p l[k]
      · go_wp2
        exact ⟨⟨k + 1, by omega, by go_num, (by repeat (first | exact Ext.refl _ | apply Ext.plus | apply Ext.alloc | apply Ext.drew)), Lib.hid (fun j hj hjk => by
          by_cases e : j < k
          · exact HH.out j hj e
          · obtain rfl : j = k := by omega
            exact hp)⟩, by simp [intOf]; omega⟩
      · go_wp2
        go_ret
        exact ⟨ret_int (findI_at hlt HH.out hp).symm, (by repeat (first | exact Ext.refl _ | apply Ext.plus | apply Ext.alloc | apply Ext.drew))⟩
    · go_wp2
      go_ret
      exact ⟨ret_int (findI_none (fun j hj => HH.out j hj (by omega))).symm, (by repeat (first | exact Ext.refl _ | apply Ext.plus | apply Ext.alloc | apply Ext.drew))⟩

set_option maxHeartbeats 800000 in
theorem containsFuncPrr_any (fn : Nat) (cap : Array Value) (p : Prr → Bool) (v : Value) (l : List Prr) (w : World) (h : SlR w 5 rPrr v l)
    (hcf : ∀ args w, (callFunc fn args).run Try.prog w = .ok (.enter fn args) w) (Hf : ∀ W x, Ext w W → Calls Try.prog fn (#[.agg #[(.int .i64 x.a.lv), (.int .i64 x.a.st), (.int .i64 x.b.lv), (.int .i64 x.b.st), (.int .i64 x.rate)]] ++ cap) W fun e w' => e = .returned (.bool (p x)) ∧ Ext W w') :
    Calls Try.prog 158 #[v, .func (.func fn) #[] cap] w fun e w' => e = .returned (.bool (l.any p)) ∧ Ext w w' := by
  have HS := Lib.hid (indexFuncPrr_any fn cap p v l w h hcf Hf)
  clear h hcf Hf
  go_enter Try.func158, Try.ntmps158
  go_wp2_with fail
  refine (HS.out).mono ?_
  rintro e _ ⟨rfl, X, rfl⟩
  go_wp2
  go_ret
  exact ⟨ret_bool (findI_nonneg p l), (by repeat (first | exact Ext.refl _ | apply Ext.plus | apply Ext.alloc | apply Ext.drew))⟩

theorem CellsAt.fresh9 (A : World) (cs : Array Value) (ty : TypeId) : CellsAt (A.alloc (.cells cs ty)) A.heap.size cs.toList := fun i u hu => by
  rw [World.cell?_alloc_new]; simpa using hu
set_option maxHeartbeats 800000 in
theorem pairsOf1_any (x y : Prr) (b : Nat) (w : World) (h0 : w.cell? ⟨b, 0, none⟩ = some (.int .i64 x.a.lv)) (h1 : w.cell? ⟨b, 1, none⟩ = some (.int .i64 x.a.st)) (h2 : w.cell? ⟨b, 2, none⟩ = some (.int .i64 x.b.lv)) (h3 : w.cell? ⟨b, 3, none⟩ = some (.int .i64 x.b.st)) :
    Calls Try.prog 159 #[.agg #[(.int .i64 y.a.lv), (.int .i64 y.a.st), (.int .i64 y.b.lv), (.int .i64 y.b.st), (.int .i64 y.rate)], .pointer (some ⟨b, 0, none⟩)] w fun e w' => e = .returned (.bool (samePr x y)) ∧ Ext w w' := by
  have ho := World.old_of_cell h0
  have HE : Hid (samePr x y = (sameL ⟨x.a.lv, x.a.st⟩ ⟨y.a.lv, y.a.st⟩ && sameL ⟨x.b.lv, x.b.st⟩ ⟨y.b.lv, y.b.st⟩)) := Lib.hid rfl
  cases q1 : sameL ⟨x.a.lv, x.a.st⟩ ⟨y.a.lv, y.a.st⟩ <;> cases q2 : sameL ⟨x.b.lv, x.b.st⟩ ⟨y.b.lv, y.b.st⟩
  all_goals rw [q1, q2] at HE
  all_goals go_enter Try.func159, Try.ntmps159
  all_goals go_wp2
  all_goals go_ret
  all_goals exact ⟨ret_bool HE.out.symm, (by repeat (first | exact Ext.refl _ | apply Ext.plus | apply Ext.alloc | apply Ext.drew))⟩
set_option maxHeartbeats 3200000 in
theorem pairsOf_any (c : Cfg) (ls : List Lab) (v lv : Value) (w : World) (h : eCfg w v c) (hls : SlR w 2 rLab lv ls) :
    Calls Try.prog 119 #[v, lv] w fun e w' => e = .returned (.bool (prsR ls c.pairs)) ∧ Ext w w' := by
  obtain ⟨a1, c1, a2, c2, a3, c3, rfl, hz, h1, h2, h3⟩ := h
  obtain ⟨-, hlc, hcm⟩ := slr_len h2
  have hlm : c.pairs.length ≤ 9223372036854775807 := by unfold maxLen at hcm; omega
  have H2 := Lib.hid h2
  have HLC := Lib.hid hlc
  have HL := Lib.hid hls
  obtain ⟨al, kl, rfl⟩ := hls.len
  clear h1 h2 h3 hz hls hlc hcm
  unfold Cfg.val
  go_enter Try.func119, Try.ntmps119
  go_wp2
  go_loopw [11] (fun i wr => ∃ k : Nat, k ≤ c.pairs.length ∧ i = .int .i64 k ∧ Ext (w.alloc (.cells #[.slice a1 c.nodes.length c1, .slice a2 c.pairs.length c2, .slice a3 c.quotas.length c3, (.int .i64 c.half)] 82)) wr ∧ Hid (∀ j, j < k → prAt ls c.pairs j = true)) (fun i _ => c.pairs.length - (intOf i).toNat)
  case atStart => exact ⟨0, Nat.zero_le _, rfl, (by repeat (first | exact Ext.refl _ | apply Ext.plus | apply Ext.alloc | apply Ext.drew)), Lib.hid (fun j h => absurd h (Nat.not_lt_zero _))⟩
  case round =>
    obtain ⟨k, hk, rfl, ⟨X, rfl⟩, HH⟩ := hrel
    by_cases hlt : k < c.pairs.length
    · obtain ⟨b, off, rfl⟩ := slr_some H2.out hlt
      obtain ⟨ho, hok, h0, h1, h2, h3, h4⟩ := prr_at H2.out hlt
      have HT := Lib.hid (SlR.take H2.out (Nat.le_of_lt hlt))
      have HE := Lib.hid (prAt_eq (ls := ls) hlt)
      have hkc : k ≤ c2 := Nat.le_trans (Nat.le_of_lt hlt) HLC.out
      go_wp2_with fail
      refine (containsFuncPrr_any 159 #[.pointer (some ⟨w.heap.size + 1 + X.n, 0, none⟩)] (fun y => samePr c.pairs[k] y) _ (c.pairs.take k) _ (HT.out.ext rPrr_stable (by repeat (first | exact Ext.refl _ | apply Ext.plus | apply Ext.alloc | apply Ext.drew))) (fun _ _ => rfl) ?_).mono ?_
      · intro W x hW
        have q := CellsAt.fresh9 ((w.alloc (.cells #[.slice a1 c.nodes.length c1, .slice (some ⟨b, off, none⟩) c.pairs.length c2, .slice a3 c.quotas.length c3, (.int .i64 c.half)] 82)).plus X) #[(.int .i64 c.pairs[k].a.lv), (.int .i64 c.pairs[k].a.st), (.int .i64 c.pairs[k].b.lv), (.int .i64 c.pairs[k].b.st), (.int .i64 c.pairs[k].rate)] 142
        simp only [World.size_plus, World.size_alloc] at q
        exact pairsOf1_any c.pairs[k] x _ W (hW.cell (q 0 _ rfl)) (hW.cell (q 1 _ rfl)) (hW.cell (q 2 _ rfl)) (hW.cell (q 3 _ rfl))
      rintro e _ ⟨rfl, Y9, rfl⟩
      have hcs : (c.pairs.take k).any (fun y => samePr c.pairs[k] y) = true ∨ (c.pairs.take k).any (fun y => samePr c.pairs[k] y) = false := by cases (c.pairs.take k).any (fun y => samePr c.pairs[k] y) <;> simp
      rcases hcs with r0 | r0
      · have HN := Lib.hid (prsR_no hlt (by rw [HE.out, r0]; rfl))
        rw [r0]
        go_wp2
        go_ret
        exact ⟨ret_bool HN.out.symm, (by repeat (first | exact Ext.refl _ | apply Ext.plus | apply Ext.alloc | apply Ext.drew))⟩
      rw [r0]
      cases r1 : hasL ls c.pairs[k].a
      · have HN := Lib.hid (prsR_no hlt (by rw [HE.out, r1]; simp))
        go_wp2_with (first | (go_at_call 160; refine (containsLab_any _ ls _ _ (HL.out.ext rLab_stable (by repeat (first | exact Ext.refl _ | apply Ext.plus | apply Ext.alloc | apply Ext.drew)))).mono ?_; rintro e _ ⟨rfl, Y, rfl⟩; first | rw [r1] | rw [r2]) | (go_at_call 98; refine (implbelow_any _ _ _ _ _ hok.1.2).mono ?_; rintro e _ ⟨rfl, Y, rfl⟩; rw [show blw ⟨c.pairs[k].a.lv, c.pairs[k].a.st⟩ ⟨c.pairs[k].b.lv, c.pairs[k].b.st⟩ = blw c.pairs[k].a c.pairs[k].b from rfl, r3]) | (go_at_call 81; refine (within_any _ _ _ _).mono ?_; rintro e _ ⟨rfl, rfl⟩; rw [r4]))
        go_ret
        exact ⟨ret_bool HN.out.symm, (by repeat (first | exact Ext.refl _ | apply Ext.plus | apply Ext.alloc | apply Ext.drew))⟩
      cases r2 : hasL ls c.pairs[k].b
      · have HN := Lib.hid (prsR_no hlt (by rw [HE.out, r2]; simp))
        go_wp2_with (first | (go_at_call 160; refine (containsLab_any _ ls _ _ (HL.out.ext rLab_stable (by repeat (first | exact Ext.refl _ | apply Ext.plus | apply Ext.alloc | apply Ext.drew)))).mono ?_; rintro e _ ⟨rfl, Y, rfl⟩; first | rw [r1] | rw [r2]) | (go_at_call 98; refine (implbelow_any _ _ _ _ _ hok.1.2).mono ?_; rintro e _ ⟨rfl, Y, rfl⟩; rw [show blw ⟨c.pairs[k].a.lv, c.pairs[k].a.st⟩ ⟨c.pairs[k].b.lv, c.pairs[k].b.st⟩ = blw c.pairs[k].a c.pairs[k].b from rfl, r3]) | (go_at_call 81; refine (within_any _ _ _ _).mono ?_; rintro e _ ⟨rfl, rfl⟩; rw [r4]))
        go_ret
        exact ⟨ret_bool HN.out.symm, (by repeat (first | exact Ext.refl _ | apply Ext.plus | apply Ext.alloc | apply Ext.drew))⟩
      cases r3 : blw c.pairs[k].a c.pairs[k].b
      case true =>
        have HN := Lib.hid (prsR_no hlt (by rw [HE.out, r3]; simp))
        go_wp2_with (first | (go_at_call 160; refine (containsLab_any _ ls _ _ (HL.out.ext rLab_stable (by repeat (first | exact Ext.refl _ | apply Ext.plus | apply Ext.alloc | apply Ext.drew)))).mono ?_; rintro e _ ⟨rfl, Y, rfl⟩; first | rw [r1] | rw [r2]) | (go_at_call 98; refine (implbelow_any _ _ _ _ _ hok.1.2).mono ?_; rintro e _ ⟨rfl, Y, rfl⟩; rw [show blw ⟨c.pairs[k].a.lv, c.pairs[k].a.st⟩ ⟨c.pairs[k].b.lv, c.pairs[k].b.st⟩ = blw c.pairs[k].a c.pairs[k].b from rfl, r3]) | (go_at_call 81; refine (within_any _ _ _ _).mono ?_; rintro e _ ⟨rfl, rfl⟩; rw [r4]))
        go_ret
        exact ⟨ret_bool HN.out.symm, (by repeat (first | exact Ext.refl _ | apply Ext.plus | apply Ext.alloc | apply Ext.drew))⟩
      cases r4 : isIn c.pairs[k].rate 1 3
      · have HN := Lib.hid (prsR_no hlt (by rw [HE.out, r4]; simp))
        go_wp2_with (first | (go_at_call 160; refine (containsLab_any _ ls _ _ (HL.out.ext rLab_stable (by repeat (first | exact Ext.refl _ | apply Ext.plus | apply Ext.alloc | apply Ext.drew)))).mono ?_; rintro e _ ⟨rfl, Y, rfl⟩; first | rw [r1] | rw [r2]) | (go_at_call 98; refine (implbelow_any _ _ _ _ _ hok.1.2).mono ?_; rintro e _ ⟨rfl, Y, rfl⟩; rw [show blw ⟨c.pairs[k].a.lv, c.pairs[k].a.st⟩ ⟨c.pairs[k].b.lv, c.pairs[k].b.st⟩ = blw c.pairs[k].a c.pairs[k].b from rfl, r3]) | (go_at_call 81; refine (within_any _ _ _ _).mono ?_; rintro e _ ⟨rfl, rfl⟩; rw [r4]))
        go_ret
        exact ⟨ret_bool HN.out.symm, (by repeat (first | exact Ext.refl _ | apply Ext.plus | apply Ext.alloc | apply Ext.drew))⟩
      have HY : Hid (prAt ls c.pairs k = true) := Lib.hid (by rw [HE.out, r0, r1, r2, r3, r4]; rfl)
      go_wp2_with (first | (go_at_call 160; refine (containsLab_any _ ls _ _ (HL.out.ext rLab_stable (by repeat (first | exact Ext.refl _ | apply Ext.plus | apply Ext.alloc | apply Ext.drew)))).mono ?_; rintro e _ ⟨rfl, Y, rfl⟩; first | rw [r1] | rw [r2]) | (go_at_call 98; refine (implbelow_any _ _ _ _ _ hok.1.2).mono ?_; rintro e _ ⟨rfl, Y, rfl⟩; rw [show blw ⟨c.pairs[k].a.lv, c.pairs[k].a.st⟩ ⟨c.pairs[k].b.lv, c.pairs[k].b.st⟩ = blw c.pairs[k].a c.pairs[k].b from rfl, r3]) | (go_at_call 81; refine (within_any _ _ _ _).mono ?_; rintro e _ ⟨rfl, rfl⟩; rw [r4]))
      exact ⟨⟨k + 1, by omega, by go_num, (by repeat (first | exact Ext.refl _ | apply Ext.plus | apply Ext.alloc | apply Ext.drew)), Lib.hid (fun j hj => by
        by_cases e : j < k
        · exact HH.out j e
        · obtain rfl : j = k := by omega
          exact HY.out)⟩, by simp [intOf]; omega⟩
    · obtain rfl : k = c.pairs.length := by omega
      have HA := Lib.hid (prsR_all HH.out)
      go_wp2
      go_ret
      exact ⟨ret_bool (by rw [HA.out]; exact decide_eq_decide.2 (by omega)), (by repeat (first | exact Ext.refl _ | apply Ext.plus | apply Ext.alloc | apply Ext.drew))⟩
end Go.Proofs.Ytkekfncgpbileaa
