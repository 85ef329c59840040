/- Letters: '==', slices.Index, slices.Contains; desks: the laws' own helpers. -/
import Derived.Test.YtkekfncgpbileaaD1
set_option maxRecDepth 100000
set_option linter.unusedVariables false
namespace Go.Proofs.Ytkekfncgpbileaa
open Go.ChangeShapes Go.WideShapes Go.ChangeAt Go.RowKit Go.Fin1

@[irreducible] def sameT (x y : Ltr) : Bool := decide (x.a.lv = y.a.lv) && decide (x.a.st = y.a.st) && decide (x.b.lv = y.b.lv) && decide (x.b.st = y.b.st) && decide (x.p = y.p) && decide (x.q = y.q)
theorem sameT_comm (x y : Ltr) : sameT x y = sameT y x := by
  unfold sameT; rw [Bool.eq_iff_iff]; simp only [Bool.and_eq_true, decide_eq_true_eq]; omega
/-- Is the letter in the list? -/
@[irreducible] def hasT (l : List Ltr) (x : Ltr) : Bool := l.any (fun y => sameT y x)
theorem hasT_yes {l : List Ltr} {x : Ltr} {i : Nat} (hi : i < l.length) (h : sameT l[i] x = true) : hasT l x = true := by unfold hasT; exact List.any_eq_true.2 ⟨_, List.getElem_mem hi, h⟩
theorem hasT_no {l : List Ltr} {x : Ltr} (h : ∀ (i : Nat) (hi : i < l.length), sameT l[i] x = false) : hasT l x = false := by
  unfold hasT; rw [List.any_eq_false]
  intro y hy
  obtain ⟨i, hi, rfl⟩ := List.mem_iff_getElem.1 hy
  simp [h i hi]

set_option maxHeartbeats 3200000 in
@[go_sem high] theorem equalIn_ltr (w : World) (a b c d p q a' b' c' d' p' q' : Int) : (Op.equalIn 10000 100 (.agg #[(.int .i64 a), (.int .i64 b), (.int .i64 c), (.int .i64 d), (.int .i64 p), (.int .i64 q)]) (.agg #[(.int .i64 a'), (.int .i64 b'), (.int .i64 c'), (.int .i64 d'), (.int .i64 p'), (.int .i64 q')])).run Try.prog w = .ok (sameT ⟨⟨a, b⟩, ⟨c, d⟩, p, q⟩ ⟨⟨a', b'⟩, ⟨c', d'⟩, p', q'⟩) w := by
  unfold sameT
  by_cases q1 : a = a' <;> by_cases q2 : b = b' <;> by_cases q3 : c = c' <;> by_cases q4 : d = d' <;> by_cases q5 : p = p' <;> by_cases q6 : q = q'
  all_goals simp [go_sem, q1, q2, q3, q4, q5, q6, Try.underlying100, Try.underlying35]

set_option maxHeartbeats 1600000 in
theorem indexLtr_any (v : Value) (l : List Ltr) (x : Ltr) (w : World) (h : SlR w 6 rLtr v l) :
    Calls Try.prog 132 #[v, x.val] w fun e w' => (∃ n : Int, e = .returned (.int .i64 n) ∧ decide (0 ≤ n) = hasT l x) ∧ Ext w w' := by
  obtain ⟨a, cap, rfl⟩ := h.len
  obtain ⟨_, hlc, hcm⟩ := slr_len h
  have hlm : l.length ≤ 9223372036854775807 := by unfold maxLen at hcm; omega
  clear hcm hlc
  have HS := Lib.hid h
  clear h
  unfold Ltr.val
  go_enter Try.func132, Try.ntmps132
  go_wp2
  go_loopw [8, 5] (fun i _ wr => ∃ k : Nat, k ≤ l.length ∧ i = .int .i64 k ∧ Ext (w.alloc (.cells #[(.int .i64 x.a.lv), (.int .i64 x.a.st), (.int .i64 x.b.lv), (.int .i64 x.b.st), (.int .i64 x.p), (.int .i64 x.q)] 100)) wr ∧ Hid (∀ (j : Nat) (hj : j < l.length), j < k → sameT l[j] x = false)) (fun i _ _ => l.length - (intOf i).toNat)
  case atStart => exact ⟨0, Nat.zero_le _, rfl, Ext.refl _, Lib.hid (fun j _ h => absurd h (Nat.not_lt_zero _))⟩
  case round =>
    obtain ⟨k, hk, rfl, ⟨X, rfl⟩, HH⟩ := hrel
    by_cases hlt : k < l.length
    · obtain ⟨b, off, rfl⟩ := slr_some HS.out hlt
      obtain ⟨ho, hok, h0, h1, h2, h3, h4, h5⟩ := ltr_at HS.out hlt
      go_upto_region 4 with fail
      cases q : sameT ⟨⟨x.a.lv, x.a.st⟩, ⟨x.b.lv, x.b.st⟩, x.p, x.q⟩ ⟨⟨l[k].a.lv, l[k].a.st⟩, ⟨l[k].b.lv, l[k].b.st⟩, l[k].p, l[k].q⟩
      · have hN : sameT l[k] x = false := by rw [sameT_comm]; exact q
        (refine wp_region_x 6 (by kernel_rfl) (by kernel_rfl) (by kernel_rfl) ?_; (iterate 6 (apply XReg.step; (case h => (intro w' hw'; obtain ⟨X', rfl⟩ := hw'; go_wp2_with (fail); exact ⟨rfl, (by repeat (first | exact Ext.refl _ | apply Ext.plus | apply Ext.alloc | apply Ext.drew))⟩)); (case hv => kernel_rfl))); refine XReg.doneN (fun X => ?_))
        go_wp2
        exact ⟨⟨k + 1, by omega, by go_num, (by repeat (first | exact Ext.refl _ | apply Ext.plus | apply Ext.alloc | apply Ext.drew)), Lib.hid (fun j hj hjk => by
          by_cases e : j < k
          · exact HH.out j hj e
          · obtain rfl : j = k := by omega
            exact hN)⟩, by simp [intOf]; omega⟩
      · have hY := Lib.hid (hasT_yes (x := x) hlt (by rw [sameT_comm]; exact q))
        (refine wp_region_x 6 (by kernel_rfl) (by kernel_rfl) (by kernel_rfl) ?_; (iterate 6 (apply XReg.step; (case h => (intro w' hw'; obtain ⟨X', rfl⟩ := hw'; go_wp2_with (fail); exact ⟨rfl, (by repeat (first | exact Ext.refl _ | apply Ext.plus | apply Ext.alloc | apply Ext.drew))⟩)); (case hv => kernel_rfl))); refine XReg.doneN (fun X => ?_))
        go_wp2
        go_ret
        exact ⟨⟨k, rfl, by rw [hY.out]; simp⟩, (by repeat (first | exact Ext.refl _ | apply Ext.plus | apply Ext.alloc | apply Ext.drew))⟩
    · have hN := Lib.hid (hasT_no (x := x) (fun j hj => HH.out j hj (by omega)))
      go_wp2
      go_ret
      exact ⟨⟨-1, rfl, by rw [hN.out]; rfl⟩, (by repeat (first | exact Ext.refl _ | apply Ext.plus | apply Ext.alloc | apply Ext.drew))⟩

set_option maxHeartbeats 800000 in
theorem containsLtr_any (v : Value) (l : List Ltr) (x : Ltr) (w : World) (h : SlR w 6 rLtr v l) :
    Calls Try.prog 68 #[v, x.val] w fun e w' => e = .returned (.bool (hasT l x)) ∧ Ext w w' := by
  have HS := Lib.hid h
  clear h
  unfold Ltr.val
  go_enter Try.func68, Try.ntmps68
  go_wp2_with fail
  refine (indexLtr_any v l x _ (HS.out.ext rLtr_stable (by repeat (first | exact Ext.refl _ | apply Ext.plus | apply Ext.alloc | apply Ext.drew)))).mono ?_
  rintro e _ ⟨⟨n, rfl, hn⟩, X, rfl⟩
  cases hq : hasT l x
  · have hb : decide ((0 : Int) ≤ n) = false := by rw [hn, hq]
    go_wp2
    go_ret
    exact ⟨ret_bool hq.symm, (by repeat (first | exact Ext.refl _ | apply Ext.plus | apply Ext.alloc | apply Ext.drew))⟩
  · have hb : decide ((0 : Int) ≤ n) = true := by rw [hn, hq]
    go_wp2
    go_ret
    exact ⟨ret_bool hq.symm, (by repeat (first | exact Ext.refl _ | apply Ext.plus | apply Ext.alloc | apply Ext.drew))⟩
end Go.Proofs.Ytkekfncgpbileaa
