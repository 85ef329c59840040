/- The laws of SpansRight and IsFree. -/
import Derived.Test.YtlekopmidebaiaaP3
import Derived.Deep.RegionHeld3
set_option maxRecDepth 100000
namespace Go.Proofs.Ytlekopmidebaiaa
open Go.RowKit Go.Fin1

set_option maxHeartbeats 800000 in
theorem fnSpansRight_any (a : Arg (List Spn)) (w : World) (h : SlR w 2 rSpn a.v a.x) :
    Calls Try.prog 4 #[a.v] w fun e w' => e = .returned (.bool true) ∧ Ext w w' := by
  obtain ⟨v, l⟩ := a
  change SlR w 2 rSpn v l at h
  change Calls Try.prog 4 #[v] w _
  have HS := Lib.hid h
  clear h
  by_cases hl : l.length ≤ 1048576
  · have ht : decide (((1048576 - l.length : Nat) : Int) < 0) = false := decide_eq_false (by omega)
    go_enter Try.func4, Try.ntmps4
    go_wp2_with fail
    refine (szSpanS_any v l 1048576 _ HS.out (Nat.le_refl _)).mono ?_
    rintro e _ ⟨rfl, rfl⟩
    rw [if_pos hl]
    go_wp2_with fail
    (refine (toSpanS_r _ _ _ ((HS).out.ext rSpn_stable (by repeat (first | exact Ext.refl _ | apply Ext.plus | apply Ext.alloc | apply Ext.drew))) hl).mono ?_; rintro e _ ⟨v', rfl, ⟨X, rfl⟩, hR⟩; have H0 := Lib.hid hR; clear hR)
    go_wp2_with fail
    refine (specSpansRight_any _ l _ H0.out).mono ?_
    rintro e _ ⟨rfl, Y1, rfl⟩
    go_wp2_with fail
    (refine (toSpanS_r _ _ _ ((HS).out.ext rSpn_stable (by repeat (first | exact Ext.refl _ | apply Ext.plus | apply Ext.alloc | apply Ext.drew))) hl).mono ?_; rintro e _ ⟨v', rfl, ⟨X, rfl⟩, hR⟩; have H1 := Lib.hid hR; clear hR)
    go_wp2_with fail
    refine (implSpansRight_any _ l _ H1.out).mono ?_
    rintro e _ ⟨rfl, Y2, rfl⟩
    go_wp2_with fail
    (refine (toSpanS_r _ _ _ ((HS).out.ext rSpn_stable (by repeat (first | exact Ext.refl _ | apply Ext.plus | apply Ext.alloc | apply Ext.drew))) hl).mono ?_; rintro e _ ⟨v', rfl, ⟨X, rfl⟩, hR⟩; have H2 := Lib.hid hR; clear hR)
    go_wp2_with fail
    refine (eqSpanS_self _ _ l _ (H1.out.ext rSpn_stable (by repeat (first | exact Ext.refl _ | apply Ext.plus | apply Ext.alloc | apply Ext.drew))) H2.out).mono ?_
    rintro e _ ⟨rfl, Y3, rfl⟩
    go_wp2
    go_ret
    exact ⟨rfl, (by repeat (first | exact Ext.refl _ | apply Ext.plus | apply Ext.alloc | apply Ext.drew))⟩
  · go_enter Try.func4, Try.ntmps4
    go_wp2_with fail
    refine (szSpanS_any v l 1048576 _ HS.out (Nat.le_refl _)).mono ?_
    rintro e _ ⟨rfl, rfl⟩
    rw [if_neg hl]
    go_wp2
    go_ret
    exact ⟨rfl, (by repeat (first | exact Ext.refl _ | apply Ext.plus | apply Ext.alloc | apply Ext.drew))⟩

set_option maxHeartbeats 800000 in
theorem fnIsFree_any (a : Arg (List Spn)) (x : Spn) (w : World) (h : SlR w 2 rSpn a.v a.x) (_ : x.ok) :
    Calls Try.prog 8 #[a.v, x.val] w fun e w' => e = .returned (.bool true) ∧ Ext w w' := by
  obtain ⟨v, l⟩ := a
  unfold Spn.val
  change SlR w 2 rSpn v l at h
  change Calls Try.prog 8 #[v, _] w _
  have HS := Lib.hid h
  clear h
  by_cases hl : l.length ≤ 1048576
  · have ht : decide (((1048576 - l.length : Nat) : Int) < 0) = false := decide_eq_false (by omega)
    go_enter Try.func8, Try.ntmps8
    go_wp2_with fail
    refine (szSpanS_any v l 1048576 _ (HS.out.ext rSpn_stable (by repeat (first | exact Ext.refl _ | apply Ext.plus | apply Ext.alloc | apply Ext.drew))) (Nat.le_refl _)).mono ?_
    rintro e _ ⟨rfl, rfl⟩
    rw [if_pos hl]
    go_upto_region 5 with fail
    go_cut [6] (fun s wx => s = .bool (spnsOk l && spnOk ⟨x.f, x.t⟩ && freeL l ⟨x.f, x.t⟩) ∧ Ext w wx ∧ wx.cell? ⟨w.heap.size, 0, none⟩ = some (.int .i64 x.f) ∧ wx.cell? ⟨w.heap.size, 1, none⟩ = some (.int .i64 x.t))
    case first =>
      go_region_held3 (fun w' => Ext w w' ∧ w'.cell? ⟨w.heap.size, 0, none⟩ = some (.int .i64 x.f) ∧ w'.cell? ⟨w.heap.size, 1, none⟩ = some (.int .i64 x.t))
        (exact ⟨(by first | exact (by repeat (first | exact Ext.refl _ | apply Ext.plus | apply Ext.alloc | apply Ext.drew)) | exact Ext.trans (by assumption) (by repeat (first | exact Ext.refl _ | apply Ext.plus | apply Ext.alloc | apply Ext.drew))), (by simp [go_sem, *])⟩)
        (first | (go_at_call 34; refine (toSpan_any _ _ _).mono ?_; rintro e _ ⟨rfl, X, rfl⟩) | (go_at_call 19; (refine (toSpanS_r _ _ _ ((HS).out.ext rSpn_stable (by repeat (first | exact Ext.refl _ | apply Ext.plus | apply Ext.alloc | apply Ext.drew))) hl).mono ?_; rintro e _ ⟨v', rfl, ⟨X, rfl⟩, hR⟩; have H0 := Lib.hid hR; clear hR)) | (go_at_call 33; refine (specIsFree_any _ l _ _ _ (H0.out.ext rSpn_stable (by repeat (first | exact Ext.refl _ | apply Ext.plus | apply Ext.alloc | apply Ext.drew)))).mono ?_; rintro e _ ⟨rfl, Y1, rfl⟩))
      all_goals (go_wp2_with fail; go_meet; exact ⟨rfl, (by first | exact (by repeat (first | exact Ext.refl _ | apply Ext.plus | apply Ext.alloc | apply Ext.drew)) | exact Ext.trans (by assumption) (by repeat (first | exact Ext.refl _ | apply Ext.plus | apply Ext.alloc | apply Ext.drew))), by simp [go_sem, *]⟩)
    case rest =>
      obtain ⟨rfl, ⟨X, rfl⟩, h0, h1⟩ := hcut
      have o0 := World.old_of_cell h0
      go_wp2_with fail
      (refine (toSpanS_r _ _ _ ((HS).out.ext rSpn_stable (by repeat (first | exact Ext.refl _ | apply Ext.plus | apply Ext.alloc | apply Ext.drew))) hl).mono ?_; rintro e _ ⟨v', rfl, ⟨X, rfl⟩, hR⟩; have H1 := Lib.hid hR; clear hR)
      go_wp2_with ((go_at_call 34; refine (toSpan_any _ _ _).mono ?_; rintro e _ ⟨rfl, X, rfl⟩))
      refine (implIsFree_any _ l _ _ _ (H1.out.ext rSpn_stable (by repeat (first | exact Ext.refl _ | apply Ext.plus | apply Ext.alloc | apply Ext.drew)))).mono ?_
      rintro e _ ⟨rfl, Y2, rfl⟩
      go_wp2_with fail
      (refine (toSpanS_r _ _ _ ((HS).out.ext rSpn_stable (by repeat (first | exact Ext.refl _ | apply Ext.plus | apply Ext.alloc | apply Ext.drew))) hl).mono ?_; rintro e _ ⟨v', rfl, ⟨X, rfl⟩, hR⟩; have H2 := Lib.hid hR; clear hR)
      go_wp2_with fail
      refine (eqSpanS_self _ _ l _ (H1.out.ext rSpn_stable (by repeat (first | exact Ext.refl _ | apply Ext.plus | apply Ext.alloc | apply Ext.drew))) H2.out).mono ?_
      rintro e _ ⟨rfl, Y3, rfl⟩
      go_wp2
      go_ret
      exact ⟨rfl, (by repeat (first | exact Ext.refl _ | apply Ext.plus | apply Ext.alloc | apply Ext.drew))⟩
  · go_enter Try.func8, Try.ntmps8
    go_wp2_with fail
    refine (szSpanS_any v l 1048576 _ (HS.out.ext rSpn_stable (by repeat (first | exact Ext.refl _ | apply Ext.plus | apply Ext.alloc | apply Ext.drew))) (Nat.le_refl _)).mono ?_
    rintro e _ ⟨rfl, rfl⟩
    rw [if_neg hl]
    go_wp2
    go_ret
    exact ⟨rfl, (by repeat (first | exact Ext.refl _ | apply Ext.plus | apply Ext.alloc | apply Ext.drew))⟩

end Go.Proofs.Ytlekopmidebaiaa
