/- The law of FirstFit. -/
import Derived.Test.YtlekopmidebaiaaQ2
import Derived.Test.YtlekopmidebaiaaQ3
set_option maxRecDepth 100000
set_option linter.unusedVariables false
namespace Go.Proofs.Ytlekopmidebaiaa
open Go.RowKit Go.Fin1

set_option maxHeartbeats 800000 in
theorem fnFirstFit_any (a : Arg (List (List Spn))) (need length now : Int) (w : World) (h : SlR w 1 (rSl 2 rSpn) a.v a.x) (_ : I64 need) (_ : I64 length) (_ : I64 now) :
    Calls Try.prog 14 #[a.v, (.int .i64 need), (.int .i64 length), (.int .i64 now)] w fun e w' => e = .returned (.bool true) ∧ Ext w w' := by
  obtain ⟨v, l⟩ := a
  change SlR w 1 (rSl 2 rSpn) v l at h
  change Calls Try.prog 14 #[v, _, _, _] w _
  have HS := Lib.hid h
  have hi := Lib.hid (slr_spnss h)
  clear h
  by_cases hl : szL List.length l ≤ 1048576
  · have ht : decide (((1048576 - szL List.length l : Nat) : Int) < 0) = false := decide_eq_false (by omega)
    have hll : l.length ≤ 1048576 := Nat.le_trans (szL_len _ _) hl
    have HLL := Lib.hid hll
    clear hll
    go_enter Try.func14, Try.ntmps14
    go_wp2_with fail
    refine (szSpanSS_any v l 1048576 _ HS.out (Nat.le_refl _)).mono ?_
    rintro e _ ⟨rfl, ⟨X0, rfl⟩⟩
    rw [if_pos hl]
    go_wp2_with fail
    (refine (toSpanSS_any _ l _ (HS.out.ext (rSl_stable rSpn_stable) (by repeat (first | exact Ext.refl _ | apply Ext.plus | apply Ext.alloc | apply Ext.drew))) hl).mono ?_; rintro e _ ⟨v', fp, rfl, ⟨X, rfl⟩, hO⟩; have H0 := Lib.hid (oSpanSS_r hO.1 hi.out); clear hO)
    go_wp2_with fail
    refine (specFirstFit_any _ l _ _ _ _ H0.out HLL.out).mono ?_
    rintro e _ ⟨rfl, Y1, rfl⟩
    go_wp2_with fail
    (refine (toSpanSS_any _ l _ (HS.out.ext (rSl_stable rSpn_stable) (by repeat (first | exact Ext.refl _ | apply Ext.plus | apply Ext.alloc | apply Ext.drew))) hl).mono ?_; rintro e _ ⟨v', fp, rfl, ⟨X, rfl⟩, hO⟩; have H1 := Lib.hid (oSpanSS_r hO.1 hi.out); clear hO)
    go_wp2_with fail
    refine (implFirstFit_any _ l _ _ _ _ H1.out HLL.out).mono ?_
    rintro e _ ⟨rfl, Y2, rfl⟩
    go_wp2_with fail
    (refine (toSpanSS_any _ l _ (HS.out.ext (rSl_stable rSpn_stable) (by repeat (first | exact Ext.refl _ | apply Ext.plus | apply Ext.alloc | apply Ext.drew))) hl).mono ?_; rintro e _ ⟨v', fp, rfl, ⟨X, rfl⟩, hO⟩; have H2 := Lib.hid (oSpanSS_r hO.1 hi.out); clear hO)
    go_wp2_with fail
    refine (eqSpanSS_self _ _ l _ (H1.out.ext (rSl_stable rSpn_stable) (by repeat (first | exact Ext.refl _ | apply Ext.plus | apply Ext.alloc | apply Ext.drew))) H2.out).mono ?_
    rintro e _ ⟨rfl, Y3, rfl⟩
    go_wp2
    go_ret
    exact ⟨rfl, (by repeat (first | exact Ext.refl _ | apply Ext.plus | apply Ext.alloc | apply Ext.drew))⟩
  · go_enter Try.func14, Try.ntmps14
    go_wp2_with fail
    refine (szSpanSS_any v l 1048576 _ HS.out (Nat.le_refl _)).mono ?_
    rintro e _ ⟨rfl, ⟨X0, rfl⟩⟩
    rw [if_neg hl]
    go_wp2
    go_ret
    exact ⟨rfl, (by repeat (first | exact Ext.refl _ | apply Ext.plus | apply Ext.alloc | apply Ext.drew))⟩
end Go.Proofs.Ytlekopmidebaiaa
