/- The walks of FitNodes. -/
import Derived.Test.YtfmjnncgpfkejaaGreatQ2
import Derived.Test.YtfmjnncgpfkejaaGreatE2
import Derived.Test.YtfmjnncgpfkejaaGreatC1
set_option maxRecDepth 100000
set_option linter.unusedVariables false
namespace Go.Proofs.YtfmjnncgpfkejaaGreat
open Go.RowKit Go.Fin1

@[irreducible] def fitNodes (rows : List (List Spn)) (need : Int) (x : Spn) : List Int := if (rowsOk rows && isIn need 1 6 && spnOk x) = true then fitNeed rows need x else []
theorem fitNeed_i64 {rows : List (List Spn)} {need : Int} {x : Spn} (h : rows.length ≤ 1048576) : ∀ n ∈ fitNeed rows need x, I64 n := fun n hn => by
  unfold fitNeed at hn
  split at hn
  · exact fitL_i64 h n (List.mem_of_mem_take hn)
  · cases hn
theorem fitNodes_i64 {rows : List (List Spn)} {need : Int} {x : Spn} (h : rows.length ≤ 1048576) : ∀ n ∈ fitNodes rows need x, I64 n := fun n hn => by
  unfold fitNodes at hn
  split at hn
  · exact fitNeed_i64 h n hn
  · cases hn
theorem fitNeed_len (rows : List (List Spn)) (need : Int) (x : Spn) : (fitNeed rows need x).length ≤ rows.length := by
  have := fitL_len rows x
  unfold fitNeed; split
  · simp; omega
  · simp
theorem fitNodes_len (rows : List (List Spn)) (need : Int) (x : Spn) : (fitNodes rows need x).length ≤ rows.length := by
  unfold fitNodes; split
  · exact fitNeed_len _ _ _
  · simp

set_option maxHeartbeats 1600000 in
theorem implFitNodes_any (v : Value) (l : List (List Spn)) (need : Int) (x : Spn) (w : World) (h : SlR w 1 rSpnS v l) (hl : l.length ≤ 1048576) :
    Calls Tryz.prog 100 #[v, (.int .i64 need), .agg #[(.int .i64 x.f), (.int .i64 x.t)]] w fun e w' => ∃ v', e = .returned v' ∧ Ext w w' ∧ Row w.heap.size w' 2 1 intCell v' (fitNodes l need x) := by
  have HS := Lib.hid h
  clear h
  by_cases hall : (rowsOk l && isIn need 1 6 && spnOk x) = true
  · have HF : Hid (fitNodes l need x = fitNeed l need x) := Lib.hid (by unfold fitNodes; rw [if_pos hall])
    rw [Bool.and_eq_true, Bool.and_eq_true] at hall
    obtain ⟨⟨q1, q2⟩, q3⟩ := hall
    obtain ⟨hn, hn6⟩ := isIn_iff.1 q2
    rw [HF.out]
    clear HF
    by_cases hfull : need ≤ (fitL l x).length
    · have HQ : Hid (fitNeed l need x = (fitL l x).take need.toNat) := Lib.hid (by unfold fitNeed; rw [if_pos hfull])
      have hk1 := Lib.hid (show need.toNat ≤ (fitL l x).length by omega)
      have hk2 := Lib.hid (show 0 < need.toNat by omega)
      go_enter Tryz.func100, Tryz.ntmps100
      go_wp2_with (first | (go_at_call 125; refine (rowsRight_any v l _ (HS.out.ext rSpnS_stable (by repeat (first | exact Ext.refl _ | apply Ext.plus | apply Ext.alloc | apply Ext.drew)))).mono ?_; rintro e _ ⟨rfl, X, rfl⟩; rw [q1]) | (go_at_call 83; refine (within_any _ _ _ _).mono ?_; rintro e _ ⟨rfl, rfl⟩; rw [q2]) | (go_at_call 127; refine (spanRight_any _ _ _).mono ?_; rintro e _ ⟨rfl, X2, rfl⟩; rw [show spnOk ⟨x.f, x.t⟩ = _ from q3]) | (go_at_call 126; refine (fit_any v l x _ (HS.out.ext rSpnS_stable (by repeat (first | exact Ext.refl _ | apply Ext.plus | apply Ext.alloc | apply Ext.drew))) hl).mono ?_; rintro e _ ⟨v', rfl, ⟨Y, rfl⟩, hR⟩; obtain ⟨a', c', hv⟩ := hR.shape; subst hv; have HR := Lib.hid hR; have hcp := hR.cap; clear hR))
      go_ret
      exact ⟨_, rfl, (by repeat (first | exact Ext.refl _ | apply Ext.plus | apply Ext.alloc | apply Ext.drew)), (by rw [HQ.out]; have h := Row.take (f := intCell) (K := 1) (fun _ => rfl) HR.out hk1.out hk2.out; exact h.mono (by simp; omega))⟩
    · have HQ : Hid (fitNeed l need x = []) := Lib.hid (by unfold fitNeed; rw [if_neg hfull])
      go_enter Tryz.func100, Tryz.ntmps100
      go_wp2_with (first | (go_at_call 125; refine (rowsRight_any v l _ (HS.out.ext rSpnS_stable (by repeat (first | exact Ext.refl _ | apply Ext.plus | apply Ext.alloc | apply Ext.drew)))).mono ?_; rintro e _ ⟨rfl, X, rfl⟩; rw [q1]) | (go_at_call 83; refine (within_any _ _ _ _).mono ?_; rintro e _ ⟨rfl, rfl⟩; rw [q2]) | (go_at_call 127; refine (spanRight_any _ _ _).mono ?_; rintro e _ ⟨rfl, X2, rfl⟩; rw [show spnOk ⟨x.f, x.t⟩ = _ from q3]) | (go_at_call 126; refine (fit_any v l x _ (HS.out.ext rSpnS_stable (by repeat (first | exact Ext.refl _ | apply Ext.plus | apply Ext.alloc | apply Ext.drew))) hl).mono ?_; rintro e _ ⟨v', rfl, ⟨Y, rfl⟩, hR⟩; obtain ⟨a', c', hv⟩ := hR.shape; subst hv; have HR := Lib.hid hR; clear hR))
      go_ret
      exact ⟨_, rfl, (by repeat (first | exact Ext.refl _ | apply Ext.plus | apply Ext.alloc | apply Ext.drew)), (by rw [HQ.out]; exact Row.nil _ _ _ _ _)⟩
  · have HF : Hid (fitNodes l need x = []) := Lib.hid (by unfold fitNodes; rw [if_neg hall])
    cases q1 : rowsOk l <;> cases q2 : isIn need 1 6 <;> cases q3 : spnOk x
    all_goals first
      | (exfalso; rw [q1, q2, q3] at hall; exact hall rfl)
      | (clear hall
         go_enter Tryz.func100, Tryz.ntmps100
         go_wp2_with (first | (go_at_call 125; refine (rowsRight_any v l _ (HS.out.ext rSpnS_stable (by repeat (first | exact Ext.refl _ | apply Ext.plus | apply Ext.alloc | apply Ext.drew)))).mono ?_; rintro e _ ⟨rfl, X, rfl⟩; rw [q1]) | (go_at_call 83; refine (within_any _ _ _ _).mono ?_; rintro e _ ⟨rfl, rfl⟩; rw [q2]) | (go_at_call 127; refine (spanRight_any _ _ _).mono ?_; rintro e _ ⟨rfl, X2, rfl⟩; rw [show spnOk ⟨x.f, x.t⟩ = _ from q3]) | (go_at_call 126; refine (fit_any v l x _ (HS.out.ext rSpnS_stable (by repeat (first | exact Ext.refl _ | apply Ext.plus | apply Ext.alloc | apply Ext.drew))) hl).mono ?_; rintro e _ ⟨v', rfl, ⟨Y, rfl⟩, hR⟩; obtain ⟨a', c', hv⟩ := hR.shape; subst hv; have HR := Lib.hid hR; clear hR))
         go_ret
         exact ⟨_, rfl, (by repeat (first | exact Ext.refl _ | apply Ext.plus | apply Ext.alloc | apply Ext.drew)), (by rw [HF.out]; exact Row.nil _ _ _ _ _)⟩)

end Go.Proofs.YtfmjnncgpfkejaaGreat
