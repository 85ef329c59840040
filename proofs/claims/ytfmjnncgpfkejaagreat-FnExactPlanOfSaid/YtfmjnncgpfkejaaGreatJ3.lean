/- The walks of the laws' own helpers over one job; the law of JobRight. -/
import Derived.Test.YtfmjnncgpfkejaaGreatJ2
import Derived.Test.YtfmjnncgpfkejaaGreatBG
import Derived.Deep.Cut
set_option maxRecDepth 100000
set_option linter.unusedVariables false
namespace Go.Proofs.YtfmjnncgpfkejaaGreat
open Go.RowKit Go.Fin1

set_option maxHeartbeats 400000 in
theorem szJob_any (j : Jb) (nv : Value) (n : Nat) (w : World) (h : SlR w 1 rInt nv j.nodes) (hn : n ≤ 1048576) :
    Calls Tryz.prog 42 #[j.val nv, (.int .i64 n)] w fun e w' => e = .returned (.int .i64 (if j.nodes.length ≤ n then ((n - j.nodes.length : Nat) : Int) else -1)) ∧ Ext w w' := by
  obtain ⟨⟨lv, st⟩, id, need, long, prio, state, start, nodes⟩ := j
  have HS := Lib.hid h
  clear h
  unfold Jb.val
  simp only at HS ⊢
  by_cases hlt : nodes.length ≤ n
  · rw [if_pos hlt]
    have ht : decide (((n - nodes.length : Nat) : Int) < 0) = false := decide_eq_false (by omega)
    go_enter Tryz.func42, Tryz.ntmps42
    go_wp2_with fail
    refine (szInt64S_any _ nodes _ _ (HS.out.ext rInt_stable (by repeat (first | exact Ext.refl _ | apply Ext.plus | apply Ext.alloc | apply Ext.drew))) hn).mono ?_
    rintro e _ ⟨rfl, rfl⟩
    rw [if_pos hlt]
    go_wp2
    go_ret
    exact ⟨rfl, (by repeat (first | exact Ext.refl _ | apply Ext.plus | apply Ext.alloc | apply Ext.drew))⟩
  · rw [if_neg hlt]
    go_enter Tryz.func42, Tryz.ntmps42
    go_wp2_with fail
    refine (szInt64S_any _ nodes _ _ (HS.out.ext rInt_stable (by repeat (first | exact Ext.refl _ | apply Ext.plus | apply Ext.alloc | apply Ext.drew))) hn).mono ?_
    rintro e _ ⟨rfl, rfl⟩
    rw [if_neg hlt]
    go_wp2
    go_ret
    exact ⟨rfl, (by repeat (first | exact Ext.refl _ | apply Ext.plus | apply Ext.alloc | apply Ext.drew))⟩

set_option maxHeartbeats 800000 in
theorem eqJob_self (j : Jb) (nv nv' : Value) (w : World) (h : SlR w 1 rInt nv j.nodes) (h' : SlR w 1 rInt nv' j.nodes) :
    Calls Tryz.prog 65 #[j.val nv, j.val nv'] w fun e w' => e = .returned (.bool true) ∧ Ext w w' := by
  obtain ⟨⟨lv, st⟩, id, need, long, prio, state, start, nodes⟩ := j
  have HS := Lib.hid h
  have HS' := Lib.hid h'
  clear h h'
  unfold Jb.val
  simp only at HS HS' ⊢
  go_enter Tryz.func65, Tryz.ntmps65
  go_wp2_with ((go_at_call 62; refine (eqLabel_self _ _ _).mono ?_; rintro e _ ⟨rfl, X, rfl⟩))
  refine (eqInt64S_self _ _ nodes _ (HS.out.ext rInt_stable (by repeat (first | exact Ext.refl _ | apply Ext.plus | apply Ext.alloc | apply Ext.drew))) (HS'.out.ext rInt_stable (by repeat (first | exact Ext.refl _ | apply Ext.plus | apply Ext.alloc | apply Ext.drew)))).mono ?_
  rintro e _ ⟨rfl, Y, rfl⟩
  go_wp2
  go_ret
  exact ⟨rfl, (by repeat (first | exact Ext.refl _ | apply Ext.plus | apply Ext.alloc | apply Ext.drew))⟩


theorem slr_ints {w : World} {v : Value} {l : List Int} (h : SlR w 1 rInt v l) : ∀ x ∈ l, I64 x := fun x hx => by obtain ⟨_, hr⟩ := slr_all h x hx; exact hr.2

theorem Jb.val_inj {j : Jb} {a b : Value} (h : j.val a = j.val b) : a = b := by simpa [Jb.val] using h
/-- A value that is this job. -/
def kJob (j : Jb) : XReg.Kind := fun v w => ∃ a c, v = j.val (.slice a j.nodes.length c) ∧ SlR w 1 rInt (.slice a j.nodes.length c) j.nodes
theorem kJob_good {j : Jb} {W0 : World} {a : Option Addr} {c : Nat} (h : SlR W0 1 rInt (.slice a j.nodes.length c) j.nodes) : XReg.GoodK (kJob j) :=
  ⟨fun _ _ _ hx ⟨a, c, hv, h⟩ => ⟨a, c, hv, h.ext rInt_stable hx⟩, _, W0, a, c, rfl, h⟩
theorem kJob_r {j : Jb} {w : World} {nv : Value} (h : kJob j (j.val nv) w) : SlR w 1 rInt nv j.nodes := by
  obtain ⟨a, c, hv, h⟩ := h
  rw [Jb.val_inj hv]; exact h

end Go.Proofs.YtfmjnncgpfkejaaGreat
