/- The walks of the laws' own helpers over one job; the law of JobRight. -/
import Derived.Test.YtlekopmidebaiaaJ2
import Derived.Test.YtlekopmidebaiaaH
import Derived.Deep.Cut
set_option maxRecDepth 100000
set_option linter.unusedVariables false
namespace Go.Proofs.Ytlekopmidebaiaa
open Go.RowKit Go.Fin1

set_option maxHeartbeats 400000 in
theorem szJob_any (j : Jb) (nv : Value) (n : Nat) (w : World) (h : SlR w 1 rInt nv j.nodes) (hn : n ≤ 1048576) :
    Calls Try.prog 38 #[j.val nv, (.int .i64 n)] w fun e w' => e = .returned (.int .i64 (if j.nodes.length ≤ n then ((n - j.nodes.length : Nat) : Int) else -1)) ∧ Ext w w' := by
  obtain ⟨⟨lv, st⟩, id, need, long, prio, state, start, nodes⟩ := j
  have HS := Lib.hid h
  clear h
  unfold Jb.val
  simp only at HS ⊢
  by_cases hlt : nodes.length ≤ n
  · rw [if_pos hlt]
    have ht : decide (((n - nodes.length : Nat) : Int) < 0) = false := decide_eq_false (by omega)
    go_enter Try.func38, Try.ntmps38
    go_wp2_with fail
    refine (szInt64S_any _ nodes _ _ (HS.out.ext rInt_stable (by repeat (first | exact Ext.refl _ | apply Ext.plus | apply Ext.alloc | apply Ext.drew))) hn).mono ?_
    rintro e _ ⟨rfl, rfl⟩
    rw [if_pos hlt]
    go_wp2
    go_ret
    exact ⟨rfl, (by repeat (first | exact Ext.refl _ | apply Ext.plus | apply Ext.alloc | apply Ext.drew))⟩
  · rw [if_neg hlt]
    go_enter Try.func38, Try.ntmps38
    go_wp2_with fail
    refine (szInt64S_any _ nodes _ _ (HS.out.ext rInt_stable (by repeat (first | exact Ext.refl _ | apply Ext.plus | apply Ext.alloc | apply Ext.drew))) hn).mono ?_
    rintro e _ ⟨rfl, rfl⟩
    rw [if_neg hlt]
    go_wp2
    go_ret
    exact ⟨rfl, (by repeat (first | exact Ext.refl _ | apply Ext.plus | apply Ext.alloc | apply Ext.drew))⟩

set_option maxHeartbeats 800000 in
theorem eqJob_self (j : Jb) (nv nv' : Value) (w : World) (h : SlR w 1 rInt nv j.nodes) (h' : SlR w 1 rInt nv' j.nodes) :
    Calls Try.prog 42 #[j.val nv, j.val nv'] w fun e w' => e = .returned (.bool true) ∧ Ext w w' := by
  obtain ⟨⟨lv, st⟩, id, need, long, prio, state, start, nodes⟩ := j
  have HS := Lib.hid h
  have HS' := Lib.hid h'
  clear h h'
  unfold Jb.val
  simp only at HS HS' ⊢
  go_enter Try.func42, Try.ntmps42
  go_wp2_with ((go_at_call 78; refine (eqLabel_self _ _ _).mono ?_; rintro e _ ⟨rfl, X, rfl⟩))
  refine (eqInt64S_self _ _ nodes _ (HS.out.ext rInt_stable (by repeat (first | exact Ext.refl _ | apply Ext.plus | apply Ext.alloc | apply Ext.drew))) (HS'.out.ext rInt_stable (by repeat (first | exact Ext.refl _ | apply Ext.plus | apply Ext.alloc | apply Ext.drew)))).mono ?_
  rintro e _ ⟨rfl, Y, rfl⟩
  go_wp2
  go_ret
  exact ⟨rfl, (by repeat (first | exact Ext.refl _ | apply Ext.plus | apply Ext.alloc | apply Ext.drew))⟩


theorem slr_ints {w : World} {v : Value} {l : List Int} (h : SlR w 1 rInt v l) : ∀ x ∈ l, I64 x := fun x hx => by obtain ⟨_, hr⟩ := slr_all h x hx; exact hr.2

theorem Jb.val_inj {j : Jb} {a b : Value} (h : j.val a = j.val b) : a = b := by simpa [Jb.val] using h
/-- A value that is this job. -/
def kJob (j : Jb) : XReg.Kind := fun v w => ∃ a c, v = j.val (.slice a j.nodes.length c) ∧ SlR w 1 rInt (.slice a j.nodes.length c) j.nodes
theorem kJob_good {j : Jb} {W0 : World} {a : Option Addr} {c : Nat} (h : SlR W0 1 rInt (.slice a j.nodes.length c) j.nodes) : XReg.GoodK W0 (kJob j) :=
  ⟨fun _ _ _ hx ⟨a, c, hv, h⟩ => ⟨a, c, hv, h.ext rInt_stable hx⟩, fun _ hw => ⟨_, a, c, rfl, h.ext rInt_stable hw⟩⟩
theorem kJob_r {j : Jb} {w : World} {nv : Value} (h : kJob j (j.val nv) w) : SlR w 1 rInt nv j.nodes := by
  obtain ⟨a, c, hv, h⟩ := h
  rw [Jb.val_inj hv]; exact h

set_option maxHeartbeats 800000 in
theorem fnJobRight_any (a : Arg Jb) (w : World) (h : ∃ nv, a.v = a.x.val nv ∧ a.x.ok ∧ SlR w 1 rInt nv a.x.nodes) :
    Calls Try.prog 10 #[a.v] w fun e w' => e = .returned (.bool true) ∧ Ext w w' := by
  obtain ⟨v, j⟩ := a
  obtain ⟨nv, h1, hok, h⟩ := h
  simp only at h1 hok h ⊢
  subst h1
  obtain ⟨an, cn, rfl⟩ := h.len
  have HS := Lib.hid h
  have hi := Lib.hid (slr_ints h)
  have Hok := Lib.hid hok
  clear h hok
  by_cases hl : j.nodes.length ≤ 1048576
  · have ht : decide (((1048576 - j.nodes.length : Nat) : Int) < 0) = false := decide_eq_false (by omega)
    go_enter Try.func10, Try.ntmps10
    unfold Jb.val
    go_wp2_with fail
    refine (szJob_any j _ 1048576 _ (HS.out.ext rInt_stable (by repeat (first | exact Ext.refl _ | apply Ext.plus | apply Ext.alloc | apply Ext.drew))) (Nat.le_refl _)).mono ?_
    rintro e _ ⟨rfl, X0, rfl⟩
    rw [if_pos hl]
    go_wp2_with fail
    refine (toJob_any j _ _ (HS.out.ext rInt_stable (by repeat (first | exact Ext.refl _ | apply Ext.plus | apply Ext.alloc | apply Ext.drew))) hl).mono ?_
    rintro e _ ⟨v1, fp1, rfl, ⟨X1, rfl⟩, hO⟩
    have H1 := Lib.hid (oIntS_r hO.1 hi.out)
    clear hO
    obtain ⟨a1, c1, rfl⟩ := H1.out.len
    unfold Jb.val
    go_wp2_with fail
    refine (specJobRight_any j _ _ Hok.out H1.out).mono ?_
    rintro e _ ⟨rfl, Y1, rfl⟩
    go_wp2_with fail
    refine (toJob_any j _ _ (HS.out.ext rInt_stable (by repeat (first | exact Ext.refl _ | apply Ext.plus | apply Ext.alloc | apply Ext.drew))) hl).mono ?_
    rintro e _ ⟨v2, fp2, rfl, ⟨X2, rfl⟩, hO⟩
    have H2 := Lib.hid (oIntS_r hO.1 hi.out)
    clear hO
    obtain ⟨a2, c2, rfl⟩ := H2.out.len
    unfold Jb.val
    go_wp2_with fail
    refine (implJobRight_any j _ _ Hok.out (H2.out.ext rInt_stable (by repeat (first | exact Ext.refl _ | apply Ext.plus | apply Ext.alloc | apply Ext.drew)))).mono ?_
    rintro e _ ⟨rfl, Y2, rfl⟩
    go_wp2_with fail
    (apply wp_region_y (m := 5) (Ks := [_, _, kJob j, _, _]); (case hm => kernel_rfl); (case hc => kernel_rfl); (case hd => kernel_rfl); (case hl => rfl))
    case h =>
      (apply YReg.step; (case h => (intro w' hw' hF'; obtain ⟨X', rfl⟩ := hw'; have HF' := Lib.hid hF'; clear hF'; go_wp2_with (fail); exact ⟨rfl, (by repeat (first | exact Ext.refl _ | apply Ext.plus | apply Ext.alloc | apply Ext.drew))⟩)); (case hv => kernel_rfl))
      (apply YReg.step; (case h => (intro w' hw' hF'; obtain ⟨X', rfl⟩ := hw'; have HF' := Lib.hid hF'; clear hF'; go_wp2_with (fail); exact ⟨rfl, (by repeat (first | exact Ext.refl _ | apply Ext.plus | apply Ext.alloc | apply Ext.drew))⟩)); (case hv => kernel_rfl))
      refine YReg.kind (fun w' hw' hF' => ?_) (fun v w1 hw1 hF1 hK => ?_)
      · obtain ⟨X', rfl⟩ := hw'
        clear hF'
        go_wp2_with fail
        refine (toJob_any j _ _ (HS.out.ext rInt_stable (by repeat (first | exact Ext.refl _ | apply Ext.plus | apply Ext.alloc | apply Ext.drew))) hl).mono ?_
        rintro e _ ⟨v3, fp3, rfl, ⟨X3, rfl⟩, hO⟩
        have H3 := Lib.hid (oIntS_r hO.1 hi.out)
        clear hO
        obtain ⟨a3, c3, rfl⟩ := H3.out.len
        unfold Jb.val
        go_wp2
        exact ⟨(by repeat (first | exact Ext.refl _ | apply Ext.plus | apply Ext.alloc | apply Ext.drew)), _, _, rfl, H3.out⟩
      · obtain ⟨a3, c3, rfl, hs3⟩ := hK
        clear hF1 hw1 hs3 w1
        unfold Jb.val
        (apply YReg.val (.bool true); (case h => (intro w' hw' hF'; obtain ⟨X', rfl⟩ := hw'; have HF' := Lib.hid hF'; clear hF'; go_wp2_with ((go_at_call 42; refine (eqJob_self j _ _ _ (H2.out.ext rInt_stable (by repeat (first | exact Ext.refl _ | apply Ext.plus | apply Ext.alloc | apply Ext.drew))) (kJob_r HF'.out.2)).mono ?_; rintro e _ ⟨rfl, Y3, rfl⟩)); exact ⟨rfl, (by repeat (first | exact Ext.refl _ | apply Ext.plus | apply Ext.alloc | apply Ext.drew))⟩)); (case hv => kernel_rfl))
        (apply YReg.val (.bool false); (case h => (intro w' hw' hF'; obtain ⟨X', rfl⟩ := hw'; have HF' := Lib.hid hF'; clear hF'; go_wp2_with (fail); exact ⟨rfl, (by repeat (first | exact Ext.refl _ | apply Ext.plus | apply Ext.alloc | apply Ext.drew))⟩)); (case hv => kernel_rfl))
        refine YReg.doneN (fun X _ => ?_)
        go_wp2
        go_ret
        exact ⟨rfl, (by repeat (first | exact Ext.refl _ | apply Ext.plus | apply Ext.alloc | apply Ext.drew))⟩
    case hg =>
      (repeat' (first | exact trivial | exact XReg.GoodK.same _ _ | refine And.intro ?_ ?_))
      exact kJob_good (H2.out.ext rInt_stable (by repeat (first | exact Ext.refl _ | apply Ext.plus | apply Ext.alloc | apply Ext.drew)))
  · go_enter Try.func10, Try.ntmps10
    unfold Jb.val
    go_wp2_with fail
    refine (szJob_any j _ 1048576 _ (HS.out.ext rInt_stable (by repeat (first | exact Ext.refl _ | apply Ext.plus | apply Ext.alloc | apply Ext.drew))) (Nat.le_refl _)).mono ?_
    rintro e _ ⟨rfl, X0, rfl⟩
    rw [if_neg hl]
    go_wp2
    go_ret
    exact ⟨rfl, (by repeat (first | exact Ext.refl _ | apply Ext.plus | apply Ext.alloc | apply Ext.drew))⟩
end Go.Proofs.Ytlekopmidebaiaa
