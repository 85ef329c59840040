/- The walks of Ahead. -/
import Derived.Test.YtfmjnncgpfkejaaGreatC3
set_option maxRecDepth 100000
set_option linter.unusedVariables false
namespace Go.Proofs.YtfmjnncgpfkejaaGreat
open Go.RowKit Go.Fin1



set_option maxHeartbeats 800000 in
theorem l04Ahead_any (a b : Jb) (na nb : Value) (w : World) :
    Calls Tryz.prog 79 #[a.val na, b.val nb] w fun e w' => e = .returned (.bool (aheadJ a b)) ∧ Ext w w' := by
  have HI := Lib.hid (@aheadJ_iff a b)
  obtain ⟨⟨lv, st⟩, id, need, long, prio, state, start, nodes⟩ := a
  obtain ⟨⟨lv2, st2⟩, id2, need2, long2, prio2, state2, start2, nodes2⟩ := b
  unfold Jb.val
  generalize aheadJ _ _ = G at HI
  go_enter Tryz.func79, Tryz.ntmps79
  go_wp2
  all_goals go_ret
  all_goals exact ⟨ret_bool (by have h := HI.out; rw [Bool.eq_iff_iff, h]; simp only [decide_eq_true_eq, bne_eq_false_iff_eq, bne_iff_ne, ne_eq] at *; omega), (by repeat (first | exact Ext.refl _ | apply Ext.plus | apply Ext.alloc | apply Ext.drew))⟩

end Go.Proofs.YtfmjnncgpfkejaaGreat
