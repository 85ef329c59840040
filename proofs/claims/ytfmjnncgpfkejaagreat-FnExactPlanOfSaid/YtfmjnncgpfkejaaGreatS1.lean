/- slices.Clone of flat elements. -/
import Derived.Test.YtfmjnncgpfkejaaGreatE2
import Derived.Lib.SliceRun
set_option maxRecDepth 100000
set_option linter.unusedVariables false
namespace Go.Proofs.YtfmjnncgpfkejaaGreat
open Go.RowKit Go.Fin1

set_option maxHeartbeats 800000 in
theorem cloneInt_any (v : Value) (l : List Int) (w : World) (h : SlR w 1 (rc intCell) v l) (hl : l.length ≤ 1048576) :
    Calls Tryz.prog 96 #[v] w fun e w' => ∃ v', e = .returned v' ∧ Ext w w' ∧ Row w.heap.size w' 2 1 intCell v' l := by
  obtain ⟨ad, cap, rfl⟩ := h.len
  have q22 : ∀ (w : World) (a : Option Addr) (n c n' c' : Nat), (binOp .eql 53 (.slice a n c) (.slice none n' c')).run Tryz.prog w = .ok (.bool a.isNone) w := fun w a n c n' c' => Lib.run_eql_slice_nil w _ _ a n c n' c' (show Tryz.prog.underlying 53 = some (.slice 2) by kernel_rfl)
  have HS := Lib.hid h
  cases ad with
  | none =>
    have h0 : l = [] := by
      cases l with
      | nil => rfl
      | cons x l => obtain ⟨b, off, he⟩ := slr_some h (Nat.zero_lt_succ _); cases he
    subst h0
    clear h
    go_enter Tryz.func96, Tryz.ntmps96
    go_wp2
    go_ret
    exact ⟨_, rfl, (by repeat (first | exact Ext.refl _ | apply Ext.plus | apply Ext.alloc | apply Ext.drew)), Row.nil _ _ _ _ _⟩
  | some ad =>
    have HC := Lib.hid (slr_flat (f := intCell) (K := 1) (fun _ => rfl) h)
    clear h
    go_enter Tryz.func96, Tryz.ntmps96
    go_wp2_with (at_builtin; go_must (refine Row.appS (f := intCell) el_Int rfl _ _ rfl w (by repeat (first | exact Ext.refl _ | apply Ext.plus | apply Ext.alloc | apply Ext.drew)) _ _ rfl (Row.made _ _ _ _) ad l.length cap l rfl rfl (fun _ => rfl) ?_ ?_ ?_ ?_ ?_); (exact fun j u hu => Ext.cellA (by repeat (first | exact Ext.refl _ | apply Ext.plus | apply Ext.alloc | apply Ext.drew)) (HC.out j u hu)); (intro u hu; obtain ⟨x, _, hx⟩ := List.mem_flatMap.1 hu; simp [intCell] at hx; first | (rcases hx with rfl | rfl <;> rfl) | (subst hx; rfl) | (rcases hx with rfl | rfl | rfl <;> rfl) | (rcases hx with rfl | rfl | rfl | rfl | rfl | rfl <;> rfl)); (unfold maxLen; simp; omega); (simp; omega); intro v' X' hown' hne; have HO' := Lib.hid hown'; clear hown' hne)
    go_ret
    exact ⟨_, rfl, (by repeat (first | exact Ext.refl _ | apply Ext.plus | apply Ext.alloc | apply Ext.drew)), by have := HO'.out; simpa using this⟩

end Go.Proofs.YtfmjnncgpfkejaaGreat
