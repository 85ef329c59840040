/- The jobs in their order, of a slice that is nil. -/
import Derived.Test.YtfmjnncgpfkejaaVI
import Derived.Test.YtfmjnncgpfkejaaVE
import Derived.Test.YtfmjnncgpfkejaaVF
set_option maxRecDepth 100000
set_option linter.unusedVariables false
namespace Go.Proofs.Ytfmjnncgpfkejaa
open Go.RowKit Go.Fin1
set_option maxHeartbeats 800000 in
theorem cloneJob0_any (d : Nat) (w : World) : Calls Try.prog 96 #[.slice none 0 d] w fun e w' => e = .returned (.slice none 0 0) ∧ Ext w w' := by
  have q22 : ∀ (w : World) (a : Option Addr) (n c n' c' : Nat), (binOp .eql 31 (.slice a n c) (.slice none n' c')).run Try.prog w = .ok (.bool a.isNone) w := fun w a n c n' c' => Lib.run_eql_slice_nil w _ _ a n c n' c' (show Try.prog.underlying 31 = some (.slice 42) by kernel_rfl)
  go_enter Try.func96, Try.ntmps96
  go_wp2
  go_ret
  exact ⟨rfl, (by repeat (first | exact Ext.refl _ | apply Ext.plus | apply Ext.alloc | apply Ext.drew))⟩
set_option maxHeartbeats 800000 in
theorem len64_any0 (w : World) : Calls Try.prog 126 #[.int .u64 0] w fun e w' => e = .returned (.int .i64 0) ∧ w = w' := by
  have h8 : wrap64 (wrap64 (Lib.len8 0)) = 0 := by decide +kernel
  go_enter Try.func126, Try.ntmps126
  go_wp2
  go_ret
  exact ⟨ret_int h8, rfl⟩
set_option maxHeartbeats 800000 in
theorem lenB_any0 (w : World) : Calls Try.prog 109 #[.int .u64 0] w fun e w' => e = .returned (.int .i64 0) ∧ w = w' := by
  go_enter Try.func109, Try.ntmps109
  go_wp2_with ((go_at_call 126; refine (len64_any0 _).mono ?_; rintro e _ ⟨rfl, rfl⟩))
  go_ret
  exact ⟨rfl, rfl⟩
set_option maxHeartbeats 800000 in
theorem insJob0_any (c : Value) (w : World) : Calls Try.prog 117 #[.slice none 0 0, (.int .i64 0), (.int .i64 0), c] w fun e w' => e = .returned (.tuple #[]) ∧ Ext w w' := by
  go_enter Try.func117, Try.ntmps117
  go_wp2
  go_loopw [8] (fun i wr => i = (.int .i64 1) ∧ Ext w wr) (fun _ _ => 0)
  case atStart => exact ⟨rfl, (by repeat (first | exact Ext.refl _ | apply Ext.plus | apply Ext.alloc | apply Ext.drew))⟩
  case round =>
    obtain ⟨rfl, ⟨X, rfl⟩⟩ := hrel
    go_wp2
    exact bodyPost_end (v := .tuple #[]) (by simp [results, Try.results117, go_sem]) rfl ⟨rfl, (by repeat (first | exact Ext.refl _ | apply Ext.plus | apply Ext.alloc | apply Ext.drew))⟩
set_option maxHeartbeats 800000 in
theorem pdqJob0_any (c : Value) (w : World) : Calls Try.prog 108 #[.slice none 0 0, (.int .i64 0), (.int .i64 0), (.int .i64 0), c] w fun e w' => e = .returned (.tuple #[]) ∧ Ext w w' := by
  go_enter Try.func108, Try.ntmps108
  go_wp2
  go_loopw [1, 2, 3, 10, 11, 12] (fun a b l p q _ wr => a = (.int .i64 0) ∧ b = (.int .i64 0) ∧ l = (.int .i64 0) ∧ Ext w wr) (fun _ _ _ _ _ _ _ => 0)
  case atStart => exact ⟨rfl, rfl, rfl, (by repeat (first | exact Ext.refl _ | apply Ext.plus | apply Ext.alloc | apply Ext.drew))⟩
  case round =>
    obtain ⟨rfl, rfl, rfl, ⟨X, rfl⟩⟩ := hrel
    go_wp2_with ((go_at_call 117; refine (insJob0_any _ _).mono ?_; rintro e _ ⟨rfl, X, rfl⟩))
    exact bodyPost_ret (v := .tuple #[]) (by simp [results, Try.results108, go_sem]) rfl ⟨rfl, (by repeat (first | exact Ext.refl _ | apply Ext.plus | apply Ext.alloc | apply Ext.drew))⟩
set_option maxHeartbeats 800000 in
theorem sortJob0_any (c : Value) (w : World) : Calls Try.prog 97 #[.slice none 0 0, c] w fun e w' => e = .returned (.tuple #[]) ∧ Ext w w' := by
  go_enter Try.func97, Try.ntmps97
  go_wp2_with (first | (go_at_call 109; refine (lenB_any0 _).mono ?_; rintro e _ ⟨rfl, rfl⟩) | (go_at_call 108; refine (pdqJob0_any _ _).mono ?_; rintro e _ ⟨rfl, X, rfl⟩))
  exact bodyPost_end (v := .tuple #[]) (by simp [results, Try.results97, go_sem]) rfl ⟨rfl, (by repeat (first | exact Ext.refl _ | apply Ext.plus | apply Ext.alloc | apply Ext.drew))⟩
set_option maxHeartbeats 800000 in
theorem inOrder0_any (d : Nat) (w : World) : Calls Try.prog 73 #[.slice none 0 d] w fun e w' => e = .returned (.slice none 0 0) ∧ Ext w w' := by
  go_enter Try.func73, Try.ntmps73
  go_wp2_with (first | (go_at_call 96; refine (cloneJob0_any _ _).mono ?_; rintro e _ ⟨rfl, X, rfl⟩) | (go_at_call 97; refine (sortJob0_any _ _).mono ?_; rintro e _ ⟨rfl, X, rfl⟩))
  go_ret
  exact ⟨rfl, (by repeat (first | exact Ext.refl _ | apply Ext.plus | apply Ext.alloc | apply Ext.drew))⟩
set_option maxHeartbeats 800000 in
theorem idxJob0_any (f : Value) (w : World) : Calls Try.prog 86 #[.slice none 0 0, f] w fun e w' => e = .returned (.int .i64 (-1)) ∧ Ext w w' := by
  go_enter Try.func86, Try.ntmps86
  go_wp2
  go_loopw [8, 5] (fun i _ wr => i = (.int .i64 0) ∧ Ext w wr) (fun _ _ _ => 0)
  case atStart => exact ⟨rfl, (by repeat (first | exact Ext.refl _ | apply Ext.plus | apply Ext.alloc | apply Ext.drew))⟩
  case round =>
    obtain ⟨rfl, ⟨X, rfl⟩⟩ := hrel
    go_wp2
    go_ret
    exact ⟨rfl, (by repeat (first | exact Ext.refl _ | apply Ext.plus | apply Ext.alloc | apply Ext.drew))⟩
set_option maxHeartbeats 800000 in
theorem delJob0_any (f : Value) (w : World) : Calls Try.prog 72 #[.slice none 0 0, f] w fun e w' => e = .returned (.slice none 0 0) ∧ Ext w w' := by
  go_enter Try.func72, Try.ntmps72
  go_wp2_with ((go_at_call 86; refine (idxJob0_any _ _).mono ?_; rintro e _ ⟨rfl, X, rfl⟩))
  go_ret
  exact ⟨rfl, (by repeat (first | exact Ext.refl _ | apply Ext.plus | apply Ext.alloc | apply Ext.drew))⟩
set_option maxHeartbeats 800000 in
theorem seen0_any (cv : Value) (d : Nat) (now : Int) (x : Lab) (w : World) :
    Calls Try.prog 36 #[.agg #[cv, .slice none 0 d, (.int .i64 now)], .agg #[(.int .i64 x.lv), (.int .i64 x.st)]] w fun e w' => e = .returned (.slice none 0 0) ∧ Ext w w' := by
  go_enter Try.func36, Try.ntmps36
  go_wp2_with (first | (go_at_call 73; refine (inOrder0_any _ _).mono ?_; rintro e _ ⟨rfl, X, rfl⟩) | (go_at_call 72; refine (delJob0_any _ _).mono ?_; rintro e _ ⟨rfl, X, rfl⟩))
  go_ret
  exact ⟨rfl, (by repeat (first | exact Ext.refl _ | apply Ext.plus | apply Ext.alloc | apply Ext.drew))⟩
theorem sorted0 : sortedJ [] = [] := rfl
set_option maxHeartbeats 800000 in
/-- The jobs that a label sees: they read as such. -/
theorem seenA_any (l : List Jb) (ca : Option Addr) (cn cc : Nat) (ja : Option Addr) (jc : Nat) (now : Int) (x : Lab) (w : World) (h : SlR w 9 rJob (.slice ja l.length jc) l) (hl : l.length ≤ 1000) (hn : l.Pairwise NeJ) :
    Calls Try.prog 36 #[.agg #[.slice ca cn cc, .slice ja l.length jc, (.int .i64 now)], .agg #[(.int .i64 x.lv), (.int .i64 x.st)]] w fun e w' => ∃ a cp, e = .returned (.slice a (seesL l x).length cp) ∧ Ext w w' ∧ SlR w' 9 rJob (.slice a (seesL l x).length cp) (seesL l x) := by
  cases ja with
  | none =>
    have h0 : l = [] := by
      cases l with
      | nil => rfl
      | cons y l => obtain ⟨b, off, he⟩ := slr_some h (Nat.zero_lt_succ _); cases he
    subst h0
    have hs : seesL [] x = [] := by unfold seesL; rw [sorted0]; rfl
    rw [hs]
    refine (seen0_any _ _ _ x w).mono ?_
    rintro e w' ⟨rfl, hx⟩
    exact ⟨none, 0, rfl, hx, none, 0, rfl, Nat.le_refl _, Nat.zero_le _, fun i hi => absurd hi (Nat.not_lt_zero _)⟩
  | some ja =>
    refine (seen_any l ca cn cc ja jc now x w h hl hn).mono ?_
    rintro e w' ⟨g, k, cp, rs, rfl, hx, hR, hm, hk⟩
    have hkl : k = rs.length := by
      rcases hR.2 with ⟨h1, _⟩ | ⟨_, _, _, h1, _⟩
      · cases h1
      · cases h1; rfl
    subst hkl
    have hS := row_jobs hR hk
    have hM : rs.map Prod.fst = seesL l x := by unfold seesL; exact hm
    have hml : rs.length = (seesL l x).length := by rw [← hM, List.length_map]
    rw [hM] at hS
    rw [hml] at hS ⊢
    exact ⟨some ⟨g, 0, none⟩, cp, rfl, hx, hS⟩
end Go.Proofs.Ytfmjnncgpfkejaa
