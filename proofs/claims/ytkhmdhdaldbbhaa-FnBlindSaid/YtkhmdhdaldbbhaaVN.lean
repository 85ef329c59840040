/- The jobs in their order, of a slice that is nil. -/
import Derived.Test.YtkhmdhdaldbbhaaVSI
import Derived.Test.YtkhmdhdaldbbhaaVE
import Derived.Test.YtkhmdhdaldbbhaaVF
set_option maxRecDepth 100000
set_option linter.unusedVariables false
namespace Go.Proofs.Ytkhmdhdaldbbhaa
open Go.RowKit Go.Fin1
set_option maxHeartbeats 800000 in
theorem idxJob0_any (f : Value) (w : World) : Calls Try.prog 66 #[.slice none 0 0, f] w fun e w' => e = .returned (.int .i64 (-1)) ∧ Ext w w' := by
  go_enter Try.func66, Try.ntmps66
  go_wp2
  go_loopw [8, 5] (fun i _ wr => i = (.int .i64 0) ∧ Ext w wr) (fun _ _ _ => 0)
  case atStart => exact ⟨rfl, (by repeat (first | exact Ext.refl _ | apply Ext.plus | apply Ext.alloc | apply Ext.drew))⟩
  case round =>
    obtain ⟨rfl, ⟨X, rfl⟩⟩ := hrel
    go_wp2
    go_ret
    exact ⟨rfl, (by repeat (first | exact Ext.refl _ | apply Ext.plus | apply Ext.alloc | apply Ext.drew))⟩
set_option maxHeartbeats 800000 in
theorem delJob0_any (f : Value) (w : World) : Calls Try.prog 78 #[.slice none 0 0, f] w fun e w' => e = .returned (.slice none 0 0) ∧ Ext w w' := by
  go_enter Try.func78, Try.ntmps78
  go_wp2_with ((go_at_call 66; refine (idxJob0_any _ _).mono ?_; rintro e _ ⟨rfl, X, rfl⟩))
  go_ret
  exact ⟨rfl, (by repeat (first | exact Ext.refl _ | apply Ext.plus | apply Ext.alloc | apply Ext.drew))⟩
set_option maxHeartbeats 800000 in
theorem seen0_any (cv : Value) (d : Nat) (now : Int) (x : Lab) (w : World) :
    Calls Try.prog 56 #[.agg #[cv, .slice none 0 d, (.int .i64 now)], .agg #[(.int .i64 x.lv), (.int .i64 x.st)]] w fun e w' => e = .returned (.slice none 0 0) ∧ Ext w w' := by
  go_enter Try.func56, Try.ntmps56
  go_wp2_with (first | (go_at_call 75; refine (inOrder0_any _ _).mono ?_; rintro e _ ⟨rfl, X, rfl⟩) | (go_at_call 78; refine (delJob0_any _ _).mono ?_; rintro e _ ⟨rfl, X, rfl⟩))
  go_ret
  exact ⟨rfl, (by repeat (first | exact Ext.refl _ | apply Ext.plus | apply Ext.alloc | apply Ext.drew))⟩
theorem sorted0 : sortedJ [] = [] := rfl
set_option maxHeartbeats 800000 in
/-- The jobs that a label sees: they read as such. -/
theorem seenA_any (l : List Jb) (ca : Option Addr) (cn cc : Nat) (ja : Option Addr) (jc : Nat) (now : Int) (x : Lab) (w : World) (h : SlR w 9 rJob (.slice ja l.length jc) l) (hl : l.length ≤ 1000) (hn : l.Pairwise NeJ) :
    Calls Try.prog 56 #[.agg #[.slice ca cn cc, .slice ja l.length jc, (.int .i64 now)], .agg #[(.int .i64 x.lv), (.int .i64 x.st)]] w fun e w' => ∃ a cp, e = .returned (.slice a (seesL l x).length cp) ∧ Ext w w' ∧ SlR w' 9 rJob (.slice a (seesL l x).length cp) (seesL l x) := by
  cases ja with
  | none =>
    have h0 : l = [] := by
      cases l with
      | nil => rfl
      | cons y l => obtain ⟨b, off, he⟩ := slr_some h (Nat.zero_lt_succ _); cases he
    subst h0
    have hs : seesL [] x = [] := by unfold seesL; rw [sorted0]; rfl
    rw [hs]
    refine (seen0_any _ _ _ x w).mono ?_
    rintro e w' ⟨rfl, hx⟩
    exact ⟨none, 0, rfl, hx, none, 0, rfl, Nat.le_refl _, Nat.zero_le _, fun i hi => absurd hi (Nat.not_lt_zero _)⟩
  | some ja =>
    refine (seen_any l ca cn cc ja jc now x w h hl hn).mono ?_
    rintro e w' ⟨g, k, cp, rs, rfl, hx, hR, hm, hk⟩
    have hkl : k = rs.length := by
      rcases hR.2 with ⟨h1, _⟩ | ⟨_, _, _, h1, _⟩
      · cases h1
      · cases h1; rfl
    subst hkl
    have hS := row_jobs hR hk
    have hM : rs.map Prod.fst = seesL l x := by unfold seesL; exact hm
    have hml : rs.length = (seesL l x).length := by rw [← hM, List.length_map]
    rw [hM] at hS
    rw [hml] at hS ⊢
    exact ⟨some ⟨g, 0, none⟩, cp, rfl, hx, hS⟩
end Go.Proofs.Ytkhmdhdaldbbhaa
