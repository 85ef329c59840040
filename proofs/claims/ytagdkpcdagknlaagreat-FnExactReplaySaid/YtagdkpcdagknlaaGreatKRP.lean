/- Plain maths of Replay. -/
import Derived.Test.YtagdkpcdagknlaaGreatKAJ
import Derived.Test.YtagdkpcdagknlaaGreatKRRC
import Derived.Test.YtagdkpcdagknlaaGreatKW7
import Derived.Test.YtagdkpcdagknlaaGreatKY2
set_option maxRecDepth 100000
set_option linter.unusedVariables false
namespace Go.Proofs.YtagdkpcdagknlaaGreat
open Go.RowKit Go.Fin1
theorem gn_gt {s : ByteArray} {a : Nat} : ∀ (f k : Nat) (u : Int), (gn s a f k u).c = 0 → (a : Int) < (gn s a f k u).at_
  | 0, _, _, h => by simp [gn] at h
  | f + 1, k, u, h => by
    unfold gn at h ⊢
    split at h
    · simp at h
    · rename_i h1
      rw [if_neg h1]
      split at h
      · simp at h
      · rename_i h2
        rw [if_neg h2]
        split at h
        · rename_i h3
          rw [if_pos h3]
          exact gn_gt f (k + 1) _ h
        · rename_i h3
          rw [if_neg h3]
          split at h
          · simp at h
          · rename_i h4
            rw [if_neg h4]
            show (a : Int) < ((a + k + 1 : Nat) : Int)
            omega
theorem getNum_gt {s : ByteArray} {n : Int} (h : (getNum s n).c = 0) : 0 ≤ n ∧ n < s.size ∧ n < (getNum s n).at_ := by
  unfold getNum at h ⊢
  split at h
  · simp at h
  · rename_i h1
    rw [if_neg h1]
    split at h
    · simp at h
    · rename_i h2
      rw [if_neg h2]
      split at h
      · simp at h
      · rename_i h3
        rw [if_neg h3]
        unfold getNumG at h ⊢
        have := gn_gt 10 0 0 h
        omega
theorem getText_gt {s : ByteArray} {n : Int} (h : (getText s n).c = 0) : 0 ≤ n ∧ n < s.size ∧ n < (getText s n).at_ ∧ (getText s n).at_ ≤ s.size ∧ s.size ≤ 8000 ∧ (getText s n).t.size ≤ s.size := by
  unfold getText at h ⊢
  split at h
  · rename_i h1; exact absurd h h1
  · rename_i h1
    rw [if_neg h1]
    have h0 : (getNum s n).c = 0 := by simpa using h1
    have hb := getNum_bd h0
    have hg := getNum_gt h0
    split at h
    · simp at h
    · rename_i h2
      rw [if_neg h2]
      split at h
      · simp at h
      · rename_i h3
        rw [if_neg h3]
        refine ⟨hg.1, hg.2.1, by show n < (getNum s n).at_ + (getNum s n).n; omega, by show (getNum s n).at_ + (getNum s n).n ≤ _; omega, hb.1, ?_⟩
        show (s.extract _ _).size ≤ s.size
        rw [ByteArray.size_extract]; omega
abbrev RSt := Pl × Int
def repS (s : ByteArray) (st : RSt) : Option RSt :=
  if (getText s st.2).c ≠ 0 then none
  else if (entRd (getText s st.2).t).2 ≠ 0 then none
  else if (actR st.1 (entRd (getText s st.2).t).1).2.2 ≠ 0 then none
  else some ((actR st.1 (entRd (getText s st.2).t).1).1, (getText s st.2).at_)
def repN (s : ByteArray) : Nat → RSt → RSt
  | 0, st => st
  | n + 1, st => match repS s st with
    | none => st
    | some st' => repN s n st'
theorem repS_text {s : ByteArray} {st : RSt} (h : ¬ (getText s st.2).c = 0) : repS s st = none := by unfold repS; rw [if_pos h]
theorem repS_ent {s : ByteArray} {st : RSt} (h : (getText s st.2).c = 0) (h2 : ¬ (entRd (getText s st.2).t).2 = 0) : repS s st = none := by unfold repS; rw [if_neg (by simp [h]), if_pos h2]
theorem repS_act {s : ByteArray} {st : RSt} (h : (getText s st.2).c = 0) (h2 : (entRd (getText s st.2).t).2 = 0) (h3 : ¬ (actR st.1 (entRd (getText s st.2).t).1).2.2 = 0) : repS s st = none := by unfold repS; rw [if_neg (by simp [h]), if_neg (by simp [h2]), if_pos h3]
theorem repS_yes {s : ByteArray} {st : RSt} (h : (getText s st.2).c = 0) (h2 : (entRd (getText s st.2).t).2 = 0) (h3 : (actR st.1 (entRd (getText s st.2).t).1).2.2 = 0) : repS s st = some ((actR st.1 (entRd (getText s st.2).t).1).1, (getText s st.2).at_) := by unfold repS; rw [if_neg (by simp [h]), if_neg (by simp [h2]), if_neg (by simp [h3])]
theorem repS_some {s : ByteArray} {st st' : RSt} (h : repS s st = some st') : (getText s st.2).c = 0 ∧ (entRd (getText s st.2).t).2 = 0 ∧ (actR st.1 (entRd (getText s st.2).t).1).2.2 = 0 ∧ st' = ((actR st.1 (entRd (getText s st.2).t).1).1, (getText s st.2).at_) := by
  by_cases h1 : (getText s st.2).c = 0
  case neg => rw [repS_text h1] at h; cases h
  by_cases h2 : (entRd (getText s st.2).t).2 = 0
  case neg => rw [repS_ent h1 h2] at h; cases h
  by_cases h3 : (actR st.1 (entRd (getText s st.2).t).1).2.2 = 0
  case neg => rw [repS_act h1 h2 h3] at h; cases h
  rw [repS_yes h1 h2 h3] at h
  exact ⟨h1, h2, h3, (Option.some.inj h).symm⟩
theorem repS_end {s : ByteArray} {p : Pl} {n : Int} (h : (s.size : Int) ≤ n) : repS s (p, n) = none := by
  refine repS_text fun h0 => ?_
  have := getText_gt h0
  have h2 : n < s.size := this.2.1
  omega
theorem repS_gt {s : ByteArray} {st st' : RSt} (h : repS s st = some st') : 0 ≤ st.2 ∧ st.2 < st'.2 ∧ st'.2 ≤ s.size := by
  obtain ⟨h1, _, _, rfl⟩ := repS_some h
  have := getText_gt h1
  exact ⟨this.1, this.2.2.1, this.2.2.2.1⟩
theorem repN_enough {s : ByteArray} : ∀ (m n : Nat) (st : RSt), s.size + 1 ≤ m + st.2.toNat → s.size + 1 ≤ n + st.2.toNat → st.2 ≤ s.size → repN s m st = repN s n st
  | 0, n, st, hm, hn, hs => by omega
  | m + 1, 0, st, hm, hn, hs => by omega
  | m + 1, n + 1, st, hm, hn, hs => by
    unfold repN
    cases e : repS s st with
    | none => rfl
    | some st' =>
      have := repS_gt e
      exact repN_enough m n st' (by omega) (by omega) this.2.2
/-- What is left to do. -/
@[irreducible] def repL (s : ByteArray) (st : RSt) : RSt := repN s (s.size + 1) st
theorem repL_none {s : ByteArray} {st : RSt} (h : repS s st = none) : repL s st = st := by unfold repL repN; rw [h]
theorem repL_some {s : ByteArray} {st st' : RSt} (h : repS s st = some st') : repL s st = repL s st' := by
  have := repS_gt h
  unfold repL
  rw [repN_enough (s.size + 1) (s.size + 1) st' (by omega) (by omega) this.2.2]
  conv => lhs; unfold repN
  rw [h]
  exact repN_enough _ _ _ (by omega) (by omega) this.2.2
theorem actR_right {p : Pl} {e : Ent} (h : (actR p e).2.2 = 0) : poolR (actR p e).1 = true := by
  unfold actR at h ⊢
  split
  · rename_i c; rw [if_pos c] at h; cases h
  · rename_i c
    rw [if_neg c] at h
    split
    · rename_i c2; rw [if_pos c2] at h; exact (subR_right h).2
    · rename_i c2
      rw [if_neg c2] at h
      split
      · rename_i c3; rw [if_pos c3] at h; exact (chR_right h).2
      · rename_i c3
        rw [if_neg c3] at h
        cases q1 : poolR p
        · rw [advR_form q1] at h; cases h
        · by_cases q2 : p.now = 999900
          · rw [advR_full q1 q2] at h; cases h
          · rw [advR_yes q1 q2]; exact advP_right q1 q2
theorem repS_right {s : ByteArray} {st st' : RSt} (h : repS s st = some st') : poolR st'.1 = true := by
  obtain ⟨_, _, h3, rfl⟩ := repS_some h
  exact actR_right h3
theorem repN_right {s : ByteArray} : ∀ (n : Nat) (st : RSt), poolR st.1 = true → 0 ≤ st.2 ∧ st.2 ≤ s.size → poolR (repN s n st).1 = true ∧ 0 ≤ (repN s n st).2 ∧ (repN s n st).2 ≤ s.size
  | 0, st, h, h2 => ⟨h, h2⟩
  | n + 1, st, h, h2 => by
    unfold repN
    cases e : repS s st with
    | none => exact ⟨h, h2⟩
    | some st' => have := repS_gt e; exact repN_right n st' (repS_right e) ⟨by omega, this.2.2⟩
@[irreducible] def repR (cl : List (List Lab)) (s : ByteArray) : Pl × Int × Int :=
  if 8000 < s.size then (zPl, 0, 2) else if (newR cl).2 ≠ 0 then (zPl, 0, (newR cl).2) else ((repL s ((newR cl).1, 0)).1, (repL s ((newR cl).1, 0)).2, 0)
theorem repR_long {cl : List (List Lab)} {s : ByteArray} (h : 8000 < s.size) : repR cl s = (zPl, 0, 2) := by unfold repR; rw [if_pos h]
theorem repR_new {cl : List (List Lab)} {s : ByteArray} (h : ¬ 8000 < s.size) (h2 : ¬ (newR cl).2 = 0) : repR cl s = (zPl, 0, (newR cl).2) := by unfold repR; rw [if_neg h, if_pos h2]
theorem repR_yes {cl : List (List Lab)} {s : ByteArray} (h : ¬ 8000 < s.size) (h2 : (newR cl).2 = 0) : repR cl s = ((repL s ((newR cl).1, 0)).1, (repL s ((newR cl).1, 0)).2, 0) := by unfold repR; rw [if_neg h, if_neg (by simp [h2])]
theorem newR_right {cl : List (List Lab)} (h : (newR cl).2 = 0) : newR cl = (newP cl, 0) ∧ poolR (newP cl) = true := by
  by_cases h4 : 400 < cl.length
  · rw [newR_long h4] at h; cases h
  · cases hc : clearR cl
    · rw [newR_no h4 hc] at h; cases h
    · exact ⟨newR_yes h4 hc, newP_right hc⟩
theorem repR_ok (cl : List (List Lab)) (s : ByteArray) : (PlOk (repR cl s).1 ∧ PlFit (repR cl s).1 ∧ wPl (repR cl s).1 ≤ 64 * 1048576) ∧ I64 (repR cl s).2.1 ∧ (0 ≤ (repR cl s).2.1 ∧ (repR cl s).2.1 ≤ 8000) := by
  have z : I64 0 := by unfold I64; omega
  by_cases h : 8000 < s.size
  · rw [repR_long h]; exact ⟨zPl_ok, z, (by show (0 : Int) ≤ 0 ∧ (0 : Int) ≤ 8000; decide)⟩
  · by_cases h2 : (newR cl).2 = 0
    · rw [repR_yes h h2]
      obtain ⟨e, hr⟩ := newR_right h2
      rw [e]
      unfold repL
      obtain ⟨q1, q2, q3⟩ := repN_right (s := s) (s.size + 1) (newP cl, 0) hr ⟨Int.le_refl _, by show (0 : Int) ≤ _; omega⟩
      exact ⟨right_ok q1, ⟨by show -9223372036854775808 ≤ (repN s (s.size + 1) (newP cl, 0)).2; omega, by show (repN s (s.size + 1) (newP cl, 0)).2 ≤ 9223372036854775807; omega⟩, q2, by show (repN s (s.size + 1) (newP cl, 0)).2 ≤ 8000; omega⟩
    · rw [repR_new h h2]; exact ⟨zPl_ok, z, (by show (0 : Int) ≤ 0 ∧ (0 : Int) ≤ 8000; decide)⟩
end Go.Proofs.YtagdkpcdagknlaaGreat
