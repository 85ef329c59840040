/- Data that is marked by running numbers: what the laws' 'mark' leaves and their 'held' looks for. -/
import Derived.Test.YtfkjdiaeblcimaaV
set_option maxRecDepth 100000
set_option linter.unusedVariables false
namespace Go
open Go.RowKit
section
variable {α : Type}
/-- A list whose elements are marked one behind the other: f marks one from a number on, w says how many numbers that takes. -/
def mkL (f : Nat → α → α) (w : α → Nat) : Nat → List α → List α
  | _, [] => []
  | k, x :: xs => f k x :: mkL f w (k + w x) xs
def wL (w : α → Nat) (l : List α) : Nat := (l.map w).sum
theorem wL_nil (w : α → Nat) : wL w [] = 0 := rfl
theorem wL_cons (w : α → Nat) (x : α) (l : List α) : wL w (x :: l) = w x + wL w l := by simp [wL]
theorem mkL_len (f : Nat → α → α) (w : α → Nat) : ∀ (l : List α) (k : Nat), (mkL f w k l).length = l.length
  | [], _ => rfl
  | x :: l, k => by simp [mkL, mkL_len f w l]
theorem wL_step (w : α → Nat) {l : List α} {n : Nat} (h : n < l.length) : wL w (l.take (n + 1)) = wL w (l.take n) + w l[n] := by
  unfold wL; rw [List.take_succ_eq_append_getElem h]; simp only [List.map_append, List.sum_append, List.map_cons, List.map_nil, List.sum_cons, List.sum_nil, Nat.add_zero]
theorem wL_le (w : α → Nat) : ∀ (l : List α) (n : Nat), wL w (l.take n) ≤ wL w l
  | [], n => by simp
  | x :: l, 0 => by simp [wL]
  | x :: l, n + 1 => by have := wL_le w l n; rw [List.take_succ_cons, wL_cons, wL_cons]; omega
theorem wL_lt (w : α → Nat) {l : List α} {n : Nat} (h : n < l.length) : wL w (l.take n) + w l[n] ≤ wL w l := by rw [← wL_step w h]; exact wL_le w l _
theorem mkL_get (f : Nat → α → α) (w : α → Nat) : ∀ (l : List α) (k n : Nat) (h : n < l.length), (mkL f w k l)[n]'(by rw [mkL_len]; exact h) = f (k + wL w (l.take n)) l[n]
  | x :: l, k, 0, _ => by simp [mkL, wL]
  | x :: l, k, n + 1, h => by
    have := mkL_get f w l (k + w x) n (by simpa using h)
    simp only [mkL, List.getElem_cons_succ, this, List.take_succ_cons, wL_cons, Nat.add_assoc]
theorem mkL_app (f : Nat → α → α) (w : α → Nat) : ∀ (l m : List α) (k : Nat), mkL f w k (l ++ m) = mkL f w k l ++ mkL f w (k + wL w l) m
  | [], m, k => by simp [mkL, wL]
  | x :: l, m, k => by simp [mkL, mkL_app f w l m, wL_cons, Nat.add_assoc]
/-- The first n are marked. -/
def mkN (f : Nat → α → α) (w : α → Nat) (k : Nat) (l : List α) (n : Nat) : List α := mkL f w k (l.take n) ++ l.drop n
theorem mkN_zero (f : Nat → α → α) (w : α → Nat) (k : Nat) (l : List α) : mkN f w k l 0 = l := by simp [mkN, mkL]
theorem mkN_all (f : Nat → α → α) (w : α → Nat) (k : Nat) (l : List α) : mkN f w k l l.length = mkL f w k l := by simp [mkN]
theorem mkN_len (f : Nat → α → α) (w : α → Nat) (k : Nat) (l : List α) (n : Nat) : (mkN f w k l n).length = l.length := by simp [mkN, mkL_len]; omega
theorem mkN_at (f : Nat → α → α) (w : α → Nat) (k : Nat) {l : List α} {n : Nat} (h : n < l.length) : (mkN f w k l n)[n]'(by rw [mkN_len]; exact h) = l[n] := by
  unfold mkN
  rw [List.getElem_append_right (by rw [mkL_len]; simp; omega)]
  simp [mkL_len, Nat.min_eq_left (Nat.le_of_lt h)]
theorem mkN_set (f : Nat → α → α) (w : α → Nat) (k : Nat) {l : List α} {n : Nat} (h : n < l.length) : (mkN f w k l n).set n (f (k + wL w (l.take n)) l[n]) = mkN f w k l (n + 1) := by
  have hl : (mkL f w k (l.take n)).length = n := by rw [mkL_len]; simp; omega
  unfold mkN
  rw [List.set_append_right _ _ (by omega), hl, Nat.sub_self, List.drop_eq_getElem_cons h, List.set_cons_zero, List.take_succ_eq_append_getElem h, mkL_app]
  simp [mkL]
/-- A reader of flat cells, nothing asked of the bounds. -/
def rc (f : α → List Value) : World → List Value → α → Prop := fun _ cs x => cs = f x
theorem rc_stable (f : α → List Value) : Stable (rc f) := fun _ _ _ _ _ h => h
theorem oFl_reads {ty K : Nat} {f : α → List Value} (hf : ∀ x, (f x).length = K) {w : World} {fp : List Nat} {v : Value} {xs : List α} (h : oSl ty K (oFlat f) w fp [v] xs) : SlR w K (rc f) v xs := by
  obtain ⟨v', hv, hs⟩ := oSl_reads (r := rc f) (k := K) (fun _ _ _ _ ⟨_, hc⟩ => ⟨by rw [hc]; exact hf _, hc⟩) h
  obtain rfl : v = v' := by simpa using hv
  exact hs
theorem oFl_at {ty K : Nat} {f : α → List Value} (hf : ∀ x, (f x).length = K) {w : World} {fp : List Nat} {g n cap : Nat} {xs : List α} (h : oSl ty K (oFlat f) w fp [.slice (some ⟨g, 0, none⟩) n cap] xs) (hn : fp.Nodup) {i : Nat} (hi : i < xs.length) :
    w.old g ∧ (∀ j, w.frozen? ⟨g, j, none⟩ = false) ∧ (∀ j u, (f xs[i])[j]? = some u → w.cell? ⟨g, i * K + j, none⟩ = some u) ∧ g ∈ fp ∧
      ∀ x', oSl ty K (oFlat f) (w.layCells g (i * K) (f x')) fp [.slice (some ⟨g, 0, none⟩) n cap] (xs.set i x') := by
  obtain ⟨fi, cs, h1, h2, h3, h4, ⟨h5, rfl⟩, h6, h7, h8, h9, h10, h11⟩ := oSl_at (oFlat_local f) (oFlat_held f) h hn hi
  refine ⟨h1, h2, h4, h9, fun x' => h11 (f x') x' (by rw [hf]; exact Nat.le_refl _) ⟨h5, ?_⟩⟩
  rw [hf, List.drop_of_length_le (by rw [hf]; exact Nat.le_refl _), List.append_nil]
theorem oSl_slice {ty K : Nat} {o : Ow α} {w : World} {fp : List Nat} {v : Value} {xs : List α} (h : oSl ty K o w fp [v] xs) {i : Nat} (hi : i < xs.length) : ∃ g cap, v = .slice (some ⟨g, 0, none⟩) xs.length cap := by
  obtain ⟨v', hv, h⟩ := h
  obtain rfl : v = v' := by simpa using hv
  rcases h with ⟨_, rfl, _⟩ | ⟨g, cap, _, _, rfl, _⟩
  · exact absurd hi (Nat.not_lt_zero _)
  · exact ⟨g, cap, rfl⟩
theorem oSl_shape {ty K : Nat} {o : Ow α} {w : World} {fp : List Nat} {v : Value} {xs : List α} (h : oSl ty K o w fp [v] xs) : ∃ a cap, v = .slice a xs.length cap ∧ cap ≤ maxLen ∧ xs.length ≤ cap := by
  obtain ⟨v', hv, h⟩ := h
  obtain rfl : v = v' := by simpa using hv
  rcases h with ⟨rfl, rfl, _⟩ | ⟨g, cap, _, _, rfl, _, _, h1, h2, _⟩
  · exact ⟨none, 0, rfl, Nat.zero_le _, Nat.le_refl _⟩
  · exact ⟨_, cap, rfl, h2, h1⟩
theorem Chg.plus {S : List Nat} {a b : World} (h : Chg S a b) (X : More) : Chg S a (b.plus X) := h.trans ((Ext.refl _).plus X |>.chg S)
theorem Chg.alloc {S : List Nat} {a b : World} (h : Chg S a b) (o : Obj) : Chg S a (b.alloc o) := h.trans ((Ext.refl _).alloc o |>.chg S)
end
end Go
