/- SpanPut walked. -/
import Derived.Test.YtfmjnncgpfkejaaT1
import Derived.Test.YtfmjnncgpfkejaaQ3
import Derived.Test.YtfmjnncgpfkejaaE2
import Derived.Lib.SliceRun
set_option maxRecDepth 100000
set_option linter.unusedVariables false
namespace Go.Proofs.Ytfmjnncgpfkejaa
open Go.RowKit Go.Fin1

/-- The place of a new span. -/
@[irreducible] def posS (l : List Spn) (f : Int) : Nat := (l.takeWhile (fun y => decide (y.f < f))).length
theorem posS_le (l : List Spn) (f : Int) : posS l f ≤ l.length := by unfold posS; exact (List.takeWhile_prefix _).length_le
theorem takeWhile_at {α : Type} {p : α → Bool} : ∀ {l : List α} {k : Nat}, k ≤ l.length → (∀ (j : Nat) (hj : j < l.length), j < k → p l[j] = true) → (∀ (hk : k < l.length), p l[k] = false) → (l.takeWhile p).length = k
  | [], k, hk, _, _ => by simp at hk; simp [hk]
  | x :: l, 0, _, _, h => by have := h (by simp); simp at this; simp [this]
  | x :: l, k + 1, hk, h, h2 => by
    have h0 := h 0 (by simp) (by omega)
    simp at h0
    rw [List.takeWhile_cons, if_pos h0, List.length_cons, takeWhile_at (l := l) (k := k) (by simpa using hk) (fun j hj hjk => h (j + 1) (Nat.succ_lt_succ hj) (by omega)) (fun hk' => h2 (Nat.succ_lt_succ hk'))]
theorem posS_at {l : List Spn} {f : Int} {k : Nat} (hk : k < l.length) (h : ∀ (j : Nat) (hj : j < l.length), j < k → decide (l[j].f < f) = true) (h2 : decide (l[k].f < f) = false) : posS l f = k := by
  unfold posS; exact takeWhile_at (by omega) h (fun _ => h2)
theorem posS_end {l : List Spn} {f : Int} (h : ∀ (j : Nat) (hj : j < l.length), decide (l[j].f < f) = true) : posS l f = l.length := by
  unfold posS; exact takeWhile_at (Nat.le_refl _) (fun j hj _ => h j hj) (fun h' => absurd h' (Nat.lt_irrefl _))
@[irreducible] def putL (l : List Spn) (x : Spn) : List Spn :=
  if 400 < l.length then [] else if (spnsOk l && spnOk x && freeL l x) && decide (l.length < 20) then insL l (posS l x.f) x else l
theorem putL_long {l : List Spn} {x : Spn} (h : 400 < l.length) : putL l x = [] := by unfold putL; rw [if_pos h]
theorem putL_same {l : List Spn} {x : Spn} (h : ¬ 400 < l.length) (h2 : ((spnsOk l && spnOk x && freeL l x) && decide (l.length < 20)) = false) : putL l x = l := by unfold putL; rw [if_neg h, h2]; rfl
theorem putL_ins {l : List Spn} {x : Spn} {k : Nat} (h : ¬ 400 < l.length) (h2 : (spnsOk l && spnOk x && freeL l x) = true) (h3 : l.length < 20) (hp : posS l x.f = k) : putL l x = insL l k x := by
  unfold putL; rw [if_neg h, h2, hp]; simp [h3]
theorem spnsOk_len {l : List Spn} (h : spnsOk l = true) : l.length ≤ 20 := by
  refine Nat.le_of_not_lt fun hl => ?_
  rw [spnsOk_long hl] at h; cases h
theorem putL_len (l : List Spn) (x : Spn) : (putL l x).length ≤ 1048576 := by
  by_cases h : 400 < l.length
  · rw [putL_long h]; simp
  · cases h2 : (spnsOk l && spnOk x && freeL l x) && decide (l.length < 20)
    · rw [putL_same h h2]; omega
    · simp only [Bool.and_eq_true, decide_eq_true_eq] at h2
      rw [putL_ins h (by simp [h2.1]) h2.2 rfl, insL_len x (posS_le _ _)]; omega
theorem putL_ok {l : List Spn} {x : Spn} (hl : ∀ y ∈ l, y.ok) (hx : x.ok) : ∀ y ∈ putL l x, y.ok := by
  by_cases h : 400 < l.length
  · rw [putL_long h]; intro y hy; cases hy
  · cases h2 : (spnsOk l && spnOk x && freeL l x) && decide (l.length < 20)
    · rw [putL_same h h2]; exact hl
    · simp only [Bool.and_eq_true, decide_eq_true_eq] at h2
      rw [putL_ins h (by simp [h2.1]) h2.2 rfl]
      intro y hy
      unfold insL at hy
      rcases List.mem_append.1 hy with hy | hy
      · exact hl y (List.mem_of_mem_take hy)
      · rcases List.mem_cons.1 hy with rfl | hy
        · exact hx
        · exact hl y (List.mem_of_mem_drop hy)
theorem heap_new_at {W : World} {o : Obj} {b : Nat} (h : b = W.heap.size) : (W.alloc o).heap[b]? = some o := by subst h; exact heap_alloc_new W o
theorem rSpn_rc {w : World} {v : Value} {l : List Spn} (h : SlR w 2 rSpn v l) : SlR w 2 (rc Spn.cells) v l := slr_with h fun _ _ _ hr => hr.1
theorem spn_ok {w : World} {v : Value} {l : List Spn} (h : SlR w 2 rSpn v l) : ∀ x ∈ l, x.ok := fun x hx => by
  obtain ⟨_, hr⟩ := slr_all h x hx
  exact hr.2
theorem row_spn {B : Nat} {w : World} {v : Value} {l : List Spn} (h : Row B w 132 2 Spn.cells v l) (hl : ∀ x ∈ l, x.ok) : SlR w 2 rSpn v l := by
  obtain ⟨fp, hO⟩ := Row.own (f := Spn.cells) (K := 2) (fun _ => rfl) h
  exact slr_with (oFl_reads (f := Spn.cells) (fun _ => rfl) hO.1) fun cs x hm hc => ⟨hc, hl x hm⟩


end Go.Proofs.Ytfmjnncgpfkejaa
