/- The built-in clear over a block of ours; parts of an owned slice. -/
import Derived.Test.YtkhmdhdaldbbhaaTT
import Derived.Test.YtkhmdhdaldbbhaaJE
import Derived.Lib.SliceRun
set_option maxRecDepth 100000
set_option linter.unusedVariables false
namespace Go
open Go.RowKit
/-- clear over the end of a block of ours: what lies ahead stays. -/
theorem clear_run {P : Program} {t e : TypeId} {size bytes : Nat} {W : World} (E : ElemInfo P t e size bytes) (t0 : TypeId) (g o n cap : Nat) (cur : Array Value) (ty : TypeId) (h0 : 0 < n)
    (hg : W.heap[g]? = some (.cells cur ty (0, 0))) (hfit : o + n * size ≤ cur.size) (hz1 : ∀ i z, P.info? e = some i → i.zero = some z → ∀ v ∈ (Builtin.zeroCells z.cells n).toList, v.oneCell' = true) :
    ∃ w' cur', (Builtin.clear_ #[t] t0 #[.slice (some ⟨g, o, none⟩) n cap]).run P W = .ok (.tuple #[]) w' ∧ Chg [g] W w' ∧ w'.heap[g]? = some (.cells cur' ty (0, 0)) ∧ cur'.size = cur.size ∧ cur'.toList.take o = cur.toList.take o := by
  obtain ⟨i, z, hi, hz, hsize, hby, hzs⟩ := E.info
  subst hsize
  have hlen : (Builtin.zeroCells z.cells n).toList.length = n * i.size := by rw [Array.length_toList, size_zeroCells, hzs]
  have hst := run_storeCells_at P g o ty (Builtin.zeroCells z.cells n).toList 0 cur W hg (by rw [hlen]; simpa using hfit) (hz1 i z hi hz)
  obtain ⟨m, rfl⟩ : ∃ m, n = m + 1 := ⟨n - 1, by omega⟩
  have hrun : (Builtin.clear_ #[t] t0 #[.slice (some ⟨g, o, none⟩) (m + 1) cap]).run P W = .ok (.tuple #[]) (W.setRow g (patch cur.toList o (Builtin.zeroCells z.cells (m + 1)).toList).toArray) := by
    simp [Builtin.clear_, run_underlying E.und, zeroValue, typeInfo, hi, hz, hst, patch]
  refine ⟨_, _, hrun, setRow_chg W g _, setRow_heap W g cur _ ty _ hg, ?_, ?_⟩
  · have := patch_len (l := cur.toList) (o := o) (cs := (Builtin.zeroCells z.cells (m + 1)).toList) (by rw [hlen]; simpa using hfit)
    simpa using this
  · unfold patch
    simp only [List.append_assoc]
    rw [List.take_append_of_le_length (by simp; omega), List.take_take]
    congr 1; omega
theorem Own.tailF {α : Type} {B : Nat} {w w' : World} {ty K n cap : Nat} {f : α → List Value} {fp : List Nat} {g : Nat} {xs : List α} {cur cur' : Array Value} (h : Own B w (oSl ty K (oFlat f)) fp [.slice (some ⟨g, 0, none⟩) n cap] xs) (hg : w.heap[g]? = some (.cells cur ty (0, 0))) (hg' : w'.heap[g]? = some (.cells cur' ty (0, 0))) (hs : cur'.size = cur.size)
    (ht : cur'.toList.take (xs.length * K) = cur.toList.take (xs.length * K)) : Own B w' (oSl ty K (oFlat f)) fp [.slice (some ⟨g, 0, none⟩) n cap] xs := by
  obtain ⟨⟨v', hv, h⟩, hnd, hge⟩ := h
  rcases h with ⟨rfl, _, _⟩ | ⟨g2, cap', cur2, fps, rfl, hg2, hsz, hl, hm, hf, rfl, h⟩
  · simp at hv
  · obtain ⟨rfl, rfl, rfl⟩ : g = g2 ∧ n = xs.length ∧ cap = cap' := by simpa using hv
    rw [hg] at hg2
    obtain rfl : cur = cur2 := by simpa using hg2
    refine ⟨⟨_, rfl, .inr ⟨g, cap, cur', fps, rfl, hg', by rw [hs]; exact hsz, hl, hm, hf, rfl, fun i hi fi hfi => ?_⟩⟩, hnd, hge⟩
    obtain ⟨h1, h2⟩ := h i hi fi hfi
    exact ⟨h1, by rw [← drop_take_in hi, ht, drop_take_in hi]; exact h2⟩
theorem Own.curF {α : Type} {B : Nat} {w : World} {ty K n cap : Nat} {f : α → List Value} {fp : List Nat} {g : Nat} {xs : List α} (h : Own B w (oSl ty K (oFlat f)) fp [.slice (some ⟨g, 0, none⟩) n cap] xs) : ∃ cur, w.heap[g]? = some (.cells cur ty (0, 0)) ∧ cur.size = cap * K ∧ B ≤ g := by
  obtain ⟨⟨v', hv, h⟩, hnd, hge⟩ := h
  rcases h with ⟨rfl, _, _⟩ | ⟨g2, cap', cur2, fps, rfl, hg2, hsz, hl, hm, hf, rfl, h⟩
  · simp at hv
  · obtain ⟨rfl, rfl, rfl⟩ : g = g2 ∧ n = xs.length ∧ cap = cap' := by simpa using hv
    exact ⟨cur2, hg2, hsz, hge g (by simp)⟩
theorem Own.takeF {α : Type} {B : Nat} {w : World} {ty K n cap k : Nat} {f : α → List Value} {fp : List Nat} {g : Nat} {xs : List α} (h : Own B w (oSl ty K (oFlat f)) fp [.slice (some ⟨g, 0, none⟩) n cap] xs) (hk : k ≤ xs.length) : ∃ fp', Own B w (oSl ty K (oFlat f)) fp' [.slice (some ⟨g, 0, none⟩) k cap] (xs.take k) := by
  obtain ⟨⟨v', hv, h⟩, hnd, hge⟩ := h
  rcases h with ⟨rfl, _, _⟩ | ⟨g', cap', cur, fps, rfl, hg, hsz, hl, hm, hf, rfl, h⟩
  · simp at hv
  · obtain ⟨rfl, rfl, rfl⟩ : g = g' ∧ n = xs.length ∧ cap = cap' := by simpa using hv
    have hsub : ((g :: (fps.take k).flatten)).Sublist (g :: fps.flatten) := by
      refine List.Sublist.cons_cons _ ?_
      conv => rhs; rw [← List.take_append_drop k fps, List.flatten_append]
      exact List.sublist_append_left _ _
    refine ⟨g :: (fps.take k).flatten, ⟨_, rfl, .inr ⟨g, cap, cur, fps.take k, by simp; omega, hg, hsz, by simp; omega, hm, by simp; omega, rfl, fun i hi fi hfi => ?_⟩⟩, hnd.sublist hsub, fun b hb => hge b (hsub.subset hb)⟩
    simp only [List.length_take] at hi
    rw [List.getElem_take]
    refine h i (by omega) fi ?_
    rw [List.getElem?_take, if_pos (by omega)] at hfi
    exact hfi
theorem flat_piecesG {α : Type} {f : α → List Value} {K : Nat} : ∀ (xs : List α) (l : List Value), (∀ (i : Nat) (h : i < xs.length), (l.drop (i * K)).take K = f xs[i]) → l.take (xs.length * K) = xs.flatMap f
  | [], l, _ => by simp
  | x :: xs, l, h => by
    have h0 := h 0 (by simp)
    simp only [Nat.zero_mul, List.drop_zero, List.getElem_cons_zero] at h0
    have ih := flat_piecesG (f := f) (K := K) xs (l.drop K) fun i hi => by
      have := h (i + 1) (by simpa using hi)
      rw [List.getElem_cons_succ] at this
      rw [List.drop_drop, ← this, Nat.add_mul, Nat.one_mul, Nat.add_comm K]
    rw [List.flatMap_cons, ← h0, ← ih, List.length_cons, Nat.add_mul, Nat.one_mul, Nat.add_comm, List.take_add]
theorem Own.rowG {α : Type} {B : Nat} {w : World} {ty K : Nat} {f : α → List Value} {fp : List Nat} {v : Value} {xs : List α} (hK : ∀ x, (f x).length = K) (h : Own B w (oSl ty K (oFlat f)) fp [v] xs) : Row B w ty K f v xs := by
  obtain ⟨⟨v', hv, h⟩, hnd, hge⟩ := h
  obtain rfl : v = v' := by simpa using hv
  rcases h with ⟨rfl, rfl, _⟩ | ⟨g, cap, cur, fps, rfl, hg, hsz, hl, hm, hf, rfl, h⟩
  · exact ⟨by simp, .inl ⟨rfl, rfl⟩⟩
  · refine ⟨flatMap_len hK xs, .inr ⟨g, cap, cur, rfl, hge g (by simp), hg, hl, hm, hsz, ?_⟩⟩
    exact flat_piecesG xs _ fun i hi => (h i hi _ (List.getElem?_eq_getElem (by omega))).2
end Go
