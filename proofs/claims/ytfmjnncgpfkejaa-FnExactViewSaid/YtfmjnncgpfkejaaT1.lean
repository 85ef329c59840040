/- slices.Insert of one span into a row of ours. -/
import Derived.Test.YtfmjnncgpfkejaaT0
import Derived.Test.YtfmjnncgpfkejaaP2
import Derived.Test.YtfmjnncgpfkejaaP3
import Derived.Test.YtfmjnncgpfkejaaJ2
set_option maxRecDepth 100000
set_option linter.unusedVariables false
namespace Go.Proofs.Ytfmjnncgpfkejaa
open Go.RowKit Go.Fin1

theorem info_Span : (Try.prog.info? 132).map (fun i => (i.zero, i.size, i.bytes)) = some (some (.agg #[(.int .i64 0), (.int .i64 0)]), 2, 16) := by kernel_rfl
theorem el_Span : ElemInfo Try.prog 137 132 2 16 := by
  obtain ⟨i, hi, hz, hs, hb⟩ := info_parts info_Span
  exact ⟨Try.underlying137, ⟨i, _, hi, hz, hs, hb, rfl⟩, by decide⟩
abbrev oSpanS : Ow (List Spn) := oSl 132 2 (oFlat Spn.cells)

theorem Chg.slc {a : Option Addr} {n c n' c' : Nat} {w w' : World} (h : Chg (blkL (.slice a n c)) w w') : Chg (blkL (.slice a n' c')) w w' := by cases a <;> exact h
def insL (l : List Spn) (i : Nat) (x : Spn) : List Spn := l.take i ++ x :: l.drop i
theorem insL_cells (l : List Spn) (i : Nat) (x : Spn) : (insL l i x).flatMap Spn.cells = (l.flatMap Spn.cells).take (i * 2) ++ x.cells ++ (l.flatMap Spn.cells).drop (i * 2) := by
  unfold insL
  rw [List.flatMap_append, List.flatMap_cons, flatMap_take (K := 2) (fun _ => rfl), flatMap_drop (K := 2) (fun _ => rfl), List.append_assoc]
theorem insL_len {l : List Spn} {i : Nat} (x : Spn) (h : i ≤ l.length) : (insL l i x).length = l.length + 1 := by
  unfold insL; simp; omega
theorem spn_one {l : List Spn} {u : Value} (h : u ∈ l.flatMap Spn.cells) : u.oneCell' = true := by
  obtain ⟨x, _, hx⟩ := List.mem_flatMap.1 h
  simp [Spn.cells] at hx
  rcases hx with rfl | rfl <;> rfl
theorem spn_one1 {x : Spn} {u : Value} (h : u ∈ x.cells) : u.oneCell' = true := by
  simp [Spn.cells] at h
  rcases h with rfl | rfl <;> rfl
/-- A row in its block. -/
theorem row_in {B : Nat} {w : World} {g n cap : Nat} {l : List Spn} {x : Spn} {i : Nat} {C : List Value} (hb : B ≤ g) (hg : w.heap[g]? = some (.cells C.toArray 132 (0, 0))) (hn : n = l.length + 1) (hc : n ≤ cap) (hm : cap ≤ maxLen) (hs : C.length = cap * 2)
    (hi : i ≤ l.length) (ht : C.take (n * 2) = (l.flatMap Spn.cells).take (i * 2) ++ x.cells ++ (l.flatMap Spn.cells).drop (i * 2)) :
    Row B w 132 2 Spn.cells (.slice (some ⟨g, 0, none⟩) n cap) (insL l i x) := by
  subst hn
  refine ⟨?_, .inr ⟨g, cap, C.toArray, by rw [insL_len x hi], hb, hg, by rw [insL_len x hi]; omega, hm, by simpa using hs, ?_⟩⟩
  · rw [flatMap_len (K := 2) (fun _ => rfl)]
  · rw [insL_len x hi, insL_cells]
    simpa using ht

end Go.Proofs.Ytfmjnncgpfkejaa
