/- The plain law of View. -/
import Derived.Test.YtkhmdhdaldbbhaaVE
import Derived.Test.YtkhmdhdaldbbhaaPN
import Derived.Test.YtkhmdhdaldbbhaaZZ3
set_option maxRecDepth 100000
set_option linter.unusedVariables false
namespace Go.Proofs.Ytkhmdhdaldbbhaa
open Go.RowKit Go.Fin1
theorem ba_nil (b : ByteArray) : (ByteArray.mk #[]) ++ b = b := by ext1; simp [ByteArray.data_append]
theorem ba_nil' (b : ByteArray) : b ++ (ByteArray.mk #[]) = b := by ext1; simp [ByteArray.data_append]
theorem numsS_app (a : List Int) : ∀ b : List Int, numsS (a ++ b) = numsS a ++ numsS b := fun b => by
  have h : ∀ (b : List Int) (t : ByteArray), b.foldl (fun t n => t ++ putNum n) t = t ++ b.foldl (fun t n => t ++ putNum n) ⟨#[]⟩ := by
    intro b
    induction b with
    | nil => intro t; exact (ba_nil' t).symm
    | cons x b ih => intro t; rw [List.foldl_cons, List.foldl_cons, ih, ih (_ ++ putNum x), ba_nil, ByteArray.append_assoc]
  unfold numsS
  rw [List.foldl_append, h]
theorem numsS_le (l : List Int) : (numsS l).size ≤ 10 * l.length := by
  have := numsS_size l l.length (Nat.le_refl _)
  rwa [List.take_length] at this
/-- The numbers that a view tells of a job. -/
def headJ (j : Jb) : List Int := [j.l.lv, j.l.st, j.id, j.need, j.long, j.prio, j.state, j.start, (j.nodes.length : Int)]
def viewJ (j : Jb) : List Int := headJ j ++ j.nodes
@[irreducible] def viewL (now : Int) (l : List Jb) : ByteArray := numsS (now :: l.flatMap viewJ)
theorem viewL_nil (now : Int) : viewL now [] = putNum now := by
  unfold viewL numsS
  simp [ba_nil]
theorem viewL_snoc (now : Int) (l : List Jb) (j : Jb) : viewL now (l ++ [j]) = viewL now l ++ numsS (headJ j) ++ numsS j.nodes := by
  unfold viewL
  rw [List.flatMap_append, ← List.cons_append, numsS_app, ByteArray.append_assoc]
  congr 1
  simp [viewJ, numsS_app]
theorem viewL_take (now : Int) {l : List Jb} {k : Nat} (h : k < l.length) : viewL now (l.take (k + 1)) = viewL now (l.take k) ++ numsS (headJ l[k]) ++ numsS l[k].nodes := by
  rw [List.take_succ_eq_append_getElem h, viewL_snoc]
theorem viewL_size (now : Int) : ∀ (l : List Jb), (∀ j ∈ l, j.nodes.length ≤ 6) → (viewL now l).size ≤ 10 + 150 * l.length := by
  intro l h
  have h2 : (l.flatMap viewJ).length ≤ 15 * l.length := by
    clear now
    induction l with
    | nil => simp
    | cons j l ih =>
      rw [List.flatMap_cons, List.length_append, List.length_cons]
      have := ih (fun x hx => h x (List.mem_cons_of_mem _ hx))
      have := h j (List.mem_cons_self ..)
      have : (viewJ j).length = 9 + j.nodes.length := by simp [viewJ, headJ]; omega
      omega
  unfold viewL
  refine Nat.le_trans (numsS_le _) ?_
  rw [List.length_cons]
  omega
/-- The jobs that a label sees. -/
@[irreducible] def seesL (l : List Jb) (x : Lab) : List Jb := (sortedJ l).filter (fun j => blw j.l x)
@[irreducible] def viewS (p : Pl) (x : Lab) : ByteArray := if (poolR p && labR x) = true then viewL p.now (seesL p.jobs x) else ⟨#[]⟩
theorem sl_nine (w : World) (b : Nat) (hb : b = w.heap.size) (j : Jb) (hj : j.ok) (hl : j.nodes.length ≤ 1048576) :
    SlR (w.alloc (.cells #[(.int .i64 j.l.lv), (.int .i64 j.l.st), (.int .i64 j.id), (.int .i64 j.need), (.int .i64 j.long), (.int .i64 j.prio), (.int .i64 j.state), (.int .i64 j.start), (.int .i64 (j.nodes.length : Int))] 2)) 1 rInt (.slice (some ⟨b, 0, none⟩) 9 9) (headJ j) := by
  subst hb
  obtain ⟨⟨h1, h2⟩, h3, h4, h5, h6, h7, h8⟩ := hj
  have h9 : I64 (j.nodes.length : Int) := ⟨by omega, by omega⟩
  refine ⟨_, 9, rfl, Nat.le_refl 9, by decide, fun i hi => ?_⟩
  have hi' : i < 9 := hi
  refine ⟨w.heap.size, 0, [(.int .i64 (headJ j)[i])], rfl, rfl, fun q u hu => ?_, rfl, ?_⟩
  · cases q with
    | succ q => simp at hu
    | zero =>
      simp only [List.getElem?_cons_zero, Option.some.injEq] at hu
      subst hu
      have : i = 0 ∨ i = 1 ∨ i = 2 ∨ i = 3 ∨ i = 4 ∨ i = 5 ∨ i = 6 ∨ i = 7 ∨ i = 8 := by omega
      rcases this with rfl | rfl | rfl | rfl | rfl | rfl | rfl | rfl | rfl <;> simp [go_sem, headJ]
  · have : i = 0 ∨ i = 1 ∨ i = 2 ∨ i = 3 ∨ i = 4 ∨ i = 5 ∨ i = 6 ∨ i = 7 ∨ i = 8 := by omega
    rcases this with rfl | rfl | rfl | rfl | rfl | rfl | rfl | rfl | rfl <;> assumption
theorem seesL_mem {l : List Jb} {x : Lab} (hn : l.Pairwise NeJ) {j : Jb} (h : j ∈ seesL l x) : j ∈ l := by
  unfold seesL at h
  have := (List.mem_filter.1 h).1
  unfold sortedJ at this
  have h2 := ((sortedJ_all (l := l) (acc := []) List.Pairwise.nil hn (fun _ h => by cases h)).2 j).1 this
  simpa using h2
theorem seesL_len (l : List Jb) (x : Lab) : (seesL l x).length ≤ l.length := by
  unfold seesL
  rw [← sortedJ_len l]
  exact List.length_filter_le _ _
theorem slr_map {α β : Type} {w : World} {k : Nat} {r : World → List Value → α → Prop} {r' : World → List Value → β → Prop} {v : Value} {xs : List α} (f : α → β) (h : SlR w k r v xs) (hr : ∀ cs x, x ∈ xs → r w cs x → r' w cs (f x)) : SlR w k r' v (xs.map f) := by
  obtain ⟨a, cap, rfl, h1, h2, h3⟩ := h
  refine ⟨a, cap, by rw [List.length_map], by rwa [List.length_map], h2, fun i hi => ?_⟩
  have hi' : i < xs.length := by simpa using hi
  obtain ⟨b, off, cs, q1, q2, q3, q4⟩ := h3 i hi'
  exact ⟨b, off, cs, q1, q2, q3, by rw [List.getElem_map]; exact hr _ _ (List.getElem_mem hi') q4⟩
/-- A row of jobs of ours reads as jobs. -/
theorem row_jobs {B : Nat} {w : World} {v : Value} {rs : List RJ} (h : Row B w 27 9 RJ.cells v rs) (hr : ∀ r ∈ rs, r.1.ok ∧ SlR w 1 rInt (RJ.nv r) r.1.nodes) : SlR w 9 rJob v (rs.map Prod.fst) := by
  obtain ⟨fp, hO⟩ := Row.own (f := RJ.cells) (K := 9) (fun _ => rfl) h
  refine slr_map _ (oFl_reads (f := RJ.cells) (fun _ => rfl) hO.1) fun cs r hm hc => ?_
  obtain ⟨q1, q2⟩ := hr r hm
  exact ⟨RJ.nv r, hc, q1, q2⟩
theorem viewL_sizeN (now : Int) {L : List Jb} (h : ∀ j ∈ L, j.nodes.length ≤ 6) (hl : L.length ≤ 96) (n : Nat) : (viewL now (L.take n)).size ≤ 14410 := by
  refine Nat.le_trans (viewL_size now _ fun j hj => h j (List.mem_of_mem_take hj)) ?_
  rw [List.length_take]
  omega
theorem headJ_size (j : Jb) : (numsS (headJ j)).size ≤ 90 := numsS_le (headJ j)
end Go.Proofs.Ytkhmdhdaldbbhaa
