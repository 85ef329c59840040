/- Plain maths of sorting jobs. -/
import Derived.Test.YtfmjnncgpfkejaaGreatC1
import Derived.Test.YtfmjnncgpfkejaaGreatJ6
set_option maxRecDepth 100000
set_option linter.unusedVariables false
namespace Go.Proofs.YtfmjnncgpfkejaaGreat
open Go.RowKit Go.Fin1
theorem cmpJ_lt {a b : Jb} : cmpJ a b < 0 ↔ a.l.lv < b.l.lv ∨ (a.l.lv = b.l.lv ∧ (a.l.st < b.l.st ∨ (a.l.st = b.l.st ∧ (b.prio < a.prio ∨ (b.prio = a.prio ∧ a.id < b.id))))) := by
  rw [← aheadJ_iff]; unfold aheadJ; simp
/-- Jobs that differ in their label or number are in a strict order. -/
theorem cmpJ_tot {a b : Jb} (h : ¬ (a.l.lv = b.l.lv ∧ a.l.st = b.l.st ∧ a.id = b.id)) : cmpJ a b < 0 ∨ cmpJ b a < 0 := by
  rw [cmpJ_lt, cmpJ_lt]; omega
theorem sorted_uniq {α : Type} {R : α → α → Prop} (ha : ∀ a b, R a b → ¬ R b a) : ∀ {l m : List α}, l.Pairwise R → m.Pairwise R → (∀ x, x ∈ l ↔ x ∈ m) → l = m
  | [], [], _, _, _ => rfl
  | [], b :: m, _, _, h => absurd ((h b).2 (by simp)) (by simp)
  | a :: l, [], _, _, h => absurd ((h a).1 (by simp)) (by simp)
  | a :: l, b :: m, hl, hm, h => by
    rw [List.pairwise_cons] at hl hm
    have hab : a = b := by
      rcases List.mem_cons.1 ((h a).1 (by simp)) with e | e
      · exact e
      · rcases List.mem_cons.1 ((h b).2 (by simp)) with e2 | e2
        · exact e2.symm
        · exact absurd (hm.1 a e) (ha _ _ (hl.1 b e2))
    subst hab
    have hal : a ∉ l := fun h' => ha _ _ (hl.1 a h') (hl.1 a h')
    have ham : a ∉ m := fun h' => ha _ _ (hm.1 a h') (hm.1 a h')
    rw [sorted_uniq ha hl.2 hm.2 fun x => ?_]
    constructor
    · intro hx
      rcases List.mem_cons.1 ((h x).1 (by simp [hx])) with e | e
      · subst e; exact absurd hx hal
      · exact e
    · intro hx
      rcases List.mem_cons.1 ((h x).2 (by simp [hx])) with e | e
      · subst e; exact absurd hx ham
      · exact e
/-- How many stand ahead of j, from the start. -/
def insK (l : List Jb) (j : Jb) : Nat := (l.takeWhile (fun x => aheadJ x j)).length
def insJ (l : List Jb) (j : Jb) : List Jb := l.take (insK l j) ++ [j] ++ l.drop (insK l j)
def sortedJ (l : List Jb) : List Jb := l.foldl insJ []
theorem insK_le (l : List Jb) (j : Jb) : insK l j ≤ l.length := by unfold insK; exact (List.takeWhile_sublist _).length_le
theorem insJ_mem {l : List Jb} {j x : Jb} : x ∈ insJ l j ↔ x ∈ l ∨ x = j := by
  unfold insJ
  simp only [List.mem_append, List.mem_singleton]
  constructor
  · rintro ((h | h) | h)
    · exact .inl (List.mem_of_mem_take h)
    · exact .inr h
    · exact .inl (List.mem_of_mem_drop h)
  · rintro (h | h)
    · rw [← List.take_append_drop (insK l j) l, List.mem_append] at h
      rcases h with h | h
      · exact .inl (.inl h)
      · exact .inr h
    · exact .inl (.inr h)
theorem insJ_len (l : List Jb) (j : Jb) : (insJ l j).length = l.length + 1 := by
  have := insK_le l j
  unfold insJ; simp; omega
/-- Two jobs of one list are not the same. -/
def NeJ (a b : Jb) : Prop := ¬ (a.l.lv = b.l.lv ∧ a.l.st = b.l.st ∧ a.id = b.id)
theorem cmpJ_asym {a b : Jb} (h : cmpJ a b < 0) : ¬ cmpJ b a < 0 := by rw [cmpJ_lt] at h ⊢; omega
theorem cmpJ_trans {a b c : Jb} (h : cmpJ a b < 0) (h2 : cmpJ b c < 0) : cmpJ a c < 0 := by rw [cmpJ_lt] at *; omega
theorem insJ_sorted : ∀ {l : List Jb} {j : Jb}, l.Pairwise (fun a b => cmpJ a b < 0) → (∀ x ∈ l, NeJ x j) → (insJ l j).Pairwise (fun a b => cmpJ a b < 0)
  | [], j, _, _ => by simp [insJ, insK]
  | a :: l, j, h, hn => by
    rw [List.pairwise_cons] at h
    cases e : aheadJ a j
    · have hk : insK (a :: l) j = 0 := by unfold insK; rw [List.takeWhile_cons_of_neg (by simp [e])]; rfl
      unfold insJ; rw [hk]
      simp only [List.take_zero, List.nil_append, List.drop_zero, List.singleton_append]
      have hja : cmpJ j a < 0 := by
        rcases cmpJ_tot (hn a (by simp)) with q | q
        · unfold aheadJ at e; simp at e; omega
        · exact q
      rw [List.pairwise_cons, List.pairwise_cons]
      exact ⟨fun x hx => by
        rcases List.mem_cons.1 hx with rfl | hx
        · exact hja
        · exact cmpJ_trans hja (h.1 x hx), h⟩
    · have hk : insK (a :: l) j = insK l j + 1 := by unfold insK; rw [List.takeWhile_cons_of_pos (by simpa using e)]; rfl
      have hi : insJ (a :: l) j = a :: insJ l j := by unfold insJ; rw [hk]; simp
      rw [hi, List.pairwise_cons]
      have ih := insJ_sorted h.2 (fun x hx => hn x (by simp [hx]))
      refine ⟨fun x hx => ?_, ih⟩
      rcases insJ_mem.1 hx with hx | rfl
      · exact h.1 x hx
      · unfold aheadJ at e; simpa using e
theorem sortedJ_step {l : List Jb} {k : Nat} (hk : k < l.length) : sortedJ (l.take (k + 1)) = insJ (sortedJ (l.take k)) l[k] := by
  unfold sortedJ; rw [List.take_succ_eq_append_getElem hk, List.foldl_append]; rfl
theorem sortedJ_all : ∀ {l : List Jb} {acc : List Jb}, acc.Pairwise (fun a b => cmpJ a b < 0) → l.Pairwise NeJ → (∀ x ∈ acc, ∀ y ∈ l, NeJ x y) → (l.foldl insJ acc).Pairwise (fun a b => cmpJ a b < 0) ∧ ∀ x, x ∈ l.foldl insJ acc ↔ x ∈ acc ∨ x ∈ l
  | [], acc, h, _, _ => ⟨h, fun x => by simp⟩
  | j :: l, acc, h, hn, ha => by
    rw [List.pairwise_cons] at hn
    obtain ⟨h1, h2⟩ := sortedJ_all (l := l) (acc := insJ acc j) (insJ_sorted h fun x hx => ha x hx j (by simp)) hn.2 (fun x hx y hy => by
      rcases insJ_mem.1 hx with hx | rfl
      · exact ha x hx y (by simp [hy])
      · exact hn.1 y hy)
    refine ⟨h1, fun x => ?_⟩
    rw [List.foldl_cons, h2 x, insJ_mem, List.mem_cons]
    constructor
    · rintro ((q | q) | q)
      · exact .inl q
      · exact .inr (.inl q)
      · exact .inr (.inr q)
    · rintro (q | q | q)
      · exact .inl (.inl q)
      · exact .inl (.inr q)
      · exact .inr q
/-- What a sort hands back, of jobs that differ, is the insertion sort's list. -/
theorem sortedJ_uniq {l m : List Jb} (hn : l.Pairwise NeJ) (hm : ∀ (i j : Nat) (hi : i < m.length) (hj : j < m.length), i < j → cmpJ m[i] m[j] < 0) (hx : ∀ x, x ∈ m ↔ x ∈ l) : m = sortedJ l := by
  obtain ⟨h1, h2⟩ := sortedJ_all (l := l) (acc := []) List.Pairwise.nil hn (fun x hx => by cases hx)
  refine sorted_uniq (R := fun a b => cmpJ a b < 0) (fun a b h => cmpJ_asym h) (List.pairwise_iff_getElem.2 fun i j hi hj hij => hm i j hi hj hij) h1 fun x => ?_
  unfold sortedJ; rw [hx, h2 x]; simp
theorem cntL_mono (l : List Jb) (x : Lab) {i j : Nat} (h : i ≤ j) : cntL (l.take i) x ≤ cntL (l.take j) x := by
  unfold cntL
  exact ((List.take_sublist_take_left h).filter _).length_le
theorem jobsR_ne {l : List Jb} (h : jobsR l = true) : l.Pairwise NeJ := by
  rw [List.pairwise_iff_getElem]
  intro i j hi hj hij ⟨e1, e2, e3⟩
  have h1 := jobsR_at h hi
  have h2 := jobsR_at h hj
  rw [jobAt_eq hi, Bool.and_eq_true, decide_eq_true_eq] at h1
  rw [jobAt_eq hj, Bool.and_eq_true, decide_eq_true_eq] at h2
  have el : l[i].l = l[j].l := by
    cases ha : l[i].l with
    | mk a b => cases hb : l[j].l with
      | mk c d => rw [ha, hb] at e1 e2; simp at e1 e2; rw [e1, e2]
  have hs := cntL_step (l := l) (x := l[j].l) hi
  have hm := cntL_mono l l[j].l (show i + 1 ≤ j by omega)
  have hsl : sameL l[i].l l[j].l = true := by rw [el]; exact sameL_self _
  rw [el] at h1
  have h12 := h1.2
  have h22 := h2.2
  simp [hsl] at hs
  omega
/-- A job, and where its nodes lie. -/
abbrev RJ := Jb × (Option Addr × Nat)
def RJ.nv (r : RJ) : Value := .slice r.2.1 r.1.nodes.length r.2.2
def RJ.cells (r : RJ) : List Value := r.1.cells (RJ.nv r)
theorem RJ.len (r : RJ) : (RJ.cells r).length = 9 := rfl
theorem RJ.one (r : RJ) : ∀ u ∈ RJ.cells r, u.oneCell' = true := fun u hu => by
  unfold RJ.cells Jb.cells RJ.nv at hu
  simp at hu
  rcases hu with rfl | rfl | rfl | rfl | rfl | rfl | rfl | rfl | rfl <;> rfl
instance : Inhabited Jb := ⟨⟨⟨0, 0⟩, 0, 0, 0, 0, 0, 0, []⟩⟩
def cmpR (x y : RJ) : Int := cmpJ x.1 y.1
theorem insK_at {l : List Jb} {j : Jb} : ∀ {m : Nat}, m < insK l j → ∃ h : m < l.length, aheadJ l[m] j = true := by
  induction l with
  | nil => intro m h; simp [insK] at h
  | cons a l ih =>
    intro m h
    cases e : aheadJ a j
    · have hk : insK (a :: l) j = 0 := by unfold insK; rw [List.takeWhile_cons_of_neg (by simp [e])]; rfl
      omega
    · have hk : insK (a :: l) j = insK l j + 1 := by unfold insK; rw [List.takeWhile_cons_of_pos (by simpa using e)]; rfl
      cases m with
      | zero => exact ⟨by simp, by simpa using e⟩
      | succ m =>
        obtain ⟨h1, h2⟩ := ih (m := m) (by omega)
        exact ⟨by simp; omega, by simpa using h2⟩
theorem insK_stop {l : List Jb} {j : Jb} : ∀ (h : insK l j < l.length), aheadJ (l[insK l j]'h) j = false := by
  induction l with
  | nil => intro h; simp at h
  | cons a l ih =>
    intro h
    cases e : aheadJ a j
    · have hk : insK (a :: l) j = 0 := by unfold insK; rw [List.takeWhile_cons_of_neg (by simp [e])]; rfl
      simp only [hk]; simpa using e
    · have hk : insK (a :: l) j = insK l j + 1 := by unfold insK; rw [List.takeWhile_cons_of_pos (by simpa using e)]; rfl
      simp only [hk] at h ⊢
      simpa using ih (by simpa using h)
end Go.Proofs.YtfmjnncgpfkejaaGreat
