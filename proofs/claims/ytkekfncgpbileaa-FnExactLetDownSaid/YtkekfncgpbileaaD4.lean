/- Plain mathematics of BoxRight; no program here. -/
import Derived.Test.YtkekfncgpbileaaD3
set_option maxRecDepth 100000
set_option linter.unusedVariables false
namespace Go.Proofs.Ytkekfncgpbileaa
open Go.RowKit Go.Fin1

def zT : Ltr := ⟨⟨0, 0⟩, ⟨0, 0⟩, 0, 0⟩
/-- The pair of a letter. -/
abbrev chan (a b : Lab) : Ltr := ⟨a, b, 0, 0⟩
/-- Is there a channel with these ends? -/
@[irreducible] def hasP (l : List Ltr) (a b : Lab) : Bool := l.any (fun y => sameL y.a a && sameL y.b b)
theorem hasP_yes {l : List Ltr} {a b : Lab} {i : Nat} (hi : i < l.length) (h : (sameL l[i].a a && sameL l[i].b b) = true) : hasP l a b = true := by unfold hasP; exact List.any_eq_true.2 ⟨_, List.getElem_mem hi, h⟩
theorem hasP_no {l : List Ltr} {a b : Lab} (h : ∀ (i : Nat) (hi : i < l.length), (sameL l[i].a a && sameL l[i].b b) = false) : hasP l a b = false := by
  unfold hasP; rw [List.any_eq_false]
  intro y hy
  obtain ⟨i, hi, rfl⟩ := List.mem_iff_getElem.1 hy
  simp [h i hi]
/-- May the channel stand at place i of the list? -/
def chanAt (l : List Ltr) (i : Nat) : Bool := match l[i]? with
  | some x => labR x.a && labR x.b && decide (x.p = 0) && decide (x.q = 0) && !hasT (l.take i) x
  | none => true
theorem chanAt_eq {l : List Ltr} {i : Nat} (hi : i < l.length) : chanAt l i = (labR l[i].a && labR l[i].b && decide (l[i].p = 0) && decide (l[i].q = 0) && !hasT (l.take i) l[i]) := by
  unfold chanAt; rw [List.getElem?_eq_getElem hi]
@[irreducible] def chansR (l : List Ltr) : Bool := decide (l.length ≤ 4) && (List.range l.length).all (chanAt l)
theorem chansR_no {l : List Ltr} {i : Nat} (hi : i < l.length) (h : chanAt l i = false) : chansR l = false := by
  unfold chansR
  rw [show (List.range l.length).all (chanAt l) = false from by rw [List.all_eq_false]; exact ⟨i, List.mem_range.2 hi, by simp [h]⟩, Bool.and_false]
theorem chansR_long {l : List Ltr} (h : 4 < l.length) : chansR l = false := by unfold chansR; rw [decide_eq_false (by omega)]; rfl
theorem chansR_yes {l : List Ltr} (h : ∀ i, i < l.length → chanAt l i = true) : chansR l = decide (l.length ≤ 4) := by
  unfold chansR
  rw [List.all_eq_true.2 fun i hi => h i (List.mem_range.1 hi), Bool.and_true]
theorem chansR_at {l : List Ltr} (h : chansR l = true) : ∀ x ∈ l, x.p = 0 ∧ x.q = 0 := by
  intro x hx
  obtain ⟨i, hi, rfl⟩ := List.mem_iff_getElem.1 hx
  unfold chansR at h
  rw [Bool.and_eq_true, List.all_eq_true] at h
  have := h.2 i (List.mem_range.2 hi)
  rw [chanAt_eq hi] at this
  simp only [Bool.and_eq_true, decide_eq_true_eq] at this
  exact ⟨this.1.1.2, this.1.2⟩
theorem chansR_len {l : List Ltr} (h : chansR l = true) : l.length ≤ 4 := by
  unfold chansR at h; rw [Bool.and_eq_true, decide_eq_true_eq] at h; exact h.1
theorem sameT_chan {y : Ltr} {a b : Lab} (h : y.p = 0 ∧ y.q = 0) : sameT y ⟨a, b, 0, 0⟩ = (sameL y.a a && sameL y.b b) := by
  unfold sameT sameL; rw [Bool.eq_iff_iff]; simp only [Bool.and_eq_true, decide_eq_true_eq]; omega
theorem hasP_eq {l : List Ltr} (h : chansR l = true) (a b : Lab) : hasP l a b = hasT l ⟨a, b, 0, 0⟩ := by
  unfold hasP hasT
  rw [Bool.eq_iff_iff, List.any_eq_true, List.any_eq_true]
  constructor
  · rintro ⟨y, hy, hs⟩; exact ⟨y, hy, by rw [sameT_chan (chansR_at h y hy)]; exact hs⟩
  · rintro ⟨y, hy, hs⟩; exact ⟨y, hy, by rw [sameT_chan (chansR_at h y hy)] at hs; exact hs⟩
/-- May the letter stand at place i of a list over these channels? -/
def letAt (ps : List Ltr) (now : Int) (l : List Ltr) (i : Nat) : Bool := match l[i]? with
  | some x => hasT ps ⟨x.a, x.b, 0, 0⟩ && isIn x.p 0 now && isIn x.q 0 1000000 && (i == 0 || decide ((l.getD (i - 1) zT).p ≤ x.p))
  | none => true
theorem letAt_eq (ps : List Ltr) (now : Int) {l : List Ltr} {i : Nat} (hi : i < l.length) : letAt ps now l i = (hasT ps ⟨l[i].a, l[i].b, 0, 0⟩ && isIn l[i].p 0 now && isIn l[i].q 0 1000000 && (i == 0 || decide ((l.getD (i - 1) zT).p ≤ l[i].p))) := by
  unfold letAt; rw [List.getElem?_eq_getElem hi]
@[irreducible] def letsR (ps : List Ltr) (now : Int) (l : List Ltr) (most : Int) : Bool := decide ((l.length : Int) ≤ most) && (List.range l.length).all (letAt ps now l)
theorem letsR_no {ps : List Ltr} {now most : Int} {l : List Ltr} {i : Nat} (hi : i < l.length) (h : letAt ps now l i = false) : letsR ps now l most = false := by
  unfold letsR
  rw [show (List.range l.length).all (letAt ps now l) = false from by rw [List.all_eq_false]; exact ⟨i, List.mem_range.2 hi, by simp [h]⟩, Bool.and_false]
theorem letsR_long {ps : List Ltr} {now most : Int} {l : List Ltr} (h : most < l.length) : letsR ps now l most = false := by unfold letsR; rw [decide_eq_false (by omega)]; rfl
theorem letsR_yes {ps : List Ltr} {now most : Int} {l : List Ltr} (h : ∀ i, i < l.length → letAt ps now l i = true) : letsR ps now l most = decide ((l.length : Int) ≤ most) := by
  unfold letsR
  rw [List.all_eq_true.2 fun i hi => h i (List.mem_range.1 hi), Bool.and_true]
theorem letsR_len {ps : List Ltr} {now most : Int} {l : List Ltr} (h : letsR ps now l most = true) : (l.length : Int) ≤ most := by
  unfold letsR at h; rw [Bool.and_eq_true, decide_eq_true_eq] at h; exact h.1
/-- How many letters bear this time? -/
def cntT (l : List Ltr) (now : Int) : Nat := l.countP (fun x => decide (x.p = now))
theorem cntT_le (l : List Ltr) (now : Int) : cntT l now ≤ l.length := List.countP_le_length
theorem cntT_step {l : List Ltr} {now : Int} {k : Nat} (h : k < l.length) : cntT (l.take (k + 1)) now = cntT (l.take k) now + if l[k].p = now then 1 else 0 := by
  unfold cntT; rw [List.take_succ_eq_append_getElem h, List.countP_append]
  by_cases hq : l[k].p = now <;> simp [hq]
@[irreducible] def boxR (d : Dk) : Bool := chansR d.pairs && isIn d.now 0 999900 && letsR d.pairs d.now d.box 6 && letsR d.pairs d.now d.audit 20 && decide (d.used = cntT d.audit d.now) && decide ((cntT d.audit d.now : Int) ≤ 2) && !d.box.any (fun x => !hasT d.audit x)
theorem boxR_no1 {d : Dk} (h : (chansR d.pairs && isIn d.now 0 999900 && letsR d.pairs d.now d.box 6 && letsR d.pairs d.now d.audit 20) = false) : boxR d = false := by unfold boxR; rw [h]; rfl
theorem boxR_eq {d : Dk} (h : (chansR d.pairs && isIn d.now 0 999900 && letsR d.pairs d.now d.box 6 && letsR d.pairs d.now d.audit 20) = true) : boxR d = (decide (d.used = cntT d.audit d.now) && decide ((cntT d.audit d.now : Int) ≤ 2) && !d.box.any (fun x => !hasT d.audit x)) := by unfold boxR; rw [h]; simp [Bool.and_assoc]
theorem boxR_at {d : Dk} (h : boxR d = true) : chansR d.pairs = true ∧ isIn d.now 0 999900 = true ∧ letsR d.pairs d.now d.box 6 = true ∧ letsR d.pairs d.now d.audit 20 = true ∧ d.used = cntT d.audit d.now ∧ (cntT d.audit d.now : Int) ≤ 2 := by
  unfold boxR at h; simp only [Bool.and_eq_true, decide_eq_true_eq] at h
  exact ⟨h.1.1.1.1.1.1, h.1.1.1.1.1.2, h.1.1.1.1.2, h.1.1.1.2, h.1.1.2, h.1.2⟩
end Go.Proofs.Ytkekfncgpbileaa
