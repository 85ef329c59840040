/- Plain maths of configurations: the labels, sorted and compacted, are the labels in order. -/
import Derived.Test.YtkekfncgpbileaaC1
import Derived.Test.YtkekfncgpbileaaZ1
set_option maxRecDepth 100000
set_option linter.unusedVariables false
namespace Go.Proofs.Ytkekfncgpbileaa
open Go.RowKit Go.Fin1
/-- A pair of a configuration. -/
structure Prr where
  a : Lab
  b : Lab
  rate : Int
/-- A quota of a configuration. -/
structure Quo where
  l : Lab
  most : Int
/-- A configuration. -/
structure Cfg where
  nodes : List (List Lab)
  pairs : List Prr
  quotas : List Quo
  half : Int
theorem lab_eq {a b : Lab} (h1 : a.lv = b.lv) (h2 : a.st = b.st) : a = b := by cases a; cases b; simp_all
theorem sameL_eq {a b : Lab} : sameL a b = true ↔ a = b := by
  unfold sameL
  simp only [Bool.and_eq_true, decide_eq_true_eq]
  exact ⟨fun h => lab_eq h.1 h.2, fun h => by subst h; exact ⟨rfl, rfl⟩⟩
theorem sameL_refl (a : Lab) : sameL a a = true := sameL_eq.2 rfl
theorem hasL_mem {l : List Lab} {x : Lab} : hasL l x = true ↔ x ∈ l := by
  unfold hasL
  rw [List.any_eq_true]
  exact ⟨fun ⟨y, hy, h⟩ => by rw [← sameL_eq.1 h]; exact hy, fun h => ⟨x, h, sameL_refl x⟩⟩
theorem cmpL_asymm {a b : Lab} (h : cmpL a b < 0) : ¬ cmpL b a < 0 := by rw [cmpL_lt] at *; omega
theorem cmpL_irrefl (a : Lab) : ¬ cmpL a a < 0 := by rw [cmpL_lt]; omega
theorem cmpL_tri {a b : Lab} (h1 : ¬ cmpL a b < 0) (h2 : ¬ cmpL b a < 0) : a = b := by
  rw [cmpL_lt] at *; exact lab_eq (by omega) (by omega)
theorem cmpL_le {a b c : Lab} (h1 : ¬ cmpL b a < 0) (h2 : ¬ cmpL c b < 0) : ¬ cmpL c a < 0 := by rw [cmpL_lt] at *; omega
abbrev UpL (l : List Lab) : Prop := l.Pairwise (fun a b => cmpL a b < 0)
/-- Two lists that rise and have the same members are one. -/
theorem upL_eq : ∀ {l m : List Lab}, UpL l → UpL m → (∀ x, x ∈ l ↔ x ∈ m) → l = m
  | [], [], _, _, _ => rfl
  | [], b :: m, _, _, h => by have := (h b).2 List.mem_cons_self; cases this
  | a :: l, [], _, _, h => by have := (h a).1 List.mem_cons_self; cases this
  | a :: l, b :: m, h1, h2, h => by
    obtain ⟨h1a, h1l⟩ := List.pairwise_cons.1 h1
    obtain ⟨h2b, h2m⟩ := List.pairwise_cons.1 h2
    have e : a = b := by
      rcases List.mem_cons.1 ((h a).1 List.mem_cons_self) with e | e
      · exact e
      · rcases List.mem_cons.1 ((h b).2 List.mem_cons_self) with e2 | e2
        · exact e2.symm
        · exact absurd (h1a b e2) (cmpL_asymm (h2b a e))
    subst e
    congr 1
    refine upL_eq h1l h2m fun x => ⟨fun hx => ?_, fun hx => ?_⟩
    · rcases List.mem_cons.1 ((h x).1 (List.mem_cons_of_mem _ hx)) with e | e
      · subst e; exact absurd (h1a x hx) (cmpL_irrefl x)
      · exact e
    · rcases List.mem_cons.1 ((h x).2 (List.mem_cons_of_mem _ hx)) with e | e
      · subst e; exact absurd (h2b x hx) (cmpL_irrefl x)
      · exact e
/-- The first n elements, each run of equal ones once. -/
def compN (l : List Lab) : Nat → List Lab
  | 0 => []
  | n + 1 => if (decide (n = 0) || !sameL (l.getD n ⟨0, 0⟩) (l.getD (n - 1) ⟨0, 0⟩)) = true then compN l n ++ [l.getD n ⟨0, 0⟩] else compN l n
theorem compN_len (l : List Lab) : ∀ n, (compN l n).length ≤ n
  | 0 => Nat.le_refl _
  | n + 1 => by have := compN_len l n; unfold compN; split <;> simp <;> omega
theorem compN_pos (l : List Lab) : ∀ n, 0 < n → 0 < (compN l n).length
  | 0, h => absurd h (Nat.lt_irrefl _)
  | n + 1, _ => by
    unfold compN; split
    · simp
    · rename_i h
      have : n ≠ 0 := by intro e; subst e; simp at h
      exact compN_pos l n (by omega)
theorem compN_up {l : List Lab} (hs : ∀ (i j : Nat) (hi : i < l.length) (hj : j < l.length), i ≤ j → ¬ cmpL l[j] l[i] < 0) :
    ∀ n, n ≤ l.length → UpL (compN l n) ∧ ∀ x, x ∈ compN l n ↔ x ∈ l.take n
  | 0, _ => ⟨List.Pairwise.nil, fun x => by simp [compN]⟩
  | n + 1, h => by
    obtain ⟨h1, h2⟩ := compN_up hs n (by omega)
    have hn : n < l.length := by omega
    have hg : ∀ (i : Nat) (hi : i < l.length), l.getD i ⟨0, 0⟩ = l[i] := fun i hi => by simp [List.getD, hi]
    have ht : ∀ x, x ∈ l.take (n + 1) ↔ x ∈ l.take n ∨ x = l[n] := fun x => by
      rw [List.take_succ_eq_append_getElem hn, List.mem_append, List.mem_singleton]
    unfold compN
    rw [hg n hn, hg (n - 1) (by omega)]
    split
    · rename_i hc
      refine ⟨?_, fun x => by rw [ht, List.mem_append, List.mem_singleton, h2]⟩
      refine List.pairwise_append.2 ⟨h1, List.pairwise_singleton _ _, fun y hy z hz => ?_⟩
      obtain rfl := List.mem_singleton.1 hz
      obtain ⟨i, hi, rfl⟩ := List.mem_iff_getElem.1 ((h2 y).1 hy)
      rw [List.length_take] at hi
      rw [List.getElem_take]
      have h3 := hs i n (by omega) hn (by omega)
      apply Classical.byContradiction
      intro h4
      have he := cmpL_tri h4 h3
      by_cases h0 : n = 0
      · omega
      · have h5 := hs i (n - 1) (by omega) (by omega) (by omega)
        have h6 := hs (n - 1) n (by omega) hn (by omega)
        rw [he] at h5
        have h7 := cmpL_tri h5 h6
        rw [decide_eq_false h0, Bool.false_or, sameL_eq.2 h7.symm] at hc
        · cases hc
    · rename_i hc
      have h0 : n ≠ 0 := by intro e; subst e; simp at hc
      have he : l[n] = l[n - 1] := by
        rw [decide_eq_false h0, Bool.false_or] at hc
        exact sameL_eq.1 (by simpa using hc)
      refine ⟨h1, fun x => ?_⟩
      rw [ht, h2]
      refine ⟨.inl, fun h => ?_⟩
      rcases h with h | h
      · exact h
      · rw [h, he]
        exact List.mem_iff_getElem.2 ⟨n - 1, by rw [List.length_take]; omega, by rw [List.getElem_take]⟩
def ordL (k : Nat) : Lab := ⟨(k / 8 : Nat), (k % 8 : Nat)⟩
/-- The labels of nodes, in order: up to the k-th of all. -/
def labsN (cl : List (List Lab)) (k : Nat) : List Lab := ((List.range k).map ordL).filter (fun a => cl.any (fun l => hasL l a))
@[irreducible] def labsOf (cl : List (List Lab)) : List Lab := labsN cl 32
theorem labsN_succ (cl : List (List Lab)) (k : Nat) : labsN cl (k + 1) = if cl.any (fun l => hasL l (ordL k)) = true then labsN cl k ++ [ordL k] else labsN cl k := by
  unfold labsN
  rw [List.range_succ, List.map_append, List.filter_append]
  simp only [List.map_cons, List.map_nil, List.filter_cons, List.filter_nil]
  split <;> simp
theorem labsN_len (cl : List (List Lab)) (k : Nat) : (labsN cl k).length ≤ k := by
  unfold labsN
  have := List.length_filter_le (fun a => cl.any (fun l => hasL l a)) ((List.range k).map ordL)
  simpa using this
theorem labsN_up (cl : List (List Lab)) (k : Nat) : UpL (labsN cl k) := by
  unfold labsN
  refine List.Pairwise.filter _ ?_
  rw [List.pairwise_map]
  refine List.Pairwise.imp (fun {i j} h => ?_) List.pairwise_lt_range
  rw [cmpL_lt]
  unfold ordL
  simp only
  omega
theorem labsOf_mem {cl : List (List Lab)} (h : ∀ l ∈ cl, ∀ x ∈ l, labR x = true) (x : Lab) : x ∈ labsOf cl ↔ x ∈ cl.flatten := by
  unfold labsOf labsN
  rw [List.mem_filter, List.any_eq_true, List.mem_flatten]
  constructor
  · rintro ⟨_, l, hl, hx⟩
    exact ⟨l, hl, hasL_mem.1 hx⟩
  · rintro ⟨l, hl, hx⟩
    refine ⟨?_, l, hl, hasL_mem.2 hx⟩
    have hr := h l hl x hx
    unfold labR at hr
    rw [Bool.and_eq_true, isIn_iff, isIn_iff] at hr
    rw [List.mem_map]
    refine ⟨(8 * x.lv + x.st).toNat, List.mem_range.2 (by omega), lab_eq ?_ ?_⟩ <;> (unfold ordL; simp only; omega)
theorem clearR_labs {cl : List (List Lab)} (h : clearR cl = true) : ∀ l ∈ cl, ∀ x ∈ l, labR x = true := by
  unfold clearR at h
  simp only [Bool.and_eq_true] at h
  intro l hl x hx
  have := List.all_eq_true.1 h.2 l hl
  unfold chainR at this
  simp only [Bool.and_eq_true] at this
  exact List.all_eq_true.1 this.1.2 x hx
theorem clearR_bd {cl : List (List Lab)} (h : clearR cl = true) : (1 ≤ cl.length ∧ cl.length ≤ 6) ∧ ∀ l ∈ cl, 1 ≤ l.length ∧ l.length ≤ 4 := by
  unfold clearR at h
  simp only [Bool.and_eq_true, decide_eq_true_eq] at h
  refine ⟨h.1, fun l hl => ?_⟩
  have := List.all_eq_true.1 h.2 l hl
  unfold chainR at this
  simp only [Bool.and_eq_true, decide_eq_true_eq] at this
  exact this.1.1
theorem flat_len {α : Type} {n : Nat} : ∀ {cl : List (List α)}, (∀ l ∈ cl, l.length ≤ n) → cl.flatten.length ≤ n * cl.length
  | [], _ => Nat.zero_le _
  | l :: cl, h => by
    have h1 := h l List.mem_cons_self
    have h2 := flat_len (cl := cl) fun l hl => h l (List.mem_cons_of_mem _ hl)
    simp only [List.flatten_cons, List.length_append, List.length_cons, Nat.mul_succ] at *
    omega
/-- What is sorted and has the members of the nodes compacts to their labels in order. -/
theorem comp_labs {cl : List (List Lab)} {l : List Lab} (h : clearR cl = true) (hm : ∀ x, x ∈ l ↔ x ∈ cl.flatten) (hs : ∀ (i j : Nat) (hi : i < l.length) (hj : j < l.length), i ≤ j → ¬ cmpL l[j] l[i] < 0) : compN l l.length = labsOf cl := by
  obtain ⟨h1, h2⟩ := compN_up hs l.length (Nat.le_refl _)
  refine upL_eq h1 (by unfold labsOf; exact labsN_up cl 32) fun x => ?_
  rw [h2, labsOf_mem (clearR_labs h), List.take_length, hm]
/-- The same two labels. -/
def samePr (x y : Prr) : Bool := sameL x.a y.a && sameL x.b y.b
def prAt (ls : List Lab) (l : List Prr) (i : Nat) : Bool :=
  let x := l.getD i ⟨⟨0, 0⟩, ⟨0, 0⟩, 0⟩
  !(l.take i).any (fun y => samePr x y) && hasL ls x.a && hasL ls x.b && !blw x.a x.b && isIn x.rate 1 3
@[irreducible] def prsR (ls : List Lab) (l : List Prr) : Bool := decide (l.length ≤ 4) && (List.range l.length).all (prAt ls l)
def quAt (ls : List Lab) (l : List Quo) (i : Nat) : Bool :=
  let x := l.getD i ⟨⟨0, 0⟩, 0⟩
  hasL ls x.l && isIn x.most 1 9 && (decide (i = 0) || decide (cmpL (l.getD (i - 1) ⟨⟨0, 0⟩, 0⟩).l x.l < 0))
@[irreducible] def qusR (ls : List Lab) (l : List Quo) : Bool := (List.range l.length).all (quAt ls l)
@[irreducible] def cfgR (c : Cfg) : Bool := clearR c.nodes && isIn c.half 1 9 && decide ((labsOf c.nodes).length ≤ 8) && prsR (labsOf c.nodes) c.pairs && qusR (labsOf c.nodes) c.quotas
theorem prsR_len {ls : List Lab} {l : List Prr} (h : ¬ l.length ≤ 4) : prsR ls l = false := by unfold prsR; rw [decide_eq_false h]; rfl
theorem prsR_no {ls : List Lab} {l : List Prr} {i : Nat} (hi : i < l.length) (h : prAt ls l i = false) : prsR ls l = false := by
  unfold prsR
  rw [show (List.range l.length).all (prAt ls l) = false from List.all_eq_false.2 ⟨i, List.mem_range.2 hi, by simp [h]⟩]; simp
theorem prsR_yes {ls : List Lab} {l : List Prr} (h4 : l.length ≤ 4) (h : ∀ i, i < l.length → prAt ls l i = true) : prsR ls l = true := by
  unfold prsR
  rw [decide_eq_true h4, show (List.range l.length).all (prAt ls l) = true from List.all_eq_true.2 fun i hi => h i (List.mem_range.1 hi)]; rfl
theorem prsR_all {ls : List Lab} {l : List Prr} (h : ∀ i, i < l.length → prAt ls l i = true) : prsR ls l = decide (l.length ≤ 4) := by
  by_cases h4 : l.length ≤ 4
  · rw [prsR_yes h4 h, decide_eq_true h4]
  · rw [prsR_len h4, decide_eq_false h4]
theorem prAt_eq {ls : List Lab} {l : List Prr} {i : Nat} (hi : i < l.length) : prAt ls l i = (!(l.take i).any (fun y => samePr l[i] y) && hasL ls l[i].a && hasL ls l[i].b && !blw l[i].a l[i].b && isIn l[i].rate 1 3) := by
  unfold prAt; simp [List.getD, hi]
theorem qusR_no {ls : List Lab} {l : List Quo} {i : Nat} (hi : i < l.length) (h : quAt ls l i = false) : qusR ls l = false := by
  unfold qusR; exact List.all_eq_false.2 ⟨i, List.mem_range.2 hi, by simp [h]⟩
theorem qusR_yes {ls : List Lab} {l : List Quo} (h : ∀ i, i < l.length → quAt ls l i = true) : qusR ls l = true := by
  unfold qusR; exact List.all_eq_true.2 fun i hi => h i (List.mem_range.1 hi)
theorem qusR_at {ls : List Lab} {l : List Quo} (h : qusR ls l = true) {i : Nat} (hi : i < l.length) : quAt ls l i = true := by
  unfold qusR at h; exact List.all_eq_true.1 h i (List.mem_range.2 hi)
theorem quAt_eq {ls : List Lab} {l : List Quo} {i : Nat} (hi : i < l.length) : quAt ls l i = (hasL ls l[i].l && isIn l[i].most 1 9 && (decide (i = 0) || decide (cmpL (l[i - 1]'(by omega)).l l[i].l < 0))) := by
  unfold quAt; simp [List.getD, hi, show i - 1 < l.length by omega]
/-- A list that rises, all of its members in another one: it is no longer. -/
theorem up_len : ∀ {l m : List Lab}, UpL l → (∀ x ∈ l, x ∈ m) → l.length ≤ m.length
  | [], _, _, _ => Nat.zero_le _
  | a :: l, m, h, hm => by
    obtain ⟨h1, h2⟩ := List.pairwise_cons.1 h
    have ha := hm a List.mem_cons_self
    have : l.length ≤ (m.filter (fun x => !sameL a x)).length := up_len h2 fun x hx => List.mem_filter.2 ⟨hm x (List.mem_cons_of_mem _ hx), by
      cases e : sameL a x
      · rfl
      · have h3 := h1 x hx
        rw [sameL_eq.1 e] at h3
        exact absurd h3 (cmpL_irrefl x)⟩
    have h5 : (m.filter (fun x => !sameL a x)).length < m.length := by
      rcases Nat.lt_or_ge (m.filter (fun x => !sameL a x)).length m.length with h6 | h6
      · exact h6
      · have h7 := List.length_filter_eq_length_iff.1 (Nat.le_antisymm (List.length_filter_le (fun x => !sameL a x) m) h6) a ha
        rw [sameL_refl] at h7; cases h7
    simp only [List.length_cons]
    omega
theorem qu_up {ls : List Lab} {l : List Quo} (h : ∀ i, i < l.length → quAt ls l i = true) : UpL (l.map Quo.l) ∧ ∀ x ∈ l.map Quo.l, x ∈ ls := by
  have hk : ∀ (d i : Nat) (hi : i < l.length) (hj : i + (d + 1) < l.length), cmpL l[i].l l[i + (d + 1)].l < 0 := by
    intro d
    induction d with
    | zero =>
      intro i hi hj
      have := h (i + 1) hj
      rw [quAt_eq hj] at this
      simp only [Bool.and_eq_true, Bool.or_eq_true, decide_eq_true_eq] at this
      rcases this.2 with h1 | h1
      · omega
      · simpa using h1
    | succ d ih =>
      intro i hi hj
      have h1 := ih i hi (by omega)
      have := h (i + (d + 1 + 1)) hj
      rw [quAt_eq hj] at this
      simp only [Bool.and_eq_true, Bool.or_eq_true, decide_eq_true_eq] at this
      rcases this.2 with h2 | h2
      · omega
      · have h3 : cmpL l[i + (d + 1)].l l[i + (d + 1 + 1)].l < 0 := by simpa using h2
        rw [cmpL_lt] at *; omega
  refine ⟨List.pairwise_iff_getElem.2 fun i j hi hj hij => ?_, fun x hx => ?_⟩
  · simp only [List.length_map] at hi hj
    simp only [List.getElem_map]
    have := hk (j - i - 1) i hi (by omega)
    simpa [show i + (j - i - 1 + 1) = j by omega] using this
  · obtain ⟨q, hq, rfl⟩ := List.mem_map.1 hx
    obtain ⟨i, hi, rfl⟩ := List.mem_iff_getElem.1 hq
    have := h i hi
    rw [quAt_eq hi] at this
    simp only [Bool.and_eq_true] at this
    exact hasL_mem.1 this.1.1
/-- Right quotas are no more than the labels. -/
theorem qusR_len {ls : List Lab} {l : List Quo} (h : ls.length < l.length) : qusR ls l = false := by
  cases e : qusR ls l
  · rfl
  · obtain ⟨h1, h2⟩ := qu_up (ls := ls) (l := l) fun i hi => qusR_at e hi
    have := up_len h1 h2
    rw [List.length_map] at this
    omega
theorem labsOf_labR {cl : List (List Lab)} {x : Lab} (h : x ∈ labsOf cl) : labR x = true := by
  unfold labsOf labsN at h
  obtain ⟨k, hk, rfl⟩ := List.mem_map.1 (List.mem_filter.1 h).1
  have := List.mem_range.1 hk
  unfold labR ordL
  rw [Bool.and_eq_true, isIn_iff, isIn_iff]
  simp only
  omega
end Go.Proofs.Ytkekfncgpbileaa
