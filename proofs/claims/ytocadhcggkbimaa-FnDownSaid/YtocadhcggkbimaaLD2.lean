/- impl.LetDown walked. -/
import Derived.Test.YtocadhcggkbimaaLD1
import Derived.Test.YtocadhcggkbimaaI6
import Derived.Test.YtocadhcggkbimaaI4
set_option maxRecDepth 100000
set_option linter.unusedVariables false
namespace Go
open Go.RowKit
def updB (L : Nat → Bool) (k : Nat) : Nat → Bool := fun j => if j = k then true else L j
def updV (vs : Nat → Value) (k : Nat) (v : Value) : Nat → Value := fun j => if j = k then v else vs j
open XReg in
/-- One operation of a region under an invariant. -/
theorem IReg.step {P : Program} {ops : Array Oper} {c : Array Nat} {I : (Nat → Bool) → (Nat → Value) → World → Prop} {tail rest : List Oper} {Q : Exit → Act → World → Prop} {vs : Nat → Value} {o : Oper} {a : Act} {n : Nat} (m : Nat) (hm : n + 1 = m)
    (h : ∀ L w, I L vs w → L n = false → (∀ j, j < n → anc c n j = true → L j = true) → wpList P ops (fun e b w' => e = .normal ∧ ∃ v, b = a.put o.dst v ∧ I (updB L n) (updV vs n v) w') [o] a w)
    (k : wpI P ops c I tail Q vs rest (a.put o.dst (vs n)) m) : wpI P ops c I tail Q vs (o :: rest) a n := by subst hm; exact ⟨h, k⟩
open XReg in
theorem IReg.done {P : Program} {ops : Array Oper} {c : Array Nat} {I : (Nat → Bool) → (Nat → Value) → World → Prop} {tail : List Oper} {Q : Exit → Act → World → Prop} {vs : Nat → Value} {a : Act} {n : Nat}
    (h : ∀ L w, (∀ j, j < n → L j = true) → I L vs w → wpList P ops Q tail a w) : wpI P ops c I tail Q vs [] a n := h
end Go
namespace Go.Proofs.Ytocadhcggkbimaa
open Go.RowKit Go.Fin1
theorem OwnD.far {B : Nat} {w w' : World} {S f1 f2 f3 : List Nat} {p b a : Value} {d : Dk} (h : OwnD B w f1 f2 f3 p b a d) (hx : Chg S w w') (hd : ∀ x ∈ f1 ++ f2 ++ f3, x ∉ S) : OwnD B w' f1 f2 f3 p b a d :=
  ⟨h.p.far oLetterS_local oLetterS_held hx (fun x hx => hd x (by simp [hx])), h.b.far oLetterS_local oLetterS_held hx (fun x hx => hd x (by simp [hx])), h.a.far oLetterS_local oLetterS_held hx (fun x hx => hd x (by simp [hx])), h.pb, h.pa, h.ba⟩
theorem OwnD.tys {B : Nat} {w : World} {f1 f2 f3 : List Nat} {p b a : Value} {d : Dk} (h : OwnD B w f1 f2 f3 p b a d) : ∀ x ∈ f1 ++ f2 ++ f3, ∃ cur, w.heap[x]? = some (.cells cur 75 (0, 0)) := fun x hx => by
  rcases List.mem_append.1 hx with hx | hx
  · rcases List.mem_append.1 hx with hx | hx
    · exact oFl_type h.p.1 x hx
    · exact oFl_type h.b.1 x hx
  · exact oFl_type h.a.1 x hx
@[irreducible] def zD5 : List Value := [.slice none 0 0, .slice none 0 0, .slice none 0 0, (.int .i64 0), (.int .i64 0)]
@[irreducible] def zL6 : List Value := [(.int .i64 0), (.int .i64 0), (.int .i64 0), (.int .i64 0), (.int .i64 0), (.int .i64 0)]
theorem zD5_eq : zD5.toArray = #[.slice none 0 0, .slice none 0 0, .slice none 0 0, (.int .i64 0), (.int .i64 0)] := by unfold zD5; rfl
theorem zL6_eq : zL6.toArray = #[(.int .i64 0), (.int .i64 0), (.int .i64 0), (.int .i64 0), (.int .i64 0), (.int .i64 0)] := by unfold zL6; rfl
def dk5 (d : Dk) (p b a : Value) : List Value := [p, b, a, (.int .i64 d.used), (.int .i64 d.now)]
/-- The copy and the letter of LetDown, under way. -/
structure LdM (B : Nat) (d : Dk) (L : Nat → Bool) (vs : Nat → Value) (w : World) (p b a : Value) (f1 f2 f3 : List Nat) (gD gL : Nat) : Prop where
  o : L 1 = true → vs 1 = d.val p b a ∧ OwnD B w f1 f2 f3 p b a d
  x : L 8 = true → vs 8 = .pointer (some ⟨gD, 0, none⟩) ∧ B ≤ gD ∧ w.heap[gD]? = some (.cells (if L 10 = true then dk5 d p b a else zD5).toArray 25 (0, 0))
  y : L 9 = true → vs 9 = .pointer (some ⟨gL, 0, none⟩) ∧ B ≤ gL ∧ w.heap[gL]? = some (.cells zL6.toArray 75 (0, 0))
  oy : L 1 = true → L 9 = true → gL ∉ f1 ++ f2 ++ f3
structure LdI (W0 : World) (S : List (Option Value)) (d : Dk) (L : Nat → Bool) (vs : Nat → Value) (w : World) : Prop where
  e : Ext W0 w
  s : ∀ k v, S[k]? = some (some v) → L k = true → vs k = v
  z : L 10 = true → L 1 = true ∧ L 8 = true
  m : ∃ p b a f1 f2 f3 gD gL, LdM W0.heap.size d L vs w p b a f1 f2 f3 gD gL
theorem LdI.start {W0 W : World} {S : List (Option Value)} {d : Dk} {vs : Nat → Value} (h : Ext W0 W) : LdI W0 S d (fun _ => false) vs W :=
  ⟨h, (fun _ _ _ hq => by cases hq), (fun hq => by cases hq), .slice none 0 0, .slice none 0 0, .slice none 0 0, [], [], [], 0, 0, ⟨(fun hq => by cases hq), (fun hq => by cases hq), (fun hq => by cases hq), (fun hq => by cases hq)⟩⟩
theorem LdI.put {W0 w : World} {S : List (Option Value)} {d : Dk} {L : Nat → Bool} {vs : Nat → Value} (h : LdI W0 S d L vs w) (k : Nat) (v : Value) (hs : ∀ u, S[k]? = some (some u) → u = v) : ∀ j u, S[j]? = some (some u) → updB L k j = true → updV vs k v j = u := fun j u hq hL => by
  unfold updB at hL
  unfold updV
  by_cases e : j = k
  · rw [if_pos e]; subst e; exact (hs u hq).symm
  · rw [if_neg e] at hL ⊢; exact h.s j u hq hL
theorem LdI.set {W0 w w' : World} {S : List (Option Value)} {d : Dk} {L : Nat → Bool} {vs : Nat → Value} (h : LdI W0 S d L vs w) (k : Nat) (v : Value) (hx : Ext w w') (hk : k ≠ 1 ∧ k ≠ 8 ∧ k ≠ 9 ∧ k ≠ 10) (hs : ∀ u, S[k]? = some (some u) → u = v) : LdI W0 S d (updB L k) (updV vs k (v)) w' := by
  obtain ⟨p, b, a, f1, f2, f3, gD, gL, hm⟩ := h.m
  have n1 : ¬ 1 = k := fun e => hk.1 e.symm
  have n8 : ¬ 8 = k := fun e => hk.2.1 e.symm
  have n9 : ¬ 9 = k := fun e => hk.2.2.1 e.symm
  have n10 : ¬ 10 = k := fun e => hk.2.2.2 e.symm
  refine ⟨h.e.trans hx, h.put k v hs, fun hq => ?_, p, b, a, f1, f2, f3, gD, gL, ⟨fun hq => ?_, fun hq => ?_, fun hq => ?_, fun hq hq2 => ?_⟩⟩
  · simp only [updB, if_neg n1, if_neg n8, if_neg n10] at hq ⊢; exact h.z hq
  · simp only [updB, updV, if_neg n1] at hq ⊢; exact ⟨(hm.o hq).1, (hm.o hq).2.ext hx⟩
  · simp only [updB, updV, if_neg n8, if_neg n10] at hq ⊢; exact ⟨(hm.x hq).1, (hm.x hq).2.1, heap_ext (hm.x hq).2.2 hx⟩
  · simp only [updB, updV, if_neg n9] at hq ⊢; exact ⟨(hm.y hq).1, (hm.y hq).2.1, heap_ext (hm.y hq).2.2 hx⟩
  · simp only [updB, if_neg n1, if_neg n9] at hq hq2; exact hm.oy hq hq2
theorem LdI.call {W0 w w' : World} {S : List (Option Value)} {d : Dk} {L : Nat → Bool} {vs : Nat → Value} {f1 f2 f3 : List Nat} {p b a : Value} (h : LdI W0 S d L vs w) (h1 : L 1 = false) (hx : Ext w w') (hO : OwnD w.heap.size w' f1 f2 f3 p b a d) (hs : S[1]? = some none) : LdI W0 S d (updB L 1) (updV vs 1 (d.val p b a)) w' := by
  obtain ⟨p0, b0, a0, g1, g2, g3, gD, gL, hm⟩ := h.m
  have h10 : L 10 = false := by
    cases e : L 10
    · rfl
    · rw [(h.z e).1] at h1; cases h1
  refine ⟨h.e.trans hx, h.put 1 _ (fun u hu => by rw [hs] at hu; cases hu), fun hq => ?_, p, b, a, f1, f2, f3, gD, gL, ⟨fun hq => ?_, fun hq => ?_, fun hq => ?_, fun hq hq2 => ?_⟩⟩
  · have e : (10 : Nat) ≠ 1 := by decide
    simp only [updB, if_neg e] at hq; rw [h10] at hq; cases hq
  · exact ⟨by simp [updV], hO.mono h.e.below.size⟩
  · have e : (10 : Nat) ≠ 1 := by decide
    have e8 : (8 : Nat) ≠ 1 := by decide
    simp only [updB, updV, if_neg e, if_neg e8] at hq ⊢
    obtain ⟨q1, q2, q3⟩ := hm.x hq
    rw [h10] at q3 ⊢
    exact ⟨q1, q2, heap_ext q3 hx⟩
  · have e : (9 : Nat) ≠ 1 := by decide
    simp only [updB, updV, if_neg e] at hq ⊢
    exact ⟨(hm.y hq).1, (hm.y hq).2.1, heap_ext (hm.y hq).2.2 hx⟩
  · have e : (9 : Nat) ≠ 1 := by decide
    simp only [updB, if_neg e] at hq2
    have h9 := (Array.getElem?_eq_some_iff.1 (hm.y hq2).2.2).1
    intro hb
    have := hO.low _ hb
    omega
theorem LdI.allocD {W0 w : World} {S : List (Option Value)} {d : Dk} {L : Nat → Bool} {vs : Nat → Value} (h : LdI W0 S d L vs w) (h8 : L 8 = false) (hs : S[8]? = some none) : LdI W0 S d (updB L 8) (updV vs 8 (.pointer (some ⟨w.heap.size, 0, none⟩))) (w.alloc (.cells zD5.toArray 25)) := by
  obtain ⟨p, b, a, f1, f2, f3, gD, gL, hm⟩ := h.m
  have h10 : L 10 = false := by
    cases e : L 10
    · rfl
    · rw [(h.z e).2] at h8; cases h8
  have hx : Ext w (w.alloc (.cells zD5.toArray 25)) := (Ext.refl _).alloc _
  have e1 : (1 : Nat) ≠ 8 := by decide
  have e9 : (9 : Nat) ≠ 8 := by decide
  have e10 : (10 : Nat) ≠ 8 := by decide
  refine ⟨h.e.trans hx, h.put 8 _ (fun u hu => by rw [hs] at hu; cases hu), fun hq => ?_, p, b, a, f1, f2, f3, w.heap.size, gL, ⟨fun hq => ?_, fun hq => ?_, fun hq => ?_, fun hq hq2 => ?_⟩⟩
  · simp only [updB, if_neg e10] at hq; rw [h10] at hq; cases hq
  · simp only [updB, updV, if_neg e1] at hq ⊢; exact ⟨(hm.o hq).1, (hm.o hq).2.ext hx⟩
  · simp only [updB, updV, if_neg e10, h10]
    exact ⟨by simp, h.e.below.size, heap_alloc_new w _⟩
  · simp only [updB, updV, if_neg e9] at hq ⊢; exact ⟨(hm.y hq).1, (hm.y hq).2.1, heap_ext (hm.y hq).2.2 hx⟩
  · simp only [updB, if_neg e1, if_neg e9] at hq hq2; exact hm.oy hq hq2
theorem LdI.allocL {W0 w : World} {S : List (Option Value)} {d : Dk} {L : Nat → Bool} {vs : Nat → Value} (h : LdI W0 S d L vs w) (hs : S[9]? = some none) : LdI W0 S d (updB L 9) (updV vs 9 (.pointer (some ⟨w.heap.size, 0, none⟩))) (w.alloc (.cells zL6.toArray 75)) := by
  obtain ⟨p, b, a, f1, f2, f3, gD, gL, hm⟩ := h.m
  have hx : Ext w (w.alloc (.cells zL6.toArray 75)) := (Ext.refl _).alloc _
  have e1 : (1 : Nat) ≠ 9 := by decide
  have e8 : (8 : Nat) ≠ 9 := by decide
  have e10 : (10 : Nat) ≠ 9 := by decide
  refine ⟨h.e.trans hx, h.put 9 _ (fun u hu => by rw [hs] at hu; cases hu), fun hq => ?_, p, b, a, f1, f2, f3, gD, w.heap.size, ⟨fun hq => ?_, fun hq => ?_, fun hq => ?_, fun hq hq2 => ?_⟩⟩
  · simp only [updB, if_neg e1, if_neg e8, if_neg e10] at hq ⊢; exact h.z hq
  · simp only [updB, updV, if_neg e1] at hq ⊢; exact ⟨(hm.o hq).1, (hm.o hq).2.ext hx⟩
  · simp only [updB, updV, if_neg e8, if_neg e10] at hq ⊢; exact ⟨(hm.x hq).1, (hm.x hq).2.1, heap_ext (hm.x hq).2.2 hx⟩
  · exact ⟨by simp [updV], h.e.below.size, heap_alloc_new w _⟩
  · simp only [updB, if_neg e1] at hq
    intro hb
    have := (hm.o hq).2.high _ hb
    omega
theorem LdI.get {W0 w : World} {S : List (Option Value)} {d : Dk} {L : Nat → Bool} {vs : Nat → Value} (h : LdI W0 S d L vs w) (h1 : L 1 = true) (h8 : L 8 = true) (h10 : L 10 = false) (hs : S[10]? = some none) : ∃ p b a gD, vs 1 = d.val p b a ∧ vs 8 = .pointer (some ⟨gD, 0, none⟩) ∧ w.heap[gD]? = some (.cells zD5.toArray 25 (0, 0)) ∧
    (∃ a1 c1 a2 c2 a3 c3, p = .slice a1 d.pairs.length c1 ∧ b = .slice a2 d.box.length c2 ∧ a = .slice a3 d.audit.length c3) ∧ ∀ v w', Chg [gD] w w' → w'.heap[gD]? = some (.cells (dk5 d p b a).toArray 25 (0, 0)) →  LdI W0 S d (updB L 10) (updV vs 10 (v)) w' := by
  obtain ⟨p, b, a, f1, f2, f3, gD, gL, hm⟩ := h.m
  obtain ⟨x1, x2, x3⟩ := hm.x h8
  obtain ⟨o1, o2⟩ := hm.o h1
  rw [h10] at x3
  have x3' : w.heap[gD]? = some (.cells zD5.toArray 25 (0, 0)) := x3
  obtain ⟨a1, c1, hp⟩ := o2.p.shape
  obtain ⟨a2, c2, hb⟩ := o2.b.shape
  obtain ⟨a3, c3, ha⟩ := o2.a.shape
  refine ⟨p, b, a, gD, o1, x1, x3', ⟨a1, c1, a2, c2, a3, c3, hp, hb, ha⟩, fun v w' hx hh => ?_⟩
  have e1 : (1 : Nat) ≠ 10 := by decide
  have e8 : (8 : Nat) ≠ 10 := by decide
  have e9 : (9 : Nat) ≠ 10 := by decide
  have hne : gD ∉ f1 ++ f2 ++ f3 := apart_of_type x3' (by decide) o2.tys
  refine ⟨hx.ext h.e (fun q hq => by rw [List.mem_singleton.1 hq]; exact x2), h.put 10 v (fun u hu => by rw [hs] at hu; cases hu), fun hq => ?_, p, b, a, f1, f2, f3, gD, gL, ⟨fun hq => ?_, fun hq => ?_, fun hq => ?_, fun hq hq2 => ?_⟩⟩
  · simp only [updB, if_neg e1, if_neg e8]; exact ⟨h1, h8⟩
  · simp only [updV, if_neg e1]
    exact ⟨o1, o2.far hx (fun q hq he => hne (by rw [← List.mem_singleton.1 he]; exact hq))⟩
  · simp only [updB, updV, if_neg e8]
    exact ⟨x1, x2, by simpa using hh⟩
  · simp only [updB, updV, if_neg e9] at hq ⊢
    obtain ⟨y1, y2, y3⟩ := hm.y hq
    refine ⟨y1, y2, heap_chg y3 hx (fun he => ?_)⟩
    rw [List.mem_singleton.1 he] at y3
    rw [x3'] at y3
    simp at y3
  · simp only [updB, if_neg e1, if_neg e9] at hq hq2; exact hm.oy hq hq2
/-- All is laid. -/
theorem LdI.all {W0 w : World} {S : List (Option Value)} {d : Dk} {L : Nat → Bool} {vs : Nat → Value} (h : LdI W0 S d L vs w) (hL : ∀ j, j < 11 → L j = true) : ∃ p b a f1 f2 f3 gD gL, vs 8 = .pointer (some ⟨gD, 0, none⟩) ∧ vs 9 = .pointer (some ⟨gL, 0, none⟩) ∧ Ext W0 w ∧ OwnD W0.heap.size w f1 f2 f3 p b a d ∧ W0.heap.size ≤ gD ∧ W0.heap.size ≤ gL ∧
    w.heap[gD]? = some (.cells (dk5 d p b a).toArray 25 (0, 0)) ∧ w.heap[gL]? = some (.cells zL6.toArray 75 (0, 0)) ∧ gD ∉ f1 ++ f2 ++ f3 ∧ gL ∉ f1 ++ f2 ++ f3 ∧ gD ≠ gL := by
  obtain ⟨p, b, a, f1, f2, f3, gD, gL, hm⟩ := h.m
  obtain ⟨x1, x2, x3⟩ := hm.x (hL 8 (by decide))
  obtain ⟨y1, y2, y3⟩ := hm.y (hL 9 (by decide))
  obtain ⟨o1, o2⟩ := hm.o (hL 1 (by decide))
  rw [hL 10 (by decide)] at x3
  have x3' : w.heap[gD]? = some (.cells (dk5 d p b a).toArray 25 (0, 0)) := x3
  refine ⟨p, b, a, f1, f2, f3, gD, gL, x1, y1, h.e, o2, x2, y2, x3', y3, apart_of_type x3' (by decide) o2.tys, hm.oy (hL 1 (by decide)) (hL 9 (by decide)), fun he => ?_⟩
  rw [← he, x3'] at y3
  simp at y3

/-- A list of letters that has grown by one, in memory of its own. -/
def kGrow (B C : Nat) (fb S : List Nat) (xs : List Ltr) (x : Nat × Nat) : XReg.Kind := fun v w => ∃ a c fp, v = .slice a xs.length c ∧ Own B w oLetterS fp [.slice a xs.length c] xs ∧ ∀ b ∈ fp, b ∉ S ∧ (b ∈ fb ∨ (C ≤ b ∧ x.1 ≤ b ∧ b < x.2))
theorem kGrow_good {B C : Nat} {fb S T U : List Nat} {xs : List Ltr} (hC : B ≤ C) (hS : ∀ b ∈ S, b < C) (hm : xs.length ≤ maxLen) : (XReg.ZOp.A (kGrow B C fb S xs) T U S).Good :=
  ⟨fun x v w w' hx ⟨a, c, fp, hv, h, hf⟩ => ⟨a, c, fp, hv, h.far oLetterS_local oLetterS_held hx (fun b hb => (hf b hb).1), hf⟩, by
    obtain ⟨a, c, w', fp, h⟩ := own_ltr_new (emptyH C) xs hm
    rw [emptyH_size] at h
    exact ⟨(0, w'.heap.size), _, w', a, c, fp, rfl, h.mono hC, fun b hb => ⟨fun hS' => by have := hS b hS'; have := h.2.2 b hb; omega, .inr ⟨h.2.2 b hb, Nat.zero_le _, oLetterS_held _ _ _ _ h.1 b hb⟩⟩⟩⟩
theorem kGrow_in {B C : Nat} {fb S : List Nat} {xs : List Ltr} {w w2 : World} {v : Value} {fp : List Nat} (h : Own B w2 oLetterS fp [v] xs) (hf : ∀ b ∈ fp, b ∈ fb ∨ b ∈ ([] : List Nat) ∨ b = w.heap.size) (hfb : ∀ b ∈ fb, b ∉ S) (hS : ∀ b ∈ S, b < C) (hC : C ≤ w.heap.size) : kGrow B C fb S xs (w.heap.size, w2.heap.size) v w2 := by
  obtain ⟨a, c, rfl⟩ := h.shape
  refine ⟨a, c, fp, rfl, h, fun b hb => ?_⟩
  have hlt := oLetterS_held _ _ _ _ h.1 b hb
  rcases hf b hb with h1 | h1 | h1
  · exact ⟨hfb b h1, .inl h1⟩
  · cases h1
  · exact ⟨fun h2 => by have := hS b h2; omega, .inr ⟨by omega, by simp; omega, hlt⟩⟩
theorem kGrow_out {B C : Nat} {fb S : List Nat} {xs : List Ltr} {x : Nat × Nat} {w : World} {v : Value} (h : kGrow B C fb S xs x v w) : ∃ fp, Own B w oLetterS fp [v] xs ∧ ∀ b ∈ fp, b ∈ fb ∨ (C ≤ b ∧ x.1 ≤ b ∧ b < x.2) := by
  obtain ⟨a, c, fp, rfl, h, hf⟩ := h; exact ⟨fp, h, fun b hb => (hf b hb).2⟩
theorem subL_l (a b : List Nat) : XReg.subL a (a ++ b) := fun _ h => List.mem_append_left _ h
theorem subL_r (a b : List Nat) : XReg.subL b (a ++ b) := fun _ h => List.mem_append_right _ h
theorem letX_cells (d : Dk) (a b : Lab) (q : Int) : Ltr.cells (letX d a b q) = [(.int .i64 a.lv), (.int .i64 a.st), (.int .i64 b.lv), (.int .i64 b.st), (.int .i64 d.now), (.int .i64 q)] := rfl
theorem letX_one (d : Dk) (a b : Lab) (q : Int) : ∀ u ∈ Ltr.cells (letX d a b q), u.oneCell' = true := fun u hu => by
  rw [letX_cells] at hu; simp at hu; rcases hu with rfl | rfl | rfl | rfl | rfl | rfl <;> rfl
theorem OwnD.let_ {B C : Nat} {w w3 : World} {f1 f2 f3 g2 g3 : List Nat} {p b a b' a' : Value} {d : Dk} {x : Ltr} {x4 x9 : Nat × Nat} {S : List Nat} (h : OwnD B w f1 f2 f3 p b a d) (hw : Chg S w w3) (hS : ∀ q ∈ S, q ∈ f2 ++ f3) (hC : w.heap.size ≤ C)
    (h2 : Own B w3 oLetterS g2 [b'] (d.box ++ [x])) (h3 : Own B w3 oLetterS g3 [a'] (d.audit ++ [x])) (k2 : ∀ q ∈ g2, q ∈ f2 ∨ (C ≤ q ∧ x4.1 ≤ q ∧ q < x4.2)) (k3 : ∀ q ∈ g3, q ∈ f3 ∨ (C ≤ q ∧ x9.1 ≤ q ∧ q < x9.2)) (hr : x4.2 ≤ x9.1 ∨ x9.2 ≤ x4.1) {used now : Int} : OwnD B w3 f1 g2 g3 p b' a' ⟨d.pairs, d.box ++ [x], d.audit ++ [x], used, now⟩ := by
  have hi := h.high
  refine ⟨h.p.far oLetterS_local oLetterS_held hw (fun q hq hq2 => ?_), h2, h3, fun q hq hq2 => ?_, fun q hq hq2 => ?_, fun q hq hq2 => ?_⟩
  · rcases List.mem_append.1 (hS q hq2) with e | e
    · exact h.pb q hq e
    · exact h.pa q hq e
  · rcases k2 q hq2 with e | e
    · exact h.pb q hq e
    · have := hi q (by simp [hq]); omega
  · rcases k3 q hq2 with e | e
    · exact h.pa q hq e
    · have := hi q (by simp [hq]); omega
  · rcases k2 q hq with e | e
    · rcases k3 q hq2 with e2 | e2
      · exact h.ba q e e2
      · have := hi q (by simp [e]); omega
    · rcases k3 q hq2 with e2 | e2
      · have := hi q (by simp [e2]); omega
      · omega

set_option maxHeartbeats 3200000 in
theorem implLetDown_any (d : Dk) (v : Value) (a b : Lab) (q : Int) (w : World) (h : eDesk w v d) (hf : d.sz ≤ 1048576) :
    Calls Try.prog 7 #[v, .agg #[(.int .i64 a.lv), (.int .i64 a.st)], .agg #[(.int .i64 b.lv), (.int .i64 b.st)], (.int .i64 q)] w fun e w' => ∃ p bx au f1 f2 f3, e = .returned (stV (letR d a b q).1 (letR d a b q).2 p bx au) ∧ Ext w w' ∧ OwnD w.heap.size w' f1 f2 f3 p bx au (letR d a b q).1 := by
  have HD := Lib.hid h
  obtain ⟨a1, c1, a2, c2, a3, c3, rfl, z1, z2, h1, h2, h3⟩ := h
  have H1 := Lib.hid h1
  clear h1 h2 h3 z1 z2
  unfold Dk.val at HD ⊢
  cases q1 : boxR d
  · rw [letR_form (by rw [q1]; rfl)]
    go_enter Try.func7, Try.ntmps7
    go_wp2_with (go_at_call 17; refine (implBoxRight_any d _ _ (HD.out.ext (by repeat (first | exact Ext.refl _ | apply Ext.plus | apply Ext.alloc | apply Ext.drew)))).mono ?_; rintro e _ ⟨rfl, X, rfl⟩)
    exact bodyPost_ret (v := .agg #[.slice none 0 0, .slice none 0 0, .slice none 0 0, (.int .i64 0), (.int .i64 0), (.int .i64 1)]) (by simp [results, Try.results7, go_sem]) rfl ⟨_, _, _, [], [], [], rfl, (by repeat' (first | (with_reducible exact Ext.refl _) | (with_reducible refine Ext.plus ?_ _) | (with_reducible refine Ext.alloc ?_ _) | (with_reducible refine Ext.setCell ?_ ?_ _) | (with_reducible refine Ext.drew ?_) | (with_reducible exact Nat.le_refl _) | (dsimp only; omega))), OwnD.zero _ _⟩
  cases q2 : isIn q 0 1000000
  · rw [letR_form (by rw [q1, q2]; rfl)]
    go_enter Try.func7, Try.ntmps7
    go_wp2_with (first | (go_at_call 17; refine (implBoxRight_any d _ _ (HD.out.ext (by repeat (first | exact Ext.refl _ | apply Ext.plus | apply Ext.alloc | apply Ext.drew)))).mono ?_; rintro e _ ⟨rfl, X, rfl⟩) | (go_at_call 44; refine (isWord_any _ _).mono ?_; rintro e _ ⟨rfl, rfl⟩))
    exact bodyPost_ret (v := .agg #[.slice none 0 0, .slice none 0 0, .slice none 0 0, (.int .i64 0), (.int .i64 0), (.int .i64 1)]) (by simp [results, Try.results7, go_sem]) rfl ⟨_, _, _, [], [], [], rfl, (by repeat' (first | (with_reducible exact Ext.refl _) | (with_reducible refine Ext.plus ?_ _) | (with_reducible refine Ext.alloc ?_ _) | (with_reducible refine Ext.setCell ?_ ?_ _) | (with_reducible refine Ext.drew ?_) | (with_reducible exact Nat.le_refl _) | (dsimp only; omega))), OwnD.zero _ _⟩
  have HQ := Lib.hid (show (boxR d && isIn q 0 1000000) = true by rw [q1, q2]; rfl)
  cases q3 : hasT d.pairs ⟨a, b, 0, 0⟩
  · rw [letR_lab HQ.out q3]
    go_enter Try.func7, Try.ntmps7
    go_wp2_with (first | (go_at_call 17; refine (implBoxRight_any d _ _ (HD.out.ext (by repeat (first | exact Ext.refl _ | apply Ext.plus | apply Ext.alloc | apply Ext.drew)))).mono ?_; rintro e _ ⟨rfl, X, rfl⟩) | (go_at_call 44; refine (isWord_any _ _).mono ?_; rintro e _ ⟨rfl, rfl⟩) | (go_at_call 45; refine (containsLtr_any _ d.pairs ⟨a, b, 0, 0⟩ _ (H1.out.ext rLtr_stable (by repeat (first | exact Ext.refl _ | apply Ext.plus | apply Ext.alloc | apply Ext.drew)))).mono ?_; rintro e _ ⟨rfl, Y, rfl⟩))
    exact bodyPost_ret (v := .agg #[.slice none 0 0, .slice none 0 0, .slice none 0 0, (.int .i64 0), (.int .i64 0), (.int .i64 11)]) (by simp [results, Try.results7, go_sem]) rfl ⟨_, _, _, [], [], [], rfl, (by repeat' (first | (with_reducible exact Ext.refl _) | (with_reducible refine Ext.plus ?_ _) | (with_reducible refine Ext.alloc ?_ _) | (with_reducible refine Ext.setCell ?_ ?_ _) | (with_reducible refine Ext.drew ?_) | (with_reducible exact Nat.le_refl _) | (dsimp only; omega))), OwnD.zero _ _⟩
  cases q4 : (d.used == 2)
  case true =>
    rw [letR_rate HQ.out q3 (by simpa using q4)]
    go_enter Try.func7, Try.ntmps7
    go_wp2_with (first | (go_at_call 17; refine (implBoxRight_any d _ _ (HD.out.ext (by repeat (first | exact Ext.refl _ | apply Ext.plus | apply Ext.alloc | apply Ext.drew)))).mono ?_; rintro e _ ⟨rfl, X, rfl⟩) | (go_at_call 44; refine (isWord_any _ _).mono ?_; rintro e _ ⟨rfl, rfl⟩) | (go_at_call 45; refine (containsLtr_any _ d.pairs ⟨a, b, 0, 0⟩ _ (H1.out.ext rLtr_stable (by repeat (first | exact Ext.refl _ | apply Ext.plus | apply Ext.alloc | apply Ext.drew)))).mono ?_; rintro e _ ⟨rfl, Y, rfl⟩))
    exact bodyPost_ret (v := .agg #[.slice none 0 0, .slice none 0 0, .slice none 0 0, (.int .i64 0), (.int .i64 0), (.int .i64 8)]) (by simp [results, Try.results7, go_sem]) rfl ⟨_, _, _, [], [], [], rfl, (by repeat' (first | (with_reducible exact Ext.refl _) | (with_reducible refine Ext.plus ?_ _) | (with_reducible refine Ext.alloc ?_ _) | (with_reducible refine Ext.setCell ?_ ?_ _) | (with_reducible refine Ext.drew ?_) | (with_reducible exact Nat.le_refl _) | (dsimp only; omega))), OwnD.zero _ _⟩
  have hbd := boxR_bd q1
  have hq4 : ¬ d.used = 2 := by simpa using q4
  cases q5 : ((d.box.length : Int) == 6)
  case true =>
    rw [letR_full HQ.out q3 hq4 (.inl (by simp at q5; omega))]
    clear hq4 hbd
    go_enter Try.func7, Try.ntmps7
    go_wp2_with (first | (go_at_call 17; refine (implBoxRight_any d _ _ (HD.out.ext (by repeat (first | exact Ext.refl _ | apply Ext.plus | apply Ext.alloc | apply Ext.drew)))).mono ?_; rintro e _ ⟨rfl, X, rfl⟩) | (go_at_call 44; refine (isWord_any _ _).mono ?_; rintro e _ ⟨rfl, rfl⟩) | (go_at_call 45; refine (containsLtr_any _ d.pairs ⟨a, b, 0, 0⟩ _ (H1.out.ext rLtr_stable (by repeat (first | exact Ext.refl _ | apply Ext.plus | apply Ext.alloc | apply Ext.drew)))).mono ?_; rintro e _ ⟨rfl, Y, rfl⟩))
    exact bodyPost_ret (v := .agg #[.slice none 0 0, .slice none 0 0, .slice none 0 0, (.int .i64 0), (.int .i64 0), (.int .i64 9)]) (by simp [results, Try.results7, go_sem]) rfl ⟨_, _, _, [], [], [], rfl, (by repeat' (first | (with_reducible exact Ext.refl _) | (with_reducible refine Ext.plus ?_ _) | (with_reducible refine Ext.alloc ?_ _) | (with_reducible refine Ext.setCell ?_ ?_ _) | (with_reducible refine Ext.drew ?_) | (with_reducible exact Nat.le_refl _) | (dsimp only; omega))), OwnD.zero _ _⟩
  cases q6 : ((d.audit.length : Int) == 20)
  case true =>
    rw [letR_full HQ.out q3 hq4 (.inr (by simp at q6; omega))]
    clear hq4 hbd
    go_enter Try.func7, Try.ntmps7
    go_wp2_with (first | (go_at_call 17; refine (implBoxRight_any d _ _ (HD.out.ext (by repeat (first | exact Ext.refl _ | apply Ext.plus | apply Ext.alloc | apply Ext.drew)))).mono ?_; rintro e _ ⟨rfl, X, rfl⟩) | (go_at_call 44; refine (isWord_any _ _).mono ?_; rintro e _ ⟨rfl, rfl⟩) | (go_at_call 45; refine (containsLtr_any _ d.pairs ⟨a, b, 0, 0⟩ _ (H1.out.ext rLtr_stable (by repeat (first | exact Ext.refl _ | apply Ext.plus | apply Ext.alloc | apply Ext.drew)))).mono ?_; rintro e _ ⟨rfl, Y, rfl⟩))
    exact bodyPost_ret (v := .agg #[.slice none 0 0, .slice none 0 0, .slice none 0 0, (.int .i64 0), (.int .i64 0), (.int .i64 9)]) (by simp [results, Try.results7, go_sem]) rfl ⟨_, _, _, [], [], [], rfl, (by repeat' (first | (with_reducible exact Ext.refl _) | (with_reducible refine Ext.plus ?_ _) | (with_reducible refine Ext.alloc ?_ _) | (with_reducible refine Ext.setCell ?_ ?_ _) | (with_reducible refine Ext.drew ?_) | (with_reducible exact Nat.le_refl _) | (dsimp only; omega))), OwnD.zero _ _⟩
  rw [letR_yes HQ.out q3 hq4 (by simp at q5 q6; omega)]
  have HBD := Lib.hid hbd
  clear hq4 hbd
  go_enter Try.func7, Try.ntmps7
  go_upto_region 9 with (first | (go_at_call 17; refine (implBoxRight_any d _ _ (HD.out.ext (by repeat (first | exact Ext.refl _ | apply Ext.plus | apply Ext.alloc | apply Ext.drew)))).mono ?_; rintro e _ ⟨rfl, X, rfl⟩) | (go_at_call 44; refine (isWord_any _ _).mono ?_; rintro e _ ⟨rfl, rfl⟩) | (go_at_call 45; refine (containsLtr_any _ d.pairs ⟨a, b, 0, 0⟩ _ (H1.out.ext rLtr_stable (by repeat (first | exact Ext.refl _ | apply Ext.plus | apply Ext.alloc | apply Ext.drew)))).mono ?_; rintro e _ ⟨rfl, Y, rfl⟩))
  clear q1 q2 q3 q4 q5 q6 HQ H1
  refine gen_world (fun W1 hW => ?_)
  have hE : Ext ((((w.alloc (.cells #[.slice a1 d.pairs.length c1, .slice a2 d.box.length c2, .slice a3 d.audit.length c3, (.int .i64 d.used), (.int .i64 d.now)] 25)).alloc (.cells #[(.int .i64 a.lv), (.int .i64 a.st)] 27)).alloc (.cells #[(.int .i64 b.lv), (.int .i64 b.st)] 27)).alloc (.cells #[.slice none 0 0, .slice none 0 0, .slice none 0 0, (.int .i64 0), (.int .i64 0), (.int .i64 0)] 31)) W1 := by rw [hW]; exact (by repeat (first | exact Ext.refl _ | apply Ext.plus | apply Ext.alloc | apply Ext.drew))
  clear hW
  obtain ⟨X1, rfl⟩ := hE
  refine wp_region_i 11 (LdI (((((w.alloc (.cells #[.slice a1 d.pairs.length c1, .slice a2 d.box.length c2, .slice a3 d.audit.length c3, (.int .i64 d.used), (.int .i64 d.now)] 25)).alloc (.cells #[(.int .i64 a.lv), (.int .i64 a.st)] 27)).alloc (.cells #[(.int .i64 b.lv), (.int .i64 b.st)] 27)).alloc (.cells #[.slice none 0 0, .slice none 0 0, .slice none 0 0, (.int .i64 0), (.int .i64 0), (.int .i64 0)] 31)).plus X1) [some (.agg #[.slice a1 d.pairs.length c1, .slice a2 d.box.length c2, .slice a3 d.audit.length c3, (.int .i64 d.used), (.int .i64 d.now)]), none, some (.agg #[(.int .i64 a.lv), (.int .i64 a.st)]), some (.agg #[(.int .i64 b.lv), (.int .i64 b.st)]), some (.pointer (some ⟨w.heap.size, 4, none⟩)), some (.int .i64 d.now), some (.int .i64 q), some (.agg #[(.int .i64 a.lv), (.int .i64 a.st), (.int .i64 b.lv), (.int .i64 b.st), (.int .i64 d.now), (.int .i64 q)]), none, none, none] d) (by kernel_rfl) (by kernel_rfl) (by kernel_rfl) (fun vs => ?_) (fun vs => LdI.start (Ext.refl _).drew)
  refine IReg.step 1 rfl (fun L w' hI hL hj => ?_) ?_
  · obtain ⟨X', hX'⟩ := hI.e
    skip
    have HI := Lib.hid hI
    clear hI hL hj
    subst hX'
    go_wp2
    exact HI.out.set 0 _ (by repeat (first | exact Ext.refl _ | apply Ext.plus | apply Ext.alloc | apply Ext.drew)) (by decide) (fun u hu => by simpa using hu.symm)
  refine IReg.step 2 rfl (fun L w' hI hL hj => ?_) ?_
  · obtain ⟨X', hX'⟩ := hI.e
    rw [hI.s 0 _ rfl (hj 0 (by decide) (by kernel_rfl))]
    have HI := Lib.hid hI
    have HL := Lib.hid hL
    clear hI hL hj
    subst hX'
    go_wp2_with fail
    refine (copyDesk_any d _ _ (HD.out.ext (by repeat (first | exact Ext.refl _ | apply Ext.plus | apply Ext.alloc | apply Ext.drew))) hf).mono ?_
    rintro e _ ⟨p, bx, au, f1, f2, f3, rfl, ⟨X3, rfl⟩, hO⟩
    have HO := Lib.hid hO
    clear hO
    go_wp2
    exact HI.out.call HL.out (by repeat (first | exact Ext.refl _ | apply Ext.plus | apply Ext.alloc | apply Ext.drew)) HO.out rfl
  refine IReg.step 3 rfl (fun L w' hI hL hj => ?_) ?_
  · obtain ⟨X', hX'⟩ := hI.e
    skip
    have HI := Lib.hid hI
    clear hI hL hj
    subst hX'
    go_wp2
    exact HI.out.set 2 _ (by repeat (first | exact Ext.refl _ | apply Ext.plus | apply Ext.alloc | apply Ext.drew)) (by decide) (fun u hu => by simpa using hu.symm)
  refine IReg.step 4 rfl (fun L w' hI hL hj => ?_) ?_
  · obtain ⟨X', hX'⟩ := hI.e
    skip
    have HI := Lib.hid hI
    clear hI hL hj
    subst hX'
    go_wp2
    exact HI.out.set 3 _ (by repeat (first | exact Ext.refl _ | apply Ext.plus | apply Ext.alloc | apply Ext.drew)) (by decide) (fun u hu => by simpa using hu.symm)
  refine IReg.step 5 rfl (fun L w' hI hL hj => ?_) ?_
  · obtain ⟨X', hX'⟩ := hI.e
    skip
    have HI := Lib.hid hI
    clear hI hL hj
    subst hX'
    go_wp2
    exact HI.out.set 4 _ (by repeat (first | exact Ext.refl _ | apply Ext.plus | apply Ext.alloc | apply Ext.drew)) (by decide) (fun u hu => by simpa using hu.symm)
  refine IReg.step 6 rfl (fun L w' hI hL hj => ?_) ?_
  · obtain ⟨X', hX'⟩ := hI.e
    rw [hI.s 4 _ rfl (hj 4 (by decide) (by kernel_rfl))]
    have HI := Lib.hid hI
    clear hI hL hj
    subst hX'
    go_wp2
    exact HI.out.set 5 _ (by repeat (first | exact Ext.refl _ | apply Ext.plus | apply Ext.alloc | apply Ext.drew)) (by decide) (fun u hu => by simpa using hu.symm)
  refine IReg.step 7 rfl (fun L w' hI hL hj => ?_) ?_
  · obtain ⟨X', hX'⟩ := hI.e
    skip
    have HI := Lib.hid hI
    clear hI hL hj
    subst hX'
    go_wp2
    exact HI.out.set 6 _ (by repeat (first | exact Ext.refl _ | apply Ext.plus | apply Ext.alloc | apply Ext.drew)) (by decide) (fun u hu => by simpa using hu.symm)
  refine IReg.step 8 rfl (fun L w' hI hL hj => ?_) ?_
  · obtain ⟨X', hX'⟩ := hI.e
    rw [hI.s 2 _ rfl (hj 2 (by decide) (by kernel_rfl)), hI.s 3 _ rfl (hj 3 (by decide) (by kernel_rfl)), hI.s 5 _ rfl (hj 5 (by decide) (by kernel_rfl)), hI.s 6 _ rfl (hj 6 (by decide) (by kernel_rfl))]
    have HI := Lib.hid hI
    clear hI hL hj
    subst hX'
    go_wp2
    exact HI.out.set 7 _ (by repeat (first | exact Ext.refl _ | apply Ext.plus | apply Ext.alloc | apply Ext.drew)) (by decide) (fun u hu => by simpa using hu.symm)
  refine IReg.step 9 rfl (fun L w' hI hL hj => ?_) ?_
  · have HI := Lib.hid (hI.allocD hL rfl)
    clear hI hL hj
    rw [zD5_eq] at HI
    go_wp2
    exact HI.out
  refine IReg.step 10 rfl (fun L w' hI hL hj => ?_) ?_
  · have HI := Lib.hid (hI.allocL rfl)
    clear hI hL hj
    rw [zL6_eq] at HI
    go_wp2
    exact HI.out
  refine IReg.step 11 rfl (fun L w' hI hL hj => ?_) ?_
  · obtain ⟨p, bx, au, gD, e1, e8, hh, ⟨y1, k1, y2, k2, y3, k3, rfl, rfl, rfl⟩, hk⟩ := hI.get (hj 1 (by decide) (by kernel_rfl)) (hj 8 (by decide) (by kernel_rfl)) hL rfl
    rw [e1, e8]
    rw [zD5_eq] at hh
    have hs : spl #[.slice none 0 0, .slice none 0 0, .slice none 0 0, (.int .i64 0), (.int .i64 0)] 0 [.slice y1 d.pairs.length k1, .slice y2 d.box.length k2, .slice y3 d.audit.length k3, (.int .i64 d.used), (.int .i64 d.now)] = (dk5 d (.slice y1 d.pairs.length k1) (.slice y2 d.box.length k2) (.slice y3 d.audit.length k3)).toArray := by kernel_rfl
    have hlh := layCells_heap [.slice y1 d.pairs.length k1, .slice y2 d.box.length k2, .slice y3 d.audit.length k3, (.int .i64 d.used), (.int .i64 d.now)] 0 hh
    rw [hs] at hlh
    have HZ := Lib.hid (fun u => hk u _ (layCells_chg _ _ _ _) hlh)
    clear hI hL hj hk e1 e8 hlh hs
    unfold Dk.val
    have r0 := (cell_of_heap hh 0).trans rfl
    have r1 := (cell_of_heap hh 1).trans rfl
    have r2 := (cell_of_heap hh 2).trans rfl
    have r3 := (cell_of_heap hh 3).trans rfl
    have r4 := (cell_of_heap hh 4).trans rfl
    have hfz := frozen_of_heap hh
    have hog := World.old_of_cell r0
    clear hh
    go_wp2
    exact ⟨undef, HZ.out undef⟩
  refine IReg.done (fun L w' hL hI => ?_)
  rw [hI.s 7 _ rfl (hL 7 (by decide))]
  obtain ⟨p, bx, au, f1, f2, f3, gD, gL, e8, e9, hE, hO, hBD, hBL, hD, hLt, hnD, hnL, hne⟩ := hI.all hL
  rw [e8, e9]
  obtain ⟨y1, k1, rfl⟩ := hO.p.shape
  obtain ⟨y2, k2, rfl⟩ := hO.b.shape
  obtain ⟨y3, k3, rfl⟩ := hO.a.shape
  rw [zL6_eq] at hLt
  have HE := Lib.hid hE
  have HO := Lib.hid hO
  have HLB := Lib.hid hBL
  have HDB := Lib.hid hBD
  have HDH := Lib.hid hD
  have HLH := Lib.hid hLt
  have HND := Lib.hid hnD
  have HNL := Lib.hid hnL
  have HNE := Lib.hid hne
  have r0 := (cell_of_heap hLt 0).trans rfl
  have r1 := (cell_of_heap hLt 1).trans rfl
  have r2 := (cell_of_heap hLt 2).trans rfl
  have r3 := (cell_of_heap hLt 3).trans rfl
  have r4 := (cell_of_heap hLt 4).trans rfl
  have r5 := (cell_of_heap hLt 5).trans rfl
  have hfz := frozen_of_heap hLt
  have hog := World.old_of_cell r0
  clear hI hL e8 e9 hE hO hBD hBL hD hLt hnD hnL hne HD
  go_upto_region 10 with fail
  refine gen_world (fun W2 hW2 => ?_)
  have hLay : W2 = w'.layCells gL 0 [(.int .i64 a.lv), (.int .i64 a.st), (.int .i64 b.lv), (.int .i64 b.st), (.int .i64 d.now), (.int .i64 q)] := hW2
  have hC2 : Chg [gL] w' W2 := by rw [hLay]; exact layCells_chg _ _ _ _
  have hs : spl #[(.int .i64 0), (.int .i64 0), (.int .i64 0), (.int .i64 0), (.int .i64 0), (.int .i64 0)] 0 [(.int .i64 a.lv), (.int .i64 a.st), (.int .i64 b.lv), (.int .i64 b.st), (.int .i64 d.now), (.int .i64 q)] = #[(.int .i64 a.lv), (.int .i64 a.st), (.int .i64 b.lv), (.int .i64 b.st), (.int .i64 d.now), (.int .i64 q)] := by kernel_rfl
  have hL2 := layCells_heap [(.int .i64 a.lv), (.int .i64 a.st), (.int .i64 b.lv), (.int .i64 b.st), (.int .i64 d.now), (.int .i64 q)] 0 HLH.out
  rw [hs, ← hLay] at hL2
  have hD2 := heap_chg HDH.out hC2 (by simp; exact HNE.out)
  have hO2 := HO.out.far hC2 (fun x hx he => HNL.out (by rw [← List.mem_singleton.1 he]; exact hx))
  have hE2 : Ext (((((w.alloc (.cells #[.slice a1 d.pairs.length c1, .slice a2 d.box.length c2, .slice a3 d.audit.length c3, (.int .i64 d.used), (.int .i64 d.now)] 25)).alloc (.cells #[(.int .i64 a.lv), (.int .i64 a.st)] 27)).alloc (.cells #[(.int .i64 b.lv), (.int .i64 b.st)] 27)).alloc (.cells #[.slice none 0 0, .slice none 0 0, .slice none 0 0, (.int .i64 0), (.int .i64 0), (.int .i64 0)] 31)).plus X1) W2 := hC2.ext HE.out (fun x hx => by rw [List.mem_singleton.1 hx]; exact HLB.out)
  have hE3 : Ext ((((w.alloc (.cells #[.slice a1 d.pairs.length c1, .slice a2 d.box.length c2, .slice a3 d.audit.length c3, (.int .i64 d.used), (.int .i64 d.now)] 25)).alloc (.cells #[(.int .i64 a.lv), (.int .i64 a.st)] 27)).alloc (.cells #[(.int .i64 b.lv), (.int .i64 b.st)] 27)).alloc (.cells #[.slice none 0 0, .slice none 0 0, .slice none 0 0, (.int .i64 0), (.int .i64 0), (.int .i64 0)] 31)) W2 := ((Ext.refl _).plus X1).trans hE2
  have hB : w.heap.size + 1 + 1 + 1 + 1 ≤ (((((w.alloc (.cells #[.slice a1 d.pairs.length c1, .slice a2 d.box.length c2, .slice a3 d.audit.length c3, (.int .i64 d.used), (.int .i64 d.now)] 25)).alloc (.cells #[(.int .i64 a.lv), (.int .i64 a.st)] 27)).alloc (.cells #[(.int .i64 b.lv), (.int .i64 b.st)] 27)).alloc (.cells #[.slice none 0 0, .slice none 0 0, .slice none 0 0, (.int .i64 0), (.int .i64 0), (.int .i64 0)] 31)).plus X1).heap.size := by simp
  have HB2 := Lib.hid hB
  have HE3 := Lib.hid hE3
  have HO2 := Lib.hid (hO2.mono hB)
  have HDB2 := Lib.hid (Nat.le_trans hB HDB.out)
  have HSZ : Hid (w.heap.size + 1 + 1 + 1 + 1 ≤ W2.heap.size) := Lib.hid (by have := hE3.below.size; simpa using this)
  clear hog hfz r0 r1 r2 r3 r4 r5
  have s0 : W2.cell? ⟨gD, 0, none⟩ = some (.slice y1 d.pairs.length k1) := (cell_of_heap hD2 0).trans rfl
  have s1 : W2.cell? ⟨gD, 1, none⟩ = some (.slice y2 d.box.length k2) := (cell_of_heap hD2 1).trans rfl
  have s2 : W2.cell? ⟨gD, 2, none⟩ = some (.slice y3 d.audit.length k3) := (cell_of_heap hD2 2).trans rfl
  have r0 : W2.cell? ⟨gL, 0, none⟩ = some (.int .i64 a.lv) := (cell_of_heap hL2 0).trans rfl
  have r1 : W2.cell? ⟨gL, 1, none⟩ = some (.int .i64 a.st) := (cell_of_heap hL2 1).trans rfl
  have r2 : W2.cell? ⟨gL, 2, none⟩ = some (.int .i64 b.lv) := (cell_of_heap hL2 2).trans rfl
  have r3 : W2.cell? ⟨gL, 3, none⟩ = some (.int .i64 b.st) := (cell_of_heap hL2 3).trans rfl
  have r4 : W2.cell? ⟨gL, 4, none⟩ = some (.int .i64 d.now) := (cell_of_heap hL2 4).trans rfl
  have r5 : W2.cell? ⟨gL, 5, none⟩ = some (.int .i64 q) := (cell_of_heap hL2 5).trans rfl
  have hSn : ∀ x ∈ blkL (.slice y2 d.box.length k2) ++ blkL (.slice y3 d.audit.length k3), x ∈ f2 ++ f3 := fun x hx => by
    rcases List.mem_append.1 hx with e | e
    · exact List.mem_append_left _ (hO2.b.blkL_in x e)
    · exact List.mem_append_right _ (hO2.a.blkL_in x e)
  have hSlt : ∀ x ∈ blkL (.slice y2 d.box.length k2) ++ blkL (.slice y3 d.audit.length k3), x < W2.heap.size := fun x hx => hO2.high x (by have := hSn x hx; simp at this; simp; rcases this with e | e <;> simp [e])
  have HSN := Lib.hid hSn
  have HSL := Lib.hid hSlt
  have HDS : Hid (gD ∉ blkL (.slice y2 d.box.length k2) ++ blkL (.slice y3 d.audit.length k3)) := Lib.hid (fun hx => HND.out (by have := hSn _ hx; simp at this; simp; rcases this with e | e <;> simp [e]))
  have HLS : Hid (gL ∉ blkL (.slice y2 d.box.length k2) ++ blkL (.slice y3 d.audit.length k3)) := Lib.hid (fun hx => HNL.out (by have := hSn _ hx; simp at this; simp; rcases this with e | e <;> simp [e]))
  have HD2 := Lib.hid hD2
  have HL2 := Lib.hid hL2
  clear hW2 hLay hC2 hs hL2 hD2 hO2 hE2 hE3 hB HO HE HLB HDB HDH HLH HND HNL HNE HB2 hSn hSlt
  clear w' L X1
  have hgx1 : (d.box ++ [letX d a b q]).length ≤ maxLen := by have := HBD.out; unfold maxLen; simp; omega
  have hgx2 : (d.audit ++ [letX d a b q]).length ≤ maxLen := by have := HBD.out; unfold maxLen; simp; omega
  generalize hS4 : blkL (.slice y2 d.box.length k2) = S4 at HSN HSL HDS HLS
  generalize hS9 : blkL (.slice y3 d.audit.length k3) = S9 at HSN HSL HDS HLS
  have HS4 := Lib.hid hS4
  have HS9 := Lib.hid hS9
  clear hS4 hS9
  have hkE : (XReg.ZOp.A (kElt 6 (oFlat Ltr.cells) W2.heap.size (letX d a b q)) [] (S4 ++ S9) (S4 ++ S9)).Good := kElt_good (oFlat_local _) (oFlat_held _) HSL.out (canO_flat (f := Ltr.cells) (fun _ => rfl) _)
  refine wp_region_z (S4 ++ S9) [.V (.pointer (some ⟨gD, 1, none⟩)), XReg.ZOp.A (fun _ u _ => u = (.slice y2 d.box.length k2)) [] (S4 ++ S9) (S4 ++ S9), XReg.ZOp.A (fun _ u _ => u = (.agg #[(.int .i64 a.lv), (.int .i64 a.st), (.int .i64 b.lv), (.int .i64 b.st), (.int .i64 d.now), (.int .i64 q)])) [] (S4 ++ S9) (S4 ++ S9), .A (kElt 6 (oFlat Ltr.cells) W2.heap.size (letX d a b q)) [] (S4 ++ S9) (S4 ++ S9), .A (kGrow (w.heap.size + 1 + 1 + 1 + 1) W2.heap.size f2 S9 (d.box ++ [letX d a b q])) S4 S9 S9, .V (.pointer (some ⟨gD, 2, none⟩)), XReg.ZOp.A (fun _ u _ => u = (.slice y3 d.audit.length k3)) [] (S4 ++ S9) (S4 ++ S9), XReg.ZOp.A (fun _ u _ => u = (.agg #[(.int .i64 a.lv), (.int .i64 a.st), (.int .i64 b.lv), (.int .i64 b.st), (.int .i64 d.now), (.int .i64 q)])) [] (S4 ++ S9) (S4 ++ S9), .A (kElt 6 (oFlat Ltr.cells) W2.heap.size (letX d a b q)) [] (S4 ++ S9) (S4 ++ S9), .A (kGrow (w.heap.size + 1 + 1 + 1 + 1) W2.heap.size f3 S4 (d.audit ++ [letX d a b q])) S9 S4 S4, .V (.pointer (some ⟨gD, 1, none⟩)), .T, .V (.pointer (some ⟨gD, 2, none⟩)), .T] [_, _] (by kernel_rfl) (by kernel_rfl) (by kernel_rfl) (by kernel_rfl) rfl ?_ ?_ ?_
  rotate_left
  · refine ⟨trivial, XReg.ZOp.good_is _ _ _ _, XReg.ZOp.good_is _ _ _ _, hkE, kGrow_good HSZ.out (fun x hx => HSL.out x (by simp [hx])) hgx1, trivial, XReg.ZOp.good_is _ _ _ _, XReg.ZOp.good_is _ _ _ _, hkE, kGrow_good HSZ.out (fun x hx => HSL.out x (by simp [hx])) hgx2, trivial, trivial, trivial, trivial, trivial⟩
  · repeat' (first | exact trivial | exact XReg.subL_nil _ | exact XReg.subL_refl _ | exact subL_l _ _ | exact subL_r _ _ | exact Or.inr (XReg.subL_nil _) | exact Or.inr (XReg.subL_refl _) | exact Or.inr (subL_l _ _) | exact Or.inr (subL_r _ _) | exact Or.inl (by kernel_rfl) | refine And.intro ?_ ?_)
  clear hgx1 hgx2 hkE
  (apply ZReg.val (.pointer (some ⟨gD, 1, none⟩)); (case h => (intro w'; go_wp2_with (fail); first | exact ⟨rfl, rfl⟩ | exact rfl)); (case hv => kernel_rfl))
  (apply ZReg.setU (.slice y2 d.box.length k2); (case h => (intro w' hw' hF'; (have t1 := cell_chg hw' s1 HDS.out; have hog := World.old_of_cell t1); clear hw' hF'; go_wp2; exact ⟨rfl, (by repeat (first | exact Ext.refl _ | apply Ext.plus | apply Ext.alloc | apply Ext.drew))⟩)); (case hv => kernel_rfl); intro _)
  (apply ZReg.setU (.agg #[(.int .i64 a.lv), (.int .i64 a.st), (.int .i64 b.lv), (.int .i64 b.st), (.int .i64 d.now), (.int .i64 q)]); (case h => (intro w' hw' hF'; (have t0 := cell_chg hw' r0 HLS.out; have t1 := cell_chg hw' r1 HLS.out; have t2 := cell_chg hw' r2 HLS.out; have t3 := cell_chg hw' r3 HLS.out; have t4 := cell_chg hw' r4 HLS.out; have t5 := cell_chg hw' r5 HLS.out; have hog := World.old_of_cell t0); clear hw' hF'; go_wp2; exact ⟨rfl, (by repeat (first | exact Ext.refl _ | apply Ext.plus | apply Ext.alloc | apply Ext.drew))⟩)); (case hv => kernel_rfl); intro _)
  refine ZReg.kind (fun w' hw' hF' => ?_) (fun v1 w1 x3 hK => ?_)
  · have HSW : Hid (W2.heap.size ≤ w'.heap.size) := Lib.hid hw'.size
    clear hF' hw'
    go_wp2
    exact ⟨Ext.chg (by repeat (first | exact Ext.refl _ | apply Ext.plus | apply Ext.alloc | apply Ext.drew)) _, kElt_in (oFlat_local _) (oFlat_held _) (fy := []) ⟨⟨rfl, rfl⟩, List.nodup_nil, fun _ h => by cases h⟩ rfl rfl HSW.out⟩
  obtain ⟨g3, cs3, fy3, rfl, q2⟩ := hK
  clear q2 w1 cs3 fy3
  refine ZReg.kind (fun w' hw' hF' => ?_) (fun v1 w1 x4 hK => ?_)
  · obtain ⟨cs9, fy9, hc9, hl9, hO9⟩ := kElt_out (x := x3) (hF'.get 3 (p := (kElt 6 (oFlat Ltr.cells) W2.heap.size (letX d a b q) x3, .slice (some ⟨g3, 0, none⟩) 1 1)) (by kernel_rfl) (by kernel_rfl))
    obtain ⟨⟨rfl, rfl⟩, _⟩ := id hO9
    have HC9 := Lib.hid hc9
    have HL9 := Lib.hid hl9
    have HO9 := Lib.hid (hO9.mono HSZ.out)
    have HRW := Lib.hid (HO2.out.b.far oLetterS_local oLetterS_held hw' (fun b hb hb2 => HO2.out.ba b hb (HO2.out.a.blkL_in b (by rw [HS9.out]; exact hb2))))
    have HSW : Hid (W2.heap.size ≤ w'.heap.size) := Lib.hid hw'.size
    clear hF' hw' hc9 hl9 hO9
    go_wp2_with (at_builtin; go_must (refine Own.app1 (oFlat_local _) (oFlat_held _) el_Letter rfl _ _ rfl (w.heap.size + 1 + 1 + 1 + 1) _ d.box f2 rfl HRW.out ⟨g3, 0, none⟩ 1 rfl (letX d a b q) [] (Ltr.cells (letX d a b q)) HO9.out rfl (fun _ _ h => by cases h) (Nat.le_trans HSZ.out HSW.out) HC9.out (letX_one d a b q) ?_ ?_ ?_); (have := HBD.out; unfold maxLen; omega); (have := HBD.out; omega); intro v' w2 fp' hO2 hC2 hS2; have HO2' := Lib.hid hO2; have HC2 := Lib.hid hC2; have HS2 := Lib.hid hS2; clear hO2 hC2 hS2)
    refine ⟨by rw [← HS4.out]; exact HC2.out, kGrow_in HO2'.out HS2.out ?_ (fun x hx => HSL.out x (by simp [hx])) HSW.out⟩
    exact (fun x hx hx2 => HO2.out.ba x hx (HO2.out.a.blkL_in x (by rw [HS9.out]; exact hx2)))
  obtain ⟨a4, k4, fp4, hv, q2⟩ := hK
  rw [show (d.box ++ [letX d a b q]).length = d.box.length + 1 by simp] at hv
  subst hv
  clear q2 w1 fp4
  (apply ZReg.val (.pointer (some ⟨gD, 2, none⟩)); (case h => (intro w'; go_wp2_with (fail); first | exact ⟨rfl, rfl⟩ | exact rfl)); (case hv => kernel_rfl))
  (apply ZReg.setU (.slice y3 d.audit.length k3); (case h => (intro w' hw' hF'; (have t1 := cell_chg hw' s2 HDS.out; have hog := World.old_of_cell t1); clear hw' hF'; go_wp2; exact ⟨rfl, (by repeat (first | exact Ext.refl _ | apply Ext.plus | apply Ext.alloc | apply Ext.drew))⟩)); (case hv => kernel_rfl); intro _)
  (apply ZReg.setU (.agg #[(.int .i64 a.lv), (.int .i64 a.st), (.int .i64 b.lv), (.int .i64 b.st), (.int .i64 d.now), (.int .i64 q)]); (case h => (intro w' hw' hF'; (have t0 := cell_chg hw' r0 HLS.out; have t1 := cell_chg hw' r1 HLS.out; have t2 := cell_chg hw' r2 HLS.out; have t3 := cell_chg hw' r3 HLS.out; have t4 := cell_chg hw' r4 HLS.out; have t5 := cell_chg hw' r5 HLS.out; have hog := World.old_of_cell t0); clear hw' hF'; go_wp2; exact ⟨rfl, (by repeat (first | exact Ext.refl _ | apply Ext.plus | apply Ext.alloc | apply Ext.drew))⟩)); (case hv => kernel_rfl); intro _)
  refine ZReg.kind (fun w' hw' hF' => ?_) (fun v1 w1 x8 hK => ?_)
  · have HSW : Hid (W2.heap.size ≤ w'.heap.size) := Lib.hid hw'.size
    clear hF' hw'
    go_wp2
    exact ⟨Ext.chg (by repeat (first | exact Ext.refl _ | apply Ext.plus | apply Ext.alloc | apply Ext.drew)) _, kElt_in (oFlat_local _) (oFlat_held _) (fy := []) ⟨⟨rfl, rfl⟩, List.nodup_nil, fun _ h => by cases h⟩ rfl rfl HSW.out⟩
  obtain ⟨g8, cs3, fy3, rfl, q2⟩ := hK
  clear q2 w1 cs3 fy3
  refine ZReg.kind (fun w' hw' hF' => ?_) (fun v1 w1 x9 hK => ?_)
  · obtain ⟨cs9, fy9, hc9, hl9, hO9⟩ := kElt_out (x := x8) (hF'.get 8 (p := (kElt 6 (oFlat Ltr.cells) W2.heap.size (letX d a b q) x8, .slice (some ⟨g8, 0, none⟩) 1 1)) (by kernel_rfl) (by kernel_rfl))
    obtain ⟨⟨rfl, rfl⟩, _⟩ := id hO9
    have HC9 := Lib.hid hc9
    have HL9 := Lib.hid hl9
    have HO9 := Lib.hid (hO9.mono HSZ.out)
    have HRW := Lib.hid (HO2.out.a.far oLetterS_local oLetterS_held hw' (fun b hb hb2 => HO2.out.ba b (HO2.out.b.blkL_in b (by rw [HS4.out]; exact hb2)) hb))
    have HSW : Hid (W2.heap.size ≤ w'.heap.size) := Lib.hid hw'.size
    clear hF' hw' hc9 hl9 hO9
    go_wp2_with (at_builtin; go_must (refine Own.app1 (oFlat_local _) (oFlat_held _) el_Letter rfl _ _ rfl (w.heap.size + 1 + 1 + 1 + 1) _ d.audit f3 rfl HRW.out ⟨g8, 0, none⟩ 1 rfl (letX d a b q) [] (Ltr.cells (letX d a b q)) HO9.out rfl (fun _ _ h => by cases h) (Nat.le_trans HSZ.out HSW.out) HC9.out (letX_one d a b q) ?_ ?_ ?_); (have := HBD.out; unfold maxLen; omega); (have := HBD.out; omega); intro v' w2 fp' hO2 hC2 hS2; have HO2' := Lib.hid hO2; have HC2 := Lib.hid hC2; have HS2 := Lib.hid hS2; clear hO2 hC2 hS2)
    refine ⟨by rw [← HS9.out]; exact HC2.out, kGrow_in HO2'.out HS2.out ?_ (fun x hx => HSL.out x (by simp [hx])) HSW.out⟩
    exact (fun x hx hx2 => HO2.out.ba x (HO2.out.b.blkL_in x (by rw [HS4.out]; exact hx2)) hx)
  obtain ⟨a9, k9, fp9, hv, q2⟩ := hK
  rw [show (d.audit ++ [letX d a b q]).length = d.audit.length + 1 by simp] at hv
  subst hv
  clear q2 w1 fp9
  (apply ZReg.val (.pointer (some ⟨gD, 1, none⟩)); (case h => (intro w'; go_wp2_with (fail); first | exact ⟨rfl, rfl⟩ | exact rfl)); (case hv => kernel_rfl))
  refine ZReg.T ?_
  (apply ZReg.val (.pointer (some ⟨gD, 2, none⟩)); (case h => (intro w'; go_wp2_with (fail); first | exact ⟨rfl, rfl⟩ | exact rfl)); (case hv => kernel_rfl))
  refine ZReg.T ?_
  refine ZReg.done (fun w3 hw3 hF hR => ?_)
  obtain ⟨g4, O4, B4⟩ := kGrow_out (hF 4 (kGrow (w.heap.size + 1 + 1 + 1 + 1) W2.heap.size f2 S9 (d.box ++ [letX d a b q]) x4, .slice a4 (d.box.length + 1) k4) (by kernel_rfl))
  obtain ⟨g9, O9, B9⟩ := kGrow_out (hF 9 (kGrow (w.heap.size + 1 + 1 + 1 + 1) W2.heap.size f3 S4 (d.audit ++ [letX d a b q]) x9, .slice a9 (d.audit.length + 1) k9) (by kernel_rfl))
  have HO3 := Lib.hid (HO2.out.let_ hw3 HSN.out (Nat.le_refl _) O4 O9 B4 B9 (hR 4 9 x4 x9 (by decide) (by kernel_rfl) (by kernel_rfl)) (used := d.used + 1) (now := d.now))
  have hD3 := heap_chg HD2.out hw3 HDS.out
  have HE4 := Lib.hid (hw3.ext HE3.out (fun x hx => by
    have h1 := HSN.out x hx
    have h2 := HO2.out.low x (by simp at h1; simp; rcases h1 with e | e <;> simp [e])
    simpa using h2))
  have HND3 : Hid (gD ∉ f1 ++ g4 ++ g9) := Lib.hid (apart_of_type hD3 (by decide) HO3.out.tys)
  have HD3 := Lib.hid hD3
  clear s0 s1 s2 r0 r1 r2 r3 r4 r5
  have s0 : w3.cell? ⟨gD, 0, none⟩ = some (.slice y1 d.pairs.length k1) := (cell_of_heap hD3 0).trans rfl
  have s1 : w3.cell? ⟨gD, 1, none⟩ = some (.slice y2 d.box.length k2) := (cell_of_heap hD3 1).trans rfl
  have s2 : w3.cell? ⟨gD, 2, none⟩ = some (.slice y3 d.audit.length k3) := (cell_of_heap hD3 2).trans rfl
  have hfz := frozen_of_heap hD3
  have hog := World.old_of_cell s0
  clear hF hR hw3 O4 O9 B4 B9 hD3 HSN HSL HDS HLS HS4 HS9 HD2 HL2 HE3 HO2
  refine ZReg.run ?_
  go_wp2
  refine ZReg.run ?_
  go_wp2
  refine ZReg.endG (fun W4 hW4 => ?_)
  have hD4 : W4.heap[gD]? = some (.cells #[.slice y1 d.pairs.length k1, .slice a4 (d.box.length + 1) k4, .slice a9 (d.audit.length + 1) k9, (.int .i64 d.used), (.int .i64 d.now)] 25 (0, 0)) := by
    rw [hW4]
    exact setCell_heap (setCell_heap HD3.out 1 _) 2 _
  have hC4 : Chg [gD] w3 W4 := by rw [hW4]; exact ((Chg.refl _ _).setCell (.inl (by simp)) _).setCell (.inl (by simp)) _
  clear hW4 s0 s1 s2 hfz hog HD3
  have s0 : W4.cell? ⟨gD, 0, none⟩ = some (.slice y1 d.pairs.length k1) := (cell_of_heap hD4 0).trans rfl
  have s1 : W4.cell? ⟨gD, 1, none⟩ = some (.slice a4 (d.box.length + 1) k4) := (cell_of_heap hD4 1).trans rfl
  have s2 : W4.cell? ⟨gD, 2, none⟩ = some (.slice a9 (d.audit.length + 1) k9) := (cell_of_heap hD4 2).trans rfl
  have s3 : W4.cell? ⟨gD, 3, none⟩ = some (.int .i64 d.used) := (cell_of_heap hD4 3).trans rfl
  have s4 : W4.cell? ⟨gD, 4, none⟩ = some (.int .i64 d.now) := (cell_of_heap hD4 4).trans rfl
  have hfz := frozen_of_heap hD4
  have hog := World.old_of_cell s0
  have HD4 := Lib.hid hD4
  have HC4 := Lib.hid hC4
  have hwu : wrap64 (d.used + 1) = d.used + 1 := by have := HBD.out; unfold wrap64; omega
  clear hD4 hC4
  go_upto_region 12 with fail
  refine gen_world (fun W5 hW5 => ?_)
  have hD5 : W5.heap[gD]? = some (.cells #[.slice y1 d.pairs.length k1, .slice a4 (d.box.length + 1) k4, .slice a9 (d.audit.length + 1) k9, (.int .i64 (d.used + 1)), (.int .i64 d.now)] 25 (0, 0)) := by
    rw [hW5]
    exact setCell_heap HD4.out 3 _
  have hC5 : Chg [gD] w3 W5 := by rw [hW5]; exact HC4.out.setCell (.inl (by simp)) _
  have hE5 : Ext ((((w.alloc (.cells #[.slice a1 d.pairs.length c1, .slice a2 d.box.length c2, .slice a3 d.audit.length c3, (.int .i64 d.used), (.int .i64 d.now)] 25)).alloc (.cells #[(.int .i64 a.lv), (.int .i64 a.st)] 27)).alloc (.cells #[(.int .i64 b.lv), (.int .i64 b.st)] 27)).alloc (.cells #[.slice none 0 0, .slice none 0 0, .slice none 0 0, (.int .i64 0), (.int .i64 0), (.int .i64 0)] 31)) W5 := hC5.ext HE4.out (fun x hx => by rw [List.mem_singleton.1 hx]; have := HDB2.out; simpa using this)
  have HO5 := Lib.hid (HO3.out.far hC5 (fun x hx he => HND3.out (by rw [← List.mem_singleton.1 he]; exact hx)))
  clear hW5 hC5 s0 s1 s2 s3 s4 hfz hog HD4 HC4 HO3 HND3 HE4 hwu
  have s0 : W5.cell? ⟨gD, 0, none⟩ = some (.slice y1 d.pairs.length k1) := (cell_of_heap hD5 0).trans rfl
  have s1 : W5.cell? ⟨gD, 1, none⟩ = some (.slice a4 (d.box.length + 1) k4) := (cell_of_heap hD5 1).trans rfl
  have s2 : W5.cell? ⟨gD, 2, none⟩ = some (.slice a9 (d.audit.length + 1) k9) := (cell_of_heap hD5 2).trans rfl
  have s3 : W5.cell? ⟨gD, 3, none⟩ = some (.int .i64 (d.used + 1)) := (cell_of_heap hD5 3).trans rfl
  have s4 : W5.cell? ⟨gD, 4, none⟩ = some (.int .i64 d.now) := (cell_of_heap hD5 4).trans rfl
  have hog := World.old_of_cell s0
  clear hD5
  obtain ⟨X5, rfl⟩ := hE5
  go_wp2
  refine bodyPost_ret (v := .agg #[.slice y1 d.pairs.length k1, .slice a4 (d.box.length + 1) k4, .slice a9 (d.audit.length + 1) k9, (.int .i64 (d.used + 1)), (.int .i64 d.now), (.int .i64 0)]) (by simp [results, Try.results7, go_sem]) rfl ⟨.slice y1 d.pairs.length k1, .slice a4 (d.box.length + 1) k4, .slice a9 (d.audit.length + 1) k9, f1, g4, g9, rfl, (by repeat' (first | (with_reducible exact Ext.refl _) | (with_reducible refine Ext.plus ?_ _) | (with_reducible refine Ext.alloc ?_ _) | (with_reducible refine Ext.setCell ?_ ?_ _) | (with_reducible refine Ext.drew ?_) | (with_reducible exact Nat.le_refl _) | (dsimp only; omega))), ?_⟩
  exact (HO5.out.swap (by simp) (by simp)).mono (by omega)
end Go.Proofs.Ytocadhcggkbimaa
