/- spec.LetDown walked. -/
import Derived.Test.YtocadhcggkbimaaLD2
set_option maxRecDepth 100000
set_option linter.unusedVariables false
namespace Go.Proofs.Ytocadhcggkbimaa
open Go.RowKit Go.Fin1
/-- One of the lists of a copy, under way. -/
structure CpT (B : Nat) (l : List Ltr) (l0 l3 : Bool) (v0 v3 : Value) (w : World) (T : List Nat) : Prop where
  e : l0 = true → ∃ g, v0 = .slice (some ⟨g, 0, none⟩) 0 0 ∧ g ∈ T ∧ Row B w 75 6 Ltr.cells v0 []
  o : l3 = true → ∃ f, (∀ b ∈ f, b ∈ T) ∧ Own B w oLetterS f [v3] l
  lt : ∀ b ∈ T, b < w.heap.size
theorem CpT.ext {B : Nat} {l : List Ltr} {l0 l3 : Bool} {v0 v3 : Value} {w w' : World} {T : List Nat} (h : CpT B l l0 l3 v0 v3 w T) (hx : Ext w w') : CpT B l l0 l3 v0 v3 w' T where
  e q := by obtain ⟨g, h1, h2, h3⟩ := h.e q; exact ⟨g, h1, h2, h3.ext hx⟩
  o q := by obtain ⟨f, h1, h2⟩ := h.o q; exact ⟨f, h1, h2.ext oLetterS_local oLetterS_held hx⟩
  lt b hb := Nat.lt_of_lt_of_le (h.lt b hb) hx.below.size
structure CpI (W0 : World) (S : List (Option Value)) (ls : Nat → List Ltr) (L : Nat → Bool) (vs : Nat → Value) (w : World) : Prop where
  e : Ext W0 w
  s : ∀ k v, S[k]? = some (some v) → L k = true → vs k = v
  m : ∃ T : Nat → List Nat, (∀ i, i < 3 → CpT W0.heap.size (ls i) (L (4 * i)) (L (4 * i + 3)) (vs (4 * i)) (vs (4 * i + 3)) w (T i)) ∧ ∀ i j, i < 3 → j < 3 → i ≠ j → ∀ b ∈ T i, b ∉ T j
theorem CpI.start {W0 W : World} {S : List (Option Value)} {ls : Nat → List Ltr} {vs : Nat → Value} (h : Ext W0 W) : CpI W0 S ls (fun _ => false) vs W :=
  ⟨h, (fun _ _ _ hq => by cases hq), fun _ => [], (fun i hi => ⟨(fun hq => by cases hq), (fun hq => by cases hq), (fun b hb => by cases hb)⟩), fun _ _ _ _ _ b hb => by cases hb⟩
theorem CpI.put {W0 w : World} {S : List (Option Value)} {ls : Nat → List Ltr} {L : Nat → Bool} {vs : Nat → Value} (h : CpI W0 S ls L vs w) (k : Nat) (v : Value) (hs : ∀ u, S[k]? = some (some u) → u = v) : ∀ j u, S[j]? = some (some u) → updB L k j = true → updV vs k v j = u := fun j u hq hL => by
  unfold updB at hL
  unfold updV
  by_cases e : j = k
  · rw [if_pos e]; subst e; exact (hs u hq).symm
  · rw [if_neg e] at hL ⊢; exact h.s j u hq hL
theorem CpI.set {W0 w w' : World} {S : List (Option Value)} {ls : Nat → List Ltr} {L : Nat → Bool} {vs : Nat → Value} (h : CpI W0 S ls L vs w) (k : Nat) (v : Value) (hx : Ext w w') (hk : ∀ i, i < 3 → 4 * i ≠ k ∧ 4 * i + 3 ≠ k) (hs : ∀ u, S[k]? = some (some u) → u = v) : CpI W0 S ls (updB L k) (updV vs k v) w' := by
  obtain ⟨T, h1, h2⟩ := h.m
  refine ⟨h.e.trans hx, h.put k v hs, T, fun i hi => ?_, h2⟩
  have := (h1 i hi).ext hx
  simp only [updB, updV, if_neg (hk i hi).1, if_neg (hk i hi).2]
  exact this
/-- One of the lists gets new territory. -/
theorem CpI.grow {W0 w w' : World} {S : List (Option Value)} {ls : Nat → List Ltr} {L : Nat → Bool} {vs : Nat → Value} (h : CpI W0 S ls L vs w) (i k : Nat) (hi : i < 3) (v : Value) (hx : Ext w w') (hk : k = 4 * i ∨ k = 4 * i + 3) (hs : S[k]? = some none)
    (ht : ∀ T, CpT W0.heap.size (ls i) (L (4 * i)) (L (4 * i + 3)) (vs (4 * i)) (vs (4 * i + 3)) w T → ∃ N, (∀ b ∈ N, w.heap.size ≤ b) ∧ CpT W0.heap.size (ls i) (updB L k (4 * i)) (updB L k (4 * i + 3)) (updV vs k v (4 * i)) (updV vs k v (4 * i + 3)) w' (N ++ T)) : CpI W0 S ls (updB L k) (updV vs k v) w' := by
  obtain ⟨T, h1, h2⟩ := h.m
  obtain ⟨N, hN, hT⟩ := ht (T i) (h1 i hi)
  have hlt : ∀ j, j < 3 → ∀ b ∈ T j, b < w.heap.size := fun j hj => (h1 j hj).lt
  refine ⟨h.e.trans hx, h.put k v (fun u hu => by rw [hs] at hu; cases hu), fun j => if j = i then N ++ T i else T j, fun j hj => ?_, fun p q hp hq hpq b hb hb2 => ?_⟩
  · by_cases e : j = i
    · subst e; simp only [if_true]; exact hT
    · have e1 : 4 * j ≠ k := by omega
      have e2 : 4 * j + 3 ≠ k := by omega
      have := (h1 j hj).ext hx
      simp only [if_neg e, updB, updV, if_neg e1, if_neg e2]
      exact this
  · by_cases ep : p = i
    · have eq : q ≠ i := by omega
      simp only [if_pos ep] at hb
      simp only [if_neg eq] at hb2
      rcases List.mem_append.1 hb with e | e
      · have := hN b e; have := hlt q hq b hb2; omega
      · exact h2 i q hi hq (fun e => eq e.symm) b e hb2
    · simp only [if_neg ep] at hb
      by_cases eq : q = i
      · simp only [if_pos eq] at hb2
        rcases List.mem_append.1 hb2 with e | e
        · have := hN b e; have := hlt p hp b hb; omega
        · exact h2 p i hp hi ep b hb e
      · simp only [if_neg eq] at hb2
        exact h2 p q hp hq hpq b hb hb2
theorem CpI.emp {W0 w : World} {S : List (Option Value)} {ls : Nat → List Ltr} {L : Nat → Bool} {vs : Nat → Value} (h : CpI W0 S ls L vs w) (i : Nat) (hi : i < 3) (hs : S[4 * i]? = some none) : CpI W0 S ls (updB L (4 * i)) (updV vs (4 * i) (.slice (some ⟨w.heap.size, 0, none⟩) 0 0)) (w.alloc (.cells #[] 75)) := by
  have hx : Ext w (w.alloc (.cells #[] 75)) := (Ext.refl _).alloc _
  have e3 : 4 * i + 3 ≠ 4 * i := by omega
  refine h.grow i (4 * i) hi _ hx (.inl rfl) hs fun T hT => ⟨[w.heap.size], by simp, ⟨fun _ => ?_, fun hq => ?_, fun b hb => ?_⟩⟩
  · simp only [updV, if_true]
    exact ⟨w.heap.size, rfl, by simp, (Row.made w _ _ _).mono h.e.below.size⟩
  · simp only [updB, updV, if_neg e3] at hq ⊢
    obtain ⟨f, h1, h2⟩ := hT.o hq
    exact ⟨f, fun b hb => List.mem_append_right _ (h1 b hb), h2.ext oLetterS_local oLetterS_held hx⟩
  · rcases List.mem_append.1 hb with e | e
    · rw [List.mem_singleton.1 e]; simp
    · have := hT.lt b e; simp; omega
theorem CpI.app {W0 w w' : World} {S : List (Option Value)} {ls : Nat → List Ltr} {L : Nat → Bool} {vs : Nat → Value} (h : CpI W0 S ls L vs w) (i : Nat) (hi : i < 3) (hs : S[4 * i + 3]? = some none) (h0 : L (4 * i) = true) (v : Value)
    (hr : (ls i = [] ∧ v = vs (4 * i) ∧ w' = w) ∨ (Ext w w' ∧ Row w.heap.size w' 75 6 Ltr.cells v (ls i))) : CpI W0 S ls (updB L (4 * i + 3)) (updV vs (4 * i + 3) v) w' := by
  have hx : Ext w w' := by
    rcases hr with ⟨_, _, rfl⟩ | ⟨h, _⟩
    · exact Ext.refl _
    · exact h
  have e3 : 4 * i ≠ 4 * i + 3 := by omega
  refine h.grow i (4 * i + 3) hi v hx (.inr rfl) hs fun T hT => ?_
  rcases hr with ⟨hl, rfl, rfl⟩ | ⟨_, hR⟩
  · refine ⟨[], by simp, ⟨fun hq => ?_, fun _ => ?_, hT.lt⟩⟩
    · simp only [updB, updV, if_neg e3] at hq ⊢; exact hT.e hq
    · simp only [updV, if_true]
      obtain ⟨g, h1, h2, h3⟩ := hT.e h0
      obtain ⟨f, hO⟩ := Row.own (f := Ltr.cells) (K := 6) (fun _ => rfl) h3
      rw [hl]
      refine ⟨f, fun b hb => ?_, hO⟩
      obtain ⟨v', hv, h4⟩ := hO.1
      rcases h4 with ⟨_, _, rfl⟩ | ⟨g', cap', cur, fps, hv', _, _, hl', _, hf, rfl, hh⟩
      · cases hb
      · have hfl : fps = [] := by cases fps with
          | nil => rfl
          | cons a b => simp at hf
        subst hfl
        simp at hb
        rw [h1] at hv
        simp at hv
        rw [hv'] at hv
        simp at hv
        rw [hb, ← hv.1]; simpa using h2
  · obtain ⟨f, hO⟩ := Row.own (f := Ltr.cells) (K := 6) (fun _ => rfl) hR
    refine ⟨f, hO.2.2, ⟨fun hq => ?_, fun _ => ?_, fun b hb => ?_⟩⟩
    · simp only [updB, updV, if_neg e3] at hq ⊢
      obtain ⟨g, h1, h2, h3⟩ := hT.e hq
      exact ⟨g, h1, List.mem_append_right _ h2, h3.ext hx⟩
    · simp only [updV, if_true]
      exact ⟨f, fun b hb => List.mem_append_left _ hb, hO.mono h.e.below.size⟩
    · rcases List.mem_append.1 hb with e | e
      · exact oLetterS_held _ _ _ _ hO.1 b e
      · exact Nat.lt_of_lt_of_le (hT.lt b e) hx.below.size
def dkL (d : Dk) : Nat → List Ltr
  | 0 => d.pairs
  | 1 => d.box
  | _ => d.audit
theorem CpI.all {W0 w : World} {S : List (Option Value)} {d : Dk} {L : Nat → Bool} {vs : Nat → Value} (h : CpI W0 S (dkL d) L vs w) (hL : ∀ j, j < 16 → L j = true) : ∃ f1 f2 f3, OwnD W0.heap.size w f1 f2 f3 (vs 3) (vs 7) (vs 11) d := by
  obtain ⟨T, h1, h2⟩ := h.m
  obtain ⟨f1, k1, o1⟩ := (h1 0 (by decide)).o (hL 3 (by decide))
  obtain ⟨f2, k2, o2⟩ := (h1 1 (by decide)).o (hL 7 (by decide))
  obtain ⟨f3, k3, o3⟩ := (h1 2 (by decide)).o (hL 11 (by decide))
  exact ⟨f1, f2, f3, o1, o2, o3, fun b hb hb2 => h2 0 1 (by decide) (by decide) (by decide) b (k1 b hb) (k2 b hb2), fun b hb hb2 => h2 0 2 (by decide) (by decide) (by decide) b (k1 b hb) (k3 b hb2), fun b hb hb2 => h2 1 2 (by decide) (by decide) (by decide) b (k2 b hb) (k3 b hb2)⟩

set_option maxHeartbeats 3200000 in
theorem l06Copy_own (d : Dk) (v : Value) (w : World) (h : eDesk w v d) (hf : d.sz ≤ 1048576) :
    Calls Try.prog 49 #[v] w fun e w' => ∃ p b a f1 f2 f3, e = .returned (d.val p b a) ∧ Ext w w' ∧ OwnD w.heap.size w' f1 f2 f3 p b a d := by
  obtain ⟨a1, c1, a2, c2, a3, c3, rfl, z1, z2, h1, h2, h3⟩ := h
  have H1 := Lib.hid h1
  have H2 := Lib.hid h2
  have H3 := Lib.hid h3
  clear h1 h2 h3 z1 z2
  unfold Dk.val
  go_enter Try.func49, Try.ntmps49
  go_upto_region 1 with fail
  refine wp_region_i 16 (CpI ((w.alloc (.cells #[.slice a1 d.pairs.length c1, .slice a2 d.box.length c2, .slice a3 d.audit.length c3, (.int .i64 d.used), (.int .i64 d.now)] 25)).alloc (.cells #[.slice none 0 0, .slice none 0 0, .slice none 0 0, (.int .i64 0), (.int .i64 0)] 25)) [none, some (.pointer (some ⟨w.heap.size, 0, none⟩)), some (.slice a1 d.pairs.length c1), none, none, some (.pointer (some ⟨w.heap.size, 1, none⟩)), some (.slice a2 d.box.length c2), none, none, some (.pointer (some ⟨w.heap.size, 2, none⟩)), some (.slice a3 d.audit.length c3), none, some (.pointer (some ⟨w.heap.size, 3, none⟩)), some (.int .i64 d.used), some (.pointer (some ⟨w.heap.size, 4, none⟩)), some (.int .i64 d.now)] (dkL d)) (by kernel_rfl) (by kernel_rfl) (by kernel_rfl) (fun vs => ?_) (fun vs => CpI.start (Ext.refl _).drew)
  refine IReg.step 1 rfl (fun L w' hI hL hj => ?_) ?_
  · have HI := Lib.hid (hI.emp 0 (by decide) rfl)
    clear hI hL hj
    go_wp2
    exact HI.out
  refine IReg.step 2 rfl (fun L w' hI hL hj => ?_) ?_
  · obtain ⟨X', hX'⟩ := hI.e
    skip
    have HI := Lib.hid hI
    clear hI hL hj
    subst hX'
    go_wp2
    exact HI.out.set 1 _ (by repeat (first | exact Ext.refl _ | apply Ext.plus | apply Ext.alloc | apply Ext.drew)) (by decide) (fun u hu => by simpa using hu.symm)
  refine IReg.step 3 rfl (fun L w' hI hL hj => ?_) ?_
  · obtain ⟨X', hX'⟩ := hI.e
    rw [hI.s 1 _ rfl (hj 1 (by decide) (by kernel_rfl))]
    have HI := Lib.hid hI
    clear hI hL hj
    subst hX'
    go_wp2
    exact HI.out.set 2 _ (by repeat (first | exact Ext.refl _ | apply Ext.plus | apply Ext.alloc | apply Ext.drew)) (by decide) (fun u hu => by simpa using hu.symm)
  refine IReg.step 4 rfl (fun L w' hI hL hj => ?_) ?_
  · have h0 := hj 0 (by decide) (by kernel_rfl)
    rw [hI.s 2 _ rfl (hj 2 (by decide) (by kernel_rfl))]
    obtain ⟨T, hT, _⟩ := hI.m
    obtain ⟨g1, e0, _, hE⟩ := (hT 0 (by decide)).e h0
    have e0' : vs 0 = .slice (some ⟨g1, 0, none⟩) 0 0 := e0
    have hE' : Row _ w' 75 6 Ltr.cells (vs 0) [] := hE
    rw [e0'] at hE'
    rw [e0']
    have HE := Lib.hid hE'
    have HI := Lib.hid hI
    have H0 := Lib.hid h0
    have HV := Lib.hid e0'
    have HX := Lib.hid hI.e
    clear hI hL hj hT e0 e0' hE hE' h0
    unfold Dk.sz at hf
    refine Row.appE (f := Ltr.cells) el_Letter rfl _ _ rfl g1 (by kernel_rfl) _ d.pairs (by kernel_rfl) (fun _ => rfl) (rLtr_rc (H1.out.ext rLtr_stable (show Ext w w' from ((Ext.refl w).alloc _ |>.alloc _).trans HX.out))) ?_ ?_ ?_ (HE.out.mono (Nat.zero_le _)) ?_ ?_
    · intro x u hu
      simp [Ltr.cells] at hu
      rcases hu with rfl | rfl | rfl | rfl | rfl | rfl <;> rfl
    · unfold maxLen; omega
    · omega
    · intro hnil
      have H9 := Lib.hid (HI.out.app 0 (by decide) rfl H0.out (.slice (some ⟨g1, 0, none⟩) 0 0) (w' := w') (.inl ⟨hnil, HV.out.symm, rfl⟩))
      clear hnil
      go_wp2
      exact H9.out
    · intro v' Y' hR
      have H9 := Lib.hid (HI.out.app 0 (by decide) rfl H0.out v' (.inr ⟨(Ext.refl _).plus Y', hR⟩))
      clear hR
      go_wp2
      exact H9.out
  refine IReg.step 5 rfl (fun L w' hI hL hj => ?_) ?_
  · have HI := Lib.hid (hI.emp 1 (by decide) rfl)
    clear hI hL hj
    go_wp2
    exact HI.out
  refine IReg.step 6 rfl (fun L w' hI hL hj => ?_) ?_
  · obtain ⟨X', hX'⟩ := hI.e
    skip
    have HI := Lib.hid hI
    clear hI hL hj
    subst hX'
    go_wp2
    exact HI.out.set 5 _ (by repeat (first | exact Ext.refl _ | apply Ext.plus | apply Ext.alloc | apply Ext.drew)) (by decide) (fun u hu => by simpa using hu.symm)
  refine IReg.step 7 rfl (fun L w' hI hL hj => ?_) ?_
  · obtain ⟨X', hX'⟩ := hI.e
    rw [hI.s 5 _ rfl (hj 5 (by decide) (by kernel_rfl))]
    have HI := Lib.hid hI
    clear hI hL hj
    subst hX'
    go_wp2
    exact HI.out.set 6 _ (by repeat (first | exact Ext.refl _ | apply Ext.plus | apply Ext.alloc | apply Ext.drew)) (by decide) (fun u hu => by simpa using hu.symm)
  refine IReg.step 8 rfl (fun L w' hI hL hj => ?_) ?_
  · have h0 := hj 4 (by decide) (by kernel_rfl)
    rw [hI.s 6 _ rfl (hj 6 (by decide) (by kernel_rfl))]
    obtain ⟨T, hT, _⟩ := hI.m
    obtain ⟨g1, e0, _, hE⟩ := (hT 1 (by decide)).e h0
    have e0' : vs 4 = .slice (some ⟨g1, 0, none⟩) 0 0 := e0
    have hE' : Row _ w' 75 6 Ltr.cells (vs 4) [] := hE
    rw [e0'] at hE'
    rw [e0']
    have HE := Lib.hid hE'
    have HI := Lib.hid hI
    have H0 := Lib.hid h0
    have HV := Lib.hid e0'
    have HX := Lib.hid hI.e
    clear hI hL hj hT e0 e0' hE hE' h0
    unfold Dk.sz at hf
    refine Row.appE (f := Ltr.cells) el_Letter rfl _ _ rfl g1 (by kernel_rfl) _ d.box (by kernel_rfl) (fun _ => rfl) (rLtr_rc (H2.out.ext rLtr_stable (show Ext w w' from ((Ext.refl w).alloc _ |>.alloc _).trans HX.out))) ?_ ?_ ?_ (HE.out.mono (Nat.zero_le _)) ?_ ?_
    · intro x u hu
      simp [Ltr.cells] at hu
      rcases hu with rfl | rfl | rfl | rfl | rfl | rfl <;> rfl
    · unfold maxLen; omega
    · omega
    · intro hnil
      have H9 := Lib.hid (HI.out.app 1 (by decide) rfl H0.out (.slice (some ⟨g1, 0, none⟩) 0 0) (w' := w') (.inl ⟨hnil, HV.out.symm, rfl⟩))
      clear hnil
      go_wp2
      exact H9.out
    · intro v' Y' hR
      have H9 := Lib.hid (HI.out.app 1 (by decide) rfl H0.out v' (.inr ⟨(Ext.refl _).plus Y', hR⟩))
      clear hR
      go_wp2
      exact H9.out
  refine IReg.step 9 rfl (fun L w' hI hL hj => ?_) ?_
  · have HI := Lib.hid (hI.emp 2 (by decide) rfl)
    clear hI hL hj
    go_wp2
    exact HI.out
  refine IReg.step 10 rfl (fun L w' hI hL hj => ?_) ?_
  · obtain ⟨X', hX'⟩ := hI.e
    skip
    have HI := Lib.hid hI
    clear hI hL hj
    subst hX'
    go_wp2
    exact HI.out.set 9 _ (by repeat (first | exact Ext.refl _ | apply Ext.plus | apply Ext.alloc | apply Ext.drew)) (by decide) (fun u hu => by simpa using hu.symm)
  refine IReg.step 11 rfl (fun L w' hI hL hj => ?_) ?_
  · obtain ⟨X', hX'⟩ := hI.e
    rw [hI.s 9 _ rfl (hj 9 (by decide) (by kernel_rfl))]
    have HI := Lib.hid hI
    clear hI hL hj
    subst hX'
    go_wp2
    exact HI.out.set 10 _ (by repeat (first | exact Ext.refl _ | apply Ext.plus | apply Ext.alloc | apply Ext.drew)) (by decide) (fun u hu => by simpa using hu.symm)
  refine IReg.step 12 rfl (fun L w' hI hL hj => ?_) ?_
  · have h0 := hj 8 (by decide) (by kernel_rfl)
    rw [hI.s 10 _ rfl (hj 10 (by decide) (by kernel_rfl))]
    obtain ⟨T, hT, _⟩ := hI.m
    obtain ⟨g1, e0, _, hE⟩ := (hT 2 (by decide)).e h0
    have e0' : vs 8 = .slice (some ⟨g1, 0, none⟩) 0 0 := e0
    have hE' : Row _ w' 75 6 Ltr.cells (vs 8) [] := hE
    rw [e0'] at hE'
    rw [e0']
    have HE := Lib.hid hE'
    have HI := Lib.hid hI
    have H0 := Lib.hid h0
    have HV := Lib.hid e0'
    have HX := Lib.hid hI.e
    clear hI hL hj hT e0 e0' hE hE' h0
    unfold Dk.sz at hf
    refine Row.appE (f := Ltr.cells) el_Letter rfl _ _ rfl g1 (by kernel_rfl) _ d.audit (by kernel_rfl) (fun _ => rfl) (rLtr_rc (H3.out.ext rLtr_stable (show Ext w w' from ((Ext.refl w).alloc _ |>.alloc _).trans HX.out))) ?_ ?_ ?_ (HE.out.mono (Nat.zero_le _)) ?_ ?_
    · intro x u hu
      simp [Ltr.cells] at hu
      rcases hu with rfl | rfl | rfl | rfl | rfl | rfl <;> rfl
    · unfold maxLen; omega
    · omega
    · intro hnil
      have H9 := Lib.hid (HI.out.app 2 (by decide) rfl H0.out (.slice (some ⟨g1, 0, none⟩) 0 0) (w' := w') (.inl ⟨hnil, HV.out.symm, rfl⟩))
      clear hnil
      go_wp2
      exact H9.out
    · intro v' Y' hR
      have H9 := Lib.hid (HI.out.app 2 (by decide) rfl H0.out v' (.inr ⟨(Ext.refl _).plus Y', hR⟩))
      clear hR
      go_wp2
      exact H9.out
  refine IReg.step 13 rfl (fun L w' hI hL hj => ?_) ?_
  · obtain ⟨X', hX'⟩ := hI.e
    skip
    have HI := Lib.hid hI
    clear hI hL hj
    subst hX'
    go_wp2
    exact HI.out.set 12 _ (by repeat (first | exact Ext.refl _ | apply Ext.plus | apply Ext.alloc | apply Ext.drew)) (by decide) (fun u hu => by simpa using hu.symm)
  refine IReg.step 14 rfl (fun L w' hI hL hj => ?_) ?_
  · obtain ⟨X', hX'⟩ := hI.e
    rw [hI.s 12 _ rfl (hj 12 (by decide) (by kernel_rfl))]
    have HI := Lib.hid hI
    clear hI hL hj
    subst hX'
    go_wp2
    exact HI.out.set 13 _ (by repeat (first | exact Ext.refl _ | apply Ext.plus | apply Ext.alloc | apply Ext.drew)) (by decide) (fun u hu => by simpa using hu.symm)
  refine IReg.step 15 rfl (fun L w' hI hL hj => ?_) ?_
  · obtain ⟨X', hX'⟩ := hI.e
    skip
    have HI := Lib.hid hI
    clear hI hL hj
    subst hX'
    go_wp2
    exact HI.out.set 14 _ (by repeat (first | exact Ext.refl _ | apply Ext.plus | apply Ext.alloc | apply Ext.drew)) (by decide) (fun u hu => by simpa using hu.symm)
  refine IReg.step 16 rfl (fun L w' hI hL hj => ?_) ?_
  · obtain ⟨X', hX'⟩ := hI.e
    rw [hI.s 14 _ rfl (hj 14 (by decide) (by kernel_rfl))]
    have HI := Lib.hid hI
    clear hI hL hj
    subst hX'
    go_wp2
    exact HI.out.set 15 _ (by repeat (first | exact Ext.refl _ | apply Ext.plus | apply Ext.alloc | apply Ext.drew)) (by decide) (fun u hu => by simpa using hu.symm)
  refine IReg.done (fun L w' hL hI => ?_)
  obtain ⟨f1, f2, f3, hO⟩ := hI.all hL
  obtain ⟨b1, e1, r1⟩ := hO.p.shape
  obtain ⟨b2, e2, r2⟩ := hO.b.shape
  obtain ⟨b3, e3, r3⟩ := hO.a.shape
  rw [hI.s 13 _ rfl (hL 13 (by decide)), hI.s 15 _ rfl (hL 15 (by decide)), r1, r2, r3]
  rw [r1, r2, r3] at hO
  have HO := Lib.hid hO
  have hE := hI.e
  clear hI hL r1 r2 r3 hO
  obtain ⟨X, rfl⟩ := hE
  go_wp2
  refine bodyPost_ret (v := .agg #[.slice b1 d.pairs.length e1, .slice b2 d.box.length e2, .slice b3 d.audit.length e3, (.int .i64 d.used), (.int .i64 d.now)]) (by simp [results, Try.results49, go_sem]) rfl ⟨.slice b1 d.pairs.length e1, .slice b2 d.box.length e2, .slice b3 d.audit.length e3, f1, f2, f3, rfl, (by repeat' (first | (with_reducible exact Ext.refl _) | (with_reducible refine Ext.plus ?_ _) | (with_reducible refine Ext.alloc ?_ _) | (with_reducible refine Ext.setCell ?_ ?_ _) | (with_reducible refine Ext.drew ?_) | (with_reducible exact Nat.le_refl _) | (dsimp only; omega))), ?_⟩
  exact (HO.out.swap (by simp) (by simp)).mono (by simp only [World.size_alloc]; omega)
section
variable {α : Type} {P : Program} {ops : Array Oper} {rest : List Oper} {op : Oper} {a : Act} {Q : Exit → Act → World → Prop}
/-- append of one element that was just laid, onto a list of ours; where the blocks of the new list lie. -/
theorem appM {t e : TypeId} {size bytes : Nat} {W : World} {cs : Array Value} {o : Ow α} (hlo : Local o) (hhe : Held o) (E : ElemInfo P t e size bytes) (hgd : op.guard = none) (s x : Operand)
    (ho : op.op = .call { callee := .builtin .append, args := #[s, x], argTypes := #[t, t] })
    (B : Nat) (hB : B ≤ W.heap.size) (v : Value) (xs : List α) (fp : List Nat) (hs : a.eval s = v) (hown : Own B W (oSl e size o) fp [v] xs)
    (b0 : Nat) (hb0 : b0 = W.heap.size) (hx : a.eval x = .slice (some ⟨b0, 0, none⟩) 1 1) (y : α) (hy : Own B W o [] cs.toList y) (hcl : cs.size = size)
    (h1 : ∀ u ∈ cs.toList, u.oneCell' = true) (h63 : xs.length + 1 ≤ maxLen) (hbytes : (xs.length + 1) * bytes ≤ 140737488355328)
    (h : ∀ v' w' fp', Own B w' (oSl e size o) fp' [v'] (xs ++ [y]) → Chg (blkL v) W w' → (∀ b ∈ fp', b ∈ fp ∨ W.heap.size ≤ b) → wpList P ops Q rest (a.put op.dst v') w') : wpList P ops Q (op :: rest) a (W.alloc (.cells cs e)) := by
  subst hb0
  have hx1 : Ext W (W.alloc (.cells cs e)) := (Ext.refl _).alloc _
  refine Own.app1 hlo hhe E hgd s x ho B v xs fp hs (hown.ext (oSl_local hlo) (oSl_held hhe) hx1) ⟨W.heap.size, 0, none⟩ 1 hx y [] cs.toList (hy.ext hlo hhe hx1) (by simpa using hcl) (fun _ _ h => by cases h) (by rw [World.size_alloc]; omega) (fun j u hu => ?_) h1 h63 hbytes ?_
  · rw [Addr.add_lit, Nat.zero_add, World.cell?_alloc_new]
    simpa using hu
  · intro v' w' fp' hO hch hS
    refine h v' w' fp' hO ((hx1.chg _).trans hch) (fun b hb => ?_)
    rcases hS b hb with e | e | e
    · exact .inl e
    · cases e
    · exact .inr (by rw [e]; simp)
end
theorem OwnD.box1 {B : Nat} {w w' : World} {f1 f2 f3 g2 : List Nat} {p b a b' : Value} {d : Dk} {x : Ltr} (h : OwnD B w f1 f2 f3 p b a d) (hc : Chg (blkL b) w w') (h2 : Own B w' oLetterS g2 [b'] (d.box ++ [x])) (k2 : ∀ q ∈ g2, q ∈ f2 ∨ w.heap.size ≤ q) : OwnD B w' f1 g2 f3 p b' a ⟨d.pairs, d.box ++ [x], d.audit, d.used, d.now⟩ := by
  have hi := h.high
  have hb := h.b.blkL_in
  refine ⟨h.p.far oLetterS_local oLetterS_held hc (fun q hq hq2 => h.pb q hq (hb q hq2)), h2, h.a.far oLetterS_local oLetterS_held hc (fun q hq hq2 => h.ba q (hb q hq2) hq), fun q hq hq2 => ?_, h.pa, fun q hq hq2 => ?_⟩
  · rcases k2 q hq2 with e | e
    · exact h.pb q hq e
    · have := hi q (by simp [hq]); omega
  · rcases k2 q hq with e | e
    · exact h.ba q e hq2
    · have := hi q (by simp [hq2]); omega
theorem OwnD.audit1 {B : Nat} {w w' : World} {f1 f2 f3 g3 : List Nat} {p b a a' : Value} {d : Dk} {x : Ltr} (h : OwnD B w f1 f2 f3 p b a d) (hc : Chg (blkL a) w w') (h3 : Own B w' oLetterS g3 [a'] (d.audit ++ [x])) (k3 : ∀ q ∈ g3, q ∈ f3 ∨ w.heap.size ≤ q) : OwnD B w' f1 f2 g3 p b a' ⟨d.pairs, d.box, d.audit ++ [x], d.used, d.now⟩ := by
  have hi := h.high
  have hb := h.a.blkL_in
  refine ⟨h.p.far oLetterS_local oLetterS_held hc (fun q hq hq2 => h.pa q hq (hb q hq2)), h.b.far oLetterS_local oLetterS_held hc (fun q hq hq2 => h.ba q hq (hb q hq2)), h3, h.pb, fun q hq hq2 => ?_, fun q hq hq2 => ?_⟩
  · rcases k3 q hq2 with e | e
    · exact h.pa q hq e
    · have := hi q (by simp [hq]); omega
  · rcases k3 q hq2 with e | e
    · exact h.ba q hq e
    · have := hi q (by simp [hq]); omega
set_option maxHeartbeats 3200000 in
theorem specLetDown_any (d : Dk) (v : Value) (a b : Lab) (q : Int) (w : World) (h : eDesk w v d) (hf : d.sz ≤ 1048576) :
    Calls Try.prog 12 #[v, .agg #[(.int .i64 a.lv), (.int .i64 a.st)], .agg #[(.int .i64 b.lv), (.int .i64 b.st)], (.int .i64 q)] w fun e w' => ∃ p bx au f1 f2 f3, e = .returned (stV (letR d a b q).1 (letR d a b q).2 p bx au) ∧ Ext w w' ∧ OwnD w.heap.size w' f1 f2 f3 p bx au (letR d a b q).1 := by
  have HD := Lib.hid h
  obtain ⟨a1, c1, a2, c2, a3, c3, rfl, z1, z2, h1, h2, h3⟩ := h
  clear h1 h2 h3 z1 z2
  unfold Dk.val at HD ⊢
  cases q1 : boxR d
  · rw [letR_form (by rw [q1]; rfl)]
    go_enter Try.func12, Try.ntmps12
    go_wp2_with (first | (go_at_call 18; refine (specBoxRight_any d _ _ (HD.out.ext (by repeat (first | exact Ext.refl _ | apply Ext.plus | apply Ext.alloc | apply Ext.drew)))).mono ?_; rintro e _ ⟨rfl, X, rfl⟩) | (go_at_call 47; refine (l02Is_any _ _ _ _).mono ?_; rintro e _ ⟨rfl, rfl⟩) | (go_at_call 48; refine (l06Pair_any d _ a b _ (HD.out.ext (by repeat (first | exact Ext.refl _ | apply Ext.plus | apply Ext.alloc | apply Ext.drew)))).mono ?_; rintro e _ ⟨rfl, Y, rfl⟩))
    exact bodyPost_ret (v := .agg #[.slice none 0 0, .slice none 0 0, .slice none 0 0, (.int .i64 0), (.int .i64 0), (.int .i64 1)]) (by simp [results, Try.results12, go_sem]) rfl ⟨_, _, _, [], [], [], rfl, (by repeat' (first | (with_reducible exact Ext.refl _) | (with_reducible refine Ext.plus ?_ _) | (with_reducible refine Ext.alloc ?_ _) | (with_reducible refine Ext.setCell ?_ ?_ _) | (with_reducible refine Ext.drew ?_) | (with_reducible exact Nat.le_refl _) | (dsimp only; omega))), OwnD.zero _ _⟩
  cases q2 : isIn q 0 1000000
  · rw [letR_form (by rw [q1, q2]; rfl)]
    go_enter Try.func12, Try.ntmps12
    go_wp2_with (first | (go_at_call 18; refine (specBoxRight_any d _ _ (HD.out.ext (by repeat (first | exact Ext.refl _ | apply Ext.plus | apply Ext.alloc | apply Ext.drew)))).mono ?_; rintro e _ ⟨rfl, X, rfl⟩) | (go_at_call 47; refine (l02Is_any _ _ _ _).mono ?_; rintro e _ ⟨rfl, rfl⟩) | (go_at_call 48; refine (l06Pair_any d _ a b _ (HD.out.ext (by repeat (first | exact Ext.refl _ | apply Ext.plus | apply Ext.alloc | apply Ext.drew)))).mono ?_; rintro e _ ⟨rfl, Y, rfl⟩))
    exact bodyPost_ret (v := .agg #[.slice none 0 0, .slice none 0 0, .slice none 0 0, (.int .i64 0), (.int .i64 0), (.int .i64 1)]) (by simp [results, Try.results12, go_sem]) rfl ⟨_, _, _, [], [], [], rfl, (by repeat' (first | (with_reducible exact Ext.refl _) | (with_reducible refine Ext.plus ?_ _) | (with_reducible refine Ext.alloc ?_ _) | (with_reducible refine Ext.setCell ?_ ?_ _) | (with_reducible refine Ext.drew ?_) | (with_reducible exact Nat.le_refl _) | (dsimp only; omega))), OwnD.zero _ _⟩
  have HQ := Lib.hid (show (boxR d && isIn q 0 1000000) = true by rw [q1, q2]; rfl)
  have hP := hasP_eq (boxR_at q1).1 a b
  cases q3 : hasT d.pairs ⟨a, b, 0, 0⟩
  · rw [letR_lab HQ.out q3]
    rw [q3] at hP
    go_enter Try.func12, Try.ntmps12
    go_wp2_with (first | (go_at_call 18; refine (specBoxRight_any d _ _ (HD.out.ext (by repeat (first | exact Ext.refl _ | apply Ext.plus | apply Ext.alloc | apply Ext.drew)))).mono ?_; rintro e _ ⟨rfl, X, rfl⟩) | (go_at_call 47; refine (l02Is_any _ _ _ _).mono ?_; rintro e _ ⟨rfl, rfl⟩) | (go_at_call 48; refine (l06Pair_any d _ a b _ (HD.out.ext (by repeat (first | exact Ext.refl _ | apply Ext.plus | apply Ext.alloc | apply Ext.drew)))).mono ?_; rintro e _ ⟨rfl, Y, rfl⟩))
    exact bodyPost_ret (v := .agg #[.slice none 0 0, .slice none 0 0, .slice none 0 0, (.int .i64 0), (.int .i64 0), (.int .i64 11)]) (by simp [results, Try.results12, go_sem]) rfl ⟨_, _, _, [], [], [], rfl, (by repeat' (first | (with_reducible exact Ext.refl _) | (with_reducible refine Ext.plus ?_ _) | (with_reducible refine Ext.alloc ?_ _) | (with_reducible refine Ext.setCell ?_ ?_ _) | (with_reducible refine Ext.drew ?_) | (with_reducible exact Nat.le_refl _) | (dsimp only; omega))), OwnD.zero _ _⟩
  have HT := Lib.hid q3
  rw [q3] at hP
  clear q3
  have hbd := boxR_bd q1
  by_cases h4 : d.used = 2
  · rw [letR_rate HQ.out HT.out h4]
    have q4 : decide ((2 : Int) ≤ d.used) = true := decide_eq_true (by omega)
    clear h4 hbd
    go_enter Try.func12, Try.ntmps12
    go_wp2_with (first | (go_at_call 18; refine (specBoxRight_any d _ _ (HD.out.ext (by repeat (first | exact Ext.refl _ | apply Ext.plus | apply Ext.alloc | apply Ext.drew)))).mono ?_; rintro e _ ⟨rfl, X, rfl⟩) | (go_at_call 47; refine (l02Is_any _ _ _ _).mono ?_; rintro e _ ⟨rfl, rfl⟩) | (go_at_call 48; refine (l06Pair_any d _ a b _ (HD.out.ext (by repeat (first | exact Ext.refl _ | apply Ext.plus | apply Ext.alloc | apply Ext.drew)))).mono ?_; rintro e _ ⟨rfl, Y, rfl⟩))
    exact bodyPost_ret (v := .agg #[.slice none 0 0, .slice none 0 0, .slice none 0 0, (.int .i64 0), (.int .i64 0), (.int .i64 8)]) (by simp [results, Try.results12, go_sem]) rfl ⟨_, _, _, [], [], [], rfl, (by repeat' (first | (with_reducible exact Ext.refl _) | (with_reducible refine Ext.plus ?_ _) | (with_reducible refine Ext.alloc ?_ _) | (with_reducible refine Ext.setCell ?_ ?_ _) | (with_reducible refine Ext.drew ?_) | (with_reducible exact Nat.le_refl _) | (dsimp only; omega))), OwnD.zero _ _⟩
  have q4 : decide ((2 : Int) ≤ d.used) = false := decide_eq_false (by omega)
  by_cases h5 : d.box.length = 6
  · rw [letR_full HQ.out HT.out h4 (.inl h5)]
    have q5 : decide ((6 : Int) ≤ (d.box.length : Int)) = true := decide_eq_true (by omega)
    clear h4 hbd h5
    go_enter Try.func12, Try.ntmps12
    go_wp2_with (first | (go_at_call 18; refine (specBoxRight_any d _ _ (HD.out.ext (by repeat (first | exact Ext.refl _ | apply Ext.plus | apply Ext.alloc | apply Ext.drew)))).mono ?_; rintro e _ ⟨rfl, X, rfl⟩) | (go_at_call 47; refine (l02Is_any _ _ _ _).mono ?_; rintro e _ ⟨rfl, rfl⟩) | (go_at_call 48; refine (l06Pair_any d _ a b _ (HD.out.ext (by repeat (first | exact Ext.refl _ | apply Ext.plus | apply Ext.alloc | apply Ext.drew)))).mono ?_; rintro e _ ⟨rfl, Y, rfl⟩))
    exact bodyPost_ret (v := .agg #[.slice none 0 0, .slice none 0 0, .slice none 0 0, (.int .i64 0), (.int .i64 0), (.int .i64 9)]) (by simp [results, Try.results12, go_sem]) rfl ⟨_, _, _, [], [], [], rfl, (by repeat' (first | (with_reducible exact Ext.refl _) | (with_reducible refine Ext.plus ?_ _) | (with_reducible refine Ext.alloc ?_ _) | (with_reducible refine Ext.setCell ?_ ?_ _) | (with_reducible refine Ext.drew ?_) | (with_reducible exact Nat.le_refl _) | (dsimp only; omega))), OwnD.zero _ _⟩
  have q5 : decide ((6 : Int) ≤ (d.box.length : Int)) = false := decide_eq_false (by omega)
  by_cases h6 : d.audit.length = 20
  · rw [letR_full HQ.out HT.out h4 (.inr h6)]
    have q6 : decide ((20 : Int) ≤ (d.audit.length : Int)) = true := decide_eq_true (by omega)
    clear h4 hbd h5 h6
    go_enter Try.func12, Try.ntmps12
    go_wp2_with (first | (go_at_call 18; refine (specBoxRight_any d _ _ (HD.out.ext (by repeat (first | exact Ext.refl _ | apply Ext.plus | apply Ext.alloc | apply Ext.drew)))).mono ?_; rintro e _ ⟨rfl, X, rfl⟩) | (go_at_call 47; refine (l02Is_any _ _ _ _).mono ?_; rintro e _ ⟨rfl, rfl⟩) | (go_at_call 48; refine (l06Pair_any d _ a b _ (HD.out.ext (by repeat (first | exact Ext.refl _ | apply Ext.plus | apply Ext.alloc | apply Ext.drew)))).mono ?_; rintro e _ ⟨rfl, Y, rfl⟩))
    exact bodyPost_ret (v := .agg #[.slice none 0 0, .slice none 0 0, .slice none 0 0, (.int .i64 0), (.int .i64 0), (.int .i64 9)]) (by simp [results, Try.results12, go_sem]) rfl ⟨_, _, _, [], [], [], rfl, (by repeat' (first | (with_reducible exact Ext.refl _) | (with_reducible refine Ext.plus ?_ _) | (with_reducible refine Ext.alloc ?_ _) | (with_reducible refine Ext.setCell ?_ ?_ _) | (with_reducible refine Ext.drew ?_) | (with_reducible exact Nat.le_refl _) | (dsimp only; omega))), OwnD.zero _ _⟩
  have q6 : decide ((20 : Int) ≤ (d.audit.length : Int)) = false := decide_eq_false (by omega)
  rw [letR_yes HQ.out HT.out h4 (by omega)]
  have HBD := Lib.hid hbd
  clear h4 hbd h5 h6
  go_enter Try.func12, Try.ntmps12
  go_wp2_with (first | (go_at_call 18; refine (specBoxRight_any d _ _ (HD.out.ext (by repeat (first | exact Ext.refl _ | apply Ext.plus | apply Ext.alloc | apply Ext.drew)))).mono ?_; rintro e _ ⟨rfl, X, rfl⟩) | (go_at_call 47; refine (l02Is_any _ _ _ _).mono ?_; rintro e _ ⟨rfl, rfl⟩) | (go_at_call 48; refine (l06Pair_any d _ a b _ (HD.out.ext (by repeat (first | exact Ext.refl _ | apply Ext.plus | apply Ext.alloc | apply Ext.drew)))).mono ?_; rintro e _ ⟨rfl, Y, rfl⟩))
  refine (l06Copy_own d _ _ (HD.out.ext (by repeat (first | exact Ext.refl _ | apply Ext.plus | apply Ext.alloc | apply Ext.drew))) hf).mono ?_
  rintro e _ ⟨p, bx, au, f1, f2, f3, rfl, ⟨Y3, rfl⟩, hO⟩
  obtain ⟨y1, k1, rfl⟩ := hO.p.shape
  obtain ⟨y2, k2, rfl⟩ := hO.b.shape
  obtain ⟨y3, k3, rfl⟩ := hO.a.shape
  have HO := Lib.hid hO
  clear hO q1 q2 q4 q5 q6 HQ HT hP
  unfold Dk.val
  go_upto_region 11 with fail
  refine gen_world (fun W2 hW2 => ?_)
  have hE3 : Ext ((((w.alloc (.cells #[.slice a1 d.pairs.length c1, .slice a2 d.box.length c2, .slice a3 d.audit.length c3, (.int .i64 d.used), (.int .i64 d.now)] 25)).alloc (.cells #[(.int .i64 a.lv), (.int .i64 a.st)] 27)).alloc (.cells #[(.int .i64 b.lv), (.int .i64 b.st)] 27)).alloc (.cells #[.slice none 0 0, .slice none 0 0, .slice none 0 0, (.int .i64 0), (.int .i64 0), (.int .i64 0)] 31)) W2 := by rw [hW2]; exact (by repeat (first | exact Ext.refl _ | apply Ext.plus | apply Ext.alloc | apply Ext.drew))
  have hO2 : OwnD (w.heap.size + 1 + 1 + 1 + 1) W2 f1 f2 f3 (.slice y1 d.pairs.length k1) (.slice y2 d.box.length k2) (.slice y3 d.audit.length k3) d := by
    rw [hW2]
    exact (HO.out.ext (((Ext.refl _).alloc _).alloc _)).mono (by simp; omega)
  have hD2 : W2.heap[w.heap.size + 1 + 1 + 1 + 1 + X.n + Y.n + Y3.n]? = some (.cells #[.slice y1 d.pairs.length k1, .slice y2 d.box.length k2, .slice y3 d.audit.length k3, (.int .i64 d.used), (.int .i64 d.now)] 25) := by
    rw [hW2]
    have := heap_ext (heap_alloc_new (((((((w.alloc (.cells #[.slice a1 d.pairs.length c1, .slice a2 d.box.length c2, .slice a3 d.audit.length c3, (.int .i64 d.used), (.int .i64 d.now)] 25)).alloc (.cells #[(.int .i64 a.lv), (.int .i64 a.st)] 27)).alloc (.cells #[(.int .i64 b.lv), (.int .i64 b.st)] 27)).alloc (.cells #[.slice none 0 0, .slice none 0 0, .slice none 0 0, (.int .i64 0), (.int .i64 0), (.int .i64 0)] 31)).plus X).plus Y).plus Y3) (.cells #[.slice y1 d.pairs.length k1, .slice y2 d.box.length k2, .slice y3 d.audit.length k3, (.int .i64 d.used), (.int .i64 d.now)] 25)) ((Ext.refl _).alloc (.cells #[(.int .i64 a.lv), (.int .i64 a.st), (.int .i64 b.lv), (.int .i64 b.st), (.int .i64 d.now), (.int .i64 q)] 75))
    simp only [World.size_plus, World.size_alloc] at this
    exact this
  have hL2 : W2.heap[w.heap.size + 1 + 1 + 1 + 1 + X.n + Y.n + Y3.n + 1]? = some (.cells #[(.int .i64 a.lv), (.int .i64 a.st), (.int .i64 b.lv), (.int .i64 b.st), (.int .i64 d.now), (.int .i64 q)] 75) := by
    rw [hW2]
    have := heap_alloc_new ((((((((w.alloc (.cells #[.slice a1 d.pairs.length c1, .slice a2 d.box.length c2, .slice a3 d.audit.length c3, (.int .i64 d.used), (.int .i64 d.now)] 25)).alloc (.cells #[(.int .i64 a.lv), (.int .i64 a.st)] 27)).alloc (.cells #[(.int .i64 b.lv), (.int .i64 b.st)] 27)).alloc (.cells #[.slice none 0 0, .slice none 0 0, .slice none 0 0, (.int .i64 0), (.int .i64 0), (.int .i64 0)] 31)).plus X).plus Y).plus Y3).alloc (.cells #[.slice y1 d.pairs.length k1, .slice y2 d.box.length k2, .slice y3 d.audit.length k3, (.int .i64 d.used), (.int .i64 d.now)] 25)) (.cells #[(.int .i64 a.lv), (.int .i64 a.st), (.int .i64 b.lv), (.int .i64 b.st), (.int .i64 d.now), (.int .i64 q)] 75)
    simp only [World.size_plus, World.size_alloc] at this
    exact this
  have hnL : w.heap.size + 1 + 1 + 1 + 1 + X.n + Y.n + Y3.n + 1 ∉ f1 ++ f2 ++ f3 := fun hb => by
    have := HO.out.high _ hb
    simp at this; omega
  have hdb : w.heap.size + 1 + 1 + 1 + 1 ≤ w.heap.size + 1 + 1 + 1 + 1 + X.n + Y.n + Y3.n := by omega
  generalize w.heap.size + 1 + 1 + 1 + 1 + X.n + Y.n + Y3.n = gD at hD2 hL2 hnL hdb ⊢
  have hne : gD ≠ gD + 1 := by omega
  generalize gD + 1 = gL at hL2 hnL hne ⊢
  clear hW2 HO
  have HE3 := Lib.hid hE3
  have HSZ : Hid (w.heap.size + 1 + 1 + 1 + 1 ≤ W2.heap.size) := Lib.hid (by have := hE3.below.size; simpa using this)
  have HO2 := Lib.hid hO2
  have HND : Hid (gD ∉ f1 ++ f2 ++ f3) := Lib.hid (apart_of_type hD2 (by decide) hO2.tys)
  have HNL := Lib.hid hnL
  have HNE := Lib.hid hne
  have HDB := Lib.hid hdb
  have HD2 := Lib.hid hD2
  have HL2 := Lib.hid hL2
  have s1 : W2.cell? ⟨gD, 1, none⟩ = some (.slice y2 d.box.length k2) := (cell_of_heap hD2 1).trans rfl
  have r0 : W2.cell? ⟨gL, 0, none⟩ = some (.int .i64 a.lv) := (cell_of_heap hL2 0).trans rfl
  have r1 : W2.cell? ⟨gL, 1, none⟩ = some (.int .i64 a.st) := (cell_of_heap hL2 1).trans rfl
  have r2 : W2.cell? ⟨gL, 2, none⟩ = some (.int .i64 b.lv) := (cell_of_heap hL2 2).trans rfl
  have r3 : W2.cell? ⟨gL, 3, none⟩ = some (.int .i64 b.st) := (cell_of_heap hL2 3).trans rfl
  have r4 : W2.cell? ⟨gL, 4, none⟩ = some (.int .i64 d.now) := (cell_of_heap hL2 4).trans rfl
  have r5 : W2.cell? ⟨gL, 5, none⟩ = some (.int .i64 q) := (cell_of_heap hL2 5).trans rfl
  have hog := World.old_of_cell s1
  have hol := World.old_of_cell r0
  clear hE3 hO2 hD2 hL2 hnL hne hdb
  go_upto_region 12 with (at_builtin; go_must (refine appM (oFlat_local _) (oFlat_held _) el_Letter rfl _ _ rfl (w.heap.size + 1 + 1 + 1 + 1) HSZ.out _ d.box f2 rfl HO2.out.b _ rfl rfl (letX d a b q) ⟨⟨rfl, rfl⟩, List.nodup_nil, fun _ h => by cases h⟩ rfl ?_ ?_ ?_ ?_); (exact letX_one d a b q); (have := HBD.out; unfold maxLen; omega); (have := HBD.out; omega); intro v' w2 fp' hO4 hC4 hS4; obtain ⟨a4, k4, hv4⟩ := hO4.shape; rw [show (d.box ++ [letX d a b q]).length = d.box.length + 1 by simp] at hv4; subst hv4; have HO4 := Lib.hid hO4; have HC4 := Lib.hid hC4; have HS4 := Lib.hid hS4; have t1 := cell_chg hC4 s1 (fun hb => HND.out (by have := HO2.out.b.blkL_in _ hb; simp [this])); have hog2 := World.old_of_cell t1; have hfz2 := frozen_of_heap (heap_chg HD2.out hC4 (fun hb => HND.out (by have := HO2.out.b.blkL_in _ hb; simp [this]))); clear hO4 hC4 hS4)
  refine gen_world (fun W4 hW4 => ?_)
  have hs4 : Chg [gD] w2 W4 := by rw [hW4]; exact (Chg.refl _ _).setCell (.inl (by simp)) _
  have hO4 := HO2.out.box1 HC4.out HO4.out HS4.out
  have hD4 := heap_chg HD2.out HC4.out (fun hb => HND.out (by have := HO2.out.b.blkL_in _ hb; simp [this]))
  have hL4 := heap_chg HL2.out HC4.out (fun hb => HNL.out (by have := HO2.out.b.blkL_in _ hb; simp [this]))
  have hE4 := HC4.out.ext HE3.out (fun x hx => by have := HO2.out.low x (by have := HO2.out.b.blkL_in _ hx; simp [this]); simpa using this)
  have hND4 : gD ∉ f1 ++ fp' ++ f3 := apart_of_type hD4 (by decide) hO4.tys
  have hNL4 : gL ∉ f1 ++ fp' ++ f3 := fun hb => by
    have h1 := (Array.getElem?_eq_some_iff.1 HL2.out).1
    have h2 := HNL.out
    simp at hb h2
    rcases hb with e | e | e
    · exact h2.1 e
    · rcases HS4.out _ e with e2 | e2
      · exact h2.2.1 e2
      · omega
    · exact h2.2.2 e
  have hD5 : W4.heap[gD]? = some (.cells #[.slice y1 d.pairs.length k1, .slice a4 (d.box.length + 1) k4, .slice y3 d.audit.length k3, (.int .i64 d.used), (.int .i64 d.now)] 25 (0, 0)) := by
    rw [hW4]; exact setCell_heap hD4 1 _
  have hL5 := heap_chg hL4 hs4 (by simp; exact fun e => HNE.out e.symm)
  have hO5 := hO4.far hs4 (fun x hx he => hND4 (by rw [← List.mem_singleton.1 he]; exact hx))
  have hE5 := hs4.ext hE4 (fun x hx => by rw [List.mem_singleton.1 hx]; have := HDB.out; simpa using this)
  clear hs4 hO4 hD4 hL4 hE4 hW4
  have HE5 := Lib.hid hE5
  have HSZ5 : Hid (w.heap.size + 1 + 1 + 1 + 1 ≤ W4.heap.size) := Lib.hid (by have := hE5.below.size; simpa using this)
  have HO5 := Lib.hid hO5
  have HND5 := Lib.hid hND4
  have HD5 := Lib.hid hD5
  clear HE3 HSZ HO2 HND HNL HD2 HL2 HO4 HC4 HS4 s1 r0 r1 r2 r3 r4 r5 hog hol t1 hog2 hfz2
  have s1 : W4.cell? ⟨gD, 2, none⟩ = some (.slice y3 d.audit.length k3) := (cell_of_heap hD5 2).trans rfl
  have r0 : W4.cell? ⟨gL, 0, none⟩ = some (.int .i64 a.lv) := (cell_of_heap hL5 0).trans rfl
  have r1 : W4.cell? ⟨gL, 1, none⟩ = some (.int .i64 a.st) := (cell_of_heap hL5 1).trans rfl
  have r2 : W4.cell? ⟨gL, 2, none⟩ = some (.int .i64 b.lv) := (cell_of_heap hL5 2).trans rfl
  have r3 : W4.cell? ⟨gL, 3, none⟩ = some (.int .i64 b.st) := (cell_of_heap hL5 3).trans rfl
  have r4 : W4.cell? ⟨gL, 4, none⟩ = some (.int .i64 d.now) := (cell_of_heap hL5 4).trans rfl
  have r5 : W4.cell? ⟨gL, 5, none⟩ = some (.int .i64 q) := (cell_of_heap hL5 5).trans rfl
  have hog := World.old_of_cell s1
  have hol := World.old_of_cell r0
  clear hE5 hO5 hD5 hL5 hND4 hNL4
  go_upto_region 13 with (at_builtin; go_must (refine appM (oFlat_local _) (oFlat_held _) el_Letter rfl _ _ rfl (w.heap.size + 1 + 1 + 1 + 1) HSZ5.out _ d.audit f3 rfl HO5.out.a _ rfl rfl (letX d a b q) ⟨⟨rfl, rfl⟩, List.nodup_nil, fun _ h => by cases h⟩ rfl ?_ ?_ ?_ ?_); (exact letX_one d a b q); (have := HBD.out; unfold maxLen; omega); (have := HBD.out; omega); intro v' w2 g9 hO4 hC4 hS4; obtain ⟨a9, k9, hv9⟩ := hO4.shape; rw [show (d.audit ++ [letX d a b q]).length = d.audit.length + 1 by simp] at hv9; subst hv9; have HO6 := Lib.hid hO4; have HC6 := Lib.hid hC4; have HS6 := Lib.hid hS4; have t1 := cell_chg hC4 s1 (fun hb => HND5.out (by have := HO5.out.a.blkL_in _ hb; simp [this])); have hog2 := World.old_of_cell t1; have hfz2 := frozen_of_heap (heap_chg HD5.out hC4 (fun hb => HND5.out (by have := HO5.out.a.blkL_in _ hb; simp [this]))); clear hO4 hC4 hS4)
  refine gen_world (fun W6 hW6 => ?_)
  have hs6 : Chg [gD] w2 W6 := by rw [hW6]; exact (Chg.refl _ _).setCell (.inl (by simp)) _
  have hO6 := HO5.out.audit1 HC6.out HO6.out HS6.out
  have hD6 := heap_chg HD5.out HC6.out (fun hb => HND5.out (by have := HO5.out.a.blkL_in _ hb; simp [this]))
  have hE6 := HC6.out.ext HE5.out (fun x hx => by have := HO5.out.low x (by have := HO5.out.a.blkL_in _ hx; simp [this]); simpa using this)
  have hND6 : gD ∉ f1 ++ fp' ++ g9 := apart_of_type hD6 (by decide) hO6.tys
  have hD7 : W6.heap[gD]? = some (.cells #[.slice y1 d.pairs.length k1, .slice a4 (d.box.length + 1) k4, .slice a9 (d.audit.length + 1) k9, (.int .i64 d.used), (.int .i64 d.now)] 25 (0, 0)) := by
    rw [hW6]; exact setCell_heap hD6 2 _
  have HO7 := Lib.hid (hO6.far hs6 (fun x hx he => hND6 (by rw [← List.mem_singleton.1 he]; exact hx)))
  have hE7 := hs6.ext hE6 (fun x hx => by rw [List.mem_singleton.1 hx]; have := HDB.out; simpa using this)
  have HND7 := Lib.hid hND6
  have HD7 := Lib.hid hD7
  have hfz := frozen_of_heap hD7
  have s3 : W6.cell? ⟨gD, 3, none⟩ = some (.int .i64 d.used) := (cell_of_heap hD7 3).trans rfl
  have hog3 := World.old_of_cell s3
  have hwu : wrap64 (d.used + 1) = d.used + 1 := by have := HBD.out; unfold wrap64; omega
  have hEE : Ext ((((w.alloc (.cells #[.slice a1 d.pairs.length c1, .slice a2 d.box.length c2, .slice a3 d.audit.length c3, (.int .i64 d.used), (.int .i64 d.now)] 25)).alloc (.cells #[(.int .i64 a.lv), (.int .i64 a.st)] 27)).alloc (.cells #[(.int .i64 b.lv), (.int .i64 b.st)] 27)).alloc (.cells #[.slice none 0 0, .slice none 0 0, .slice none 0 0, (.int .i64 0), (.int .i64 0), (.int .i64 0)] 31)) W6 := hE7
  have HEE := Lib.hid hEE
  have d0 : W6.cell? ⟨w.heap.size, 3, none⟩ = some (.int .i64 d.used) := by
    obtain ⟨X6, rfl⟩ := hEE
    simp [go_sem]
  have hod := World.old_of_cell d0
  clear hs6 hO6 hD6 hE6 hND6 hW6 hD7 hE7 hEE HE5 HSZ5 HO5 HND5 HD5 HO6 HC6 HS6 s1 r0 r1 r2 r3 r4 r5 hog hol t1 hog2 hfz2
  go_upto_region 14 with fail
  refine gen_world (fun W7 hW7 => ?_)
  have hD8 : W7.heap[gD]? = some (.cells #[.slice y1 d.pairs.length k1, .slice a4 (d.box.length + 1) k4, .slice a9 (d.audit.length + 1) k9, (.int .i64 (d.used + 1)), (.int .i64 d.now)] 25 (0, 0)) := by
    rw [hW7]; exact setCell_heap HD7.out 3 _
  have hs8 : Chg [gD] W6 W7 := by rw [hW7]; exact (Chg.refl _ _).setCell (.inl (by simp)) _
  have HO8 := Lib.hid (HO7.out.far hs8 (fun x hx he => HND7.out (by rw [← List.mem_singleton.1 he]; exact hx)))
  have hE8 : Ext ((((w.alloc (.cells #[.slice a1 d.pairs.length c1, .slice a2 d.box.length c2, .slice a3 d.audit.length c3, (.int .i64 d.used), (.int .i64 d.now)] 25)).alloc (.cells #[(.int .i64 a.lv), (.int .i64 a.st)] 27)).alloc (.cells #[(.int .i64 b.lv), (.int .i64 b.st)] 27)).alloc (.cells #[.slice none 0 0, .slice none 0 0, .slice none 0 0, (.int .i64 0), (.int .i64 0), (.int .i64 0)] 31)) W7 := hs8.ext HEE.out (fun x hx => by rw [List.mem_singleton.1 hx]; have := HDB.out; simpa using this)
  clear hs8 hW7 hfz s3 hog3 hwu d0 hod HO7 HND7 HD7 HEE
  have s0 : W7.cell? ⟨gD, 0, none⟩ = some (.slice y1 d.pairs.length k1) := (cell_of_heap hD8 0).trans rfl
  have s1 : W7.cell? ⟨gD, 1, none⟩ = some (.slice a4 (d.box.length + 1) k4) := (cell_of_heap hD8 1).trans rfl
  have s2 : W7.cell? ⟨gD, 2, none⟩ = some (.slice a9 (d.audit.length + 1) k9) := (cell_of_heap hD8 2).trans rfl
  have s3 : W7.cell? ⟨gD, 3, none⟩ = some (.int .i64 (d.used + 1)) := (cell_of_heap hD8 3).trans rfl
  have s4 : W7.cell? ⟨gD, 4, none⟩ = some (.int .i64 d.now) := (cell_of_heap hD8 4).trans rfl
  have hog := World.old_of_cell s0
  clear hD8
  obtain ⟨X5, rfl⟩ := hE8
  go_wp2
  refine bodyPost_ret (v := .agg #[.slice y1 d.pairs.length k1, .slice a4 (d.box.length + 1) k4, .slice a9 (d.audit.length + 1) k9, (.int .i64 (d.used + 1)), (.int .i64 d.now), (.int .i64 0)]) (by simp [results, Try.results12, go_sem]) rfl ⟨.slice y1 d.pairs.length k1, .slice a4 (d.box.length + 1) k4, .slice a9 (d.audit.length + 1) k9, rfl, (by repeat' (first | (with_reducible exact Ext.refl _) | (with_reducible refine Ext.plus ?_ _) | (with_reducible refine Ext.alloc ?_ _) | (with_reducible refine Ext.setCell ?_ ?_ _) | (with_reducible refine Ext.drew ?_) | (with_reducible exact Nat.le_refl _) | (dsimp only; omega))), f1, fp', g9, ?_⟩
  have hO9 : OwnD _ (World.plus _ X5) f1 fp' g9 _ _ _ (letD d a b q) := ⟨HO8.out.p, HO8.out.b, HO8.out.a, HO8.out.pb, HO8.out.pa, HO8.out.ba⟩
  exact (hO9.swap (by simp) (by simp)).mono (by omega)
end Go.Proofs.Ytocadhcggkbimaa
