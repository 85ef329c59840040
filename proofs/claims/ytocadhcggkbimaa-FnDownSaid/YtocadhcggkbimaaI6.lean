/- A region that draws its order, under an invariant of what has come. -/
import Derived.Test.YtocadhcggkbimaaI5
set_option maxRecDepth 100000
set_option linter.unusedVariables false
namespace Go
open Go.RowKit
namespace XReg
open Go.Region (binds ready)
variable {P : Program} {ops : Array Oper} {m : Nat}
theorem phase1i {I : (Nat → Bool) → (Nat → Value) → World → Prop} {c : Array Nat} (H : Ok ops c m) {Q : Exit → Act → World → Prop} {a0 : Act}
    (hd : ∀ (i : Nat) (o : Oper), ops[i]? = some o → ∀ d, o.dst = some d → d < a0.tmps.size)
    (each : ∀ (i : Nat) (o : Oper), i < m → ops[i]? = some o → ∀ (L : Nat → Bool) (vs : Nat → Value) w, I L vs w → L i = false → (∀ j, j < i → anc c i j = true → L j = true) → GivesR P ops o (act ops a0 vs (fun _ => true) i) (fun v w' => I (fun k => if k = i then true else L k) (fun k => if k = i then v else vs k) w') w)
    (fin : ∀ (L : Nat → Bool) (vs : Nat → Value) w', (∀ j, j < m → L j = true) → I L vs w' → wpList P ops Q (ops.toList.drop m) (act ops a0 vs (fun _ => true) m) w') :
    ∀ (fuel : Nat) (listed : Array Bool) (vs : Nat → Value) (w : World), listed.size = ops.size → Closed ops listed → (∀ i, m ≤ i → listed.getD i false = false) → unl listed ops.size = fuel → I (fun j => listed.getD j false) vs w →
      wpAny P .any ops Q fuel listed (act ops a0 vs (fun j => listed.getD j false) ops.size) w := by
  intro fuel
  induction fuel with
  | zero =>
    intro listed vs w hs hc hm hu hI
    have hall := unl_zero ops.size hu
    have hms : m = ops.size := by
      have := H.le
      rcases Nat.lt_or_ge m ops.size with h1 | h1
      · have := hall m h1; rw [hm m (Nat.le_refl _)] at this; cases this
      · omega
    have hl : ∀ j, listed.getD j false = true ↔ j < m := fun j => ⟨fun h => (by
      rcases Nat.lt_or_ge j m with h1 | h1
      · exact h1
      · rw [hm j h1] at h; cases h), fun h => hall j (by omega)⟩
    have hact : act ops a0 vs (fun j => listed.getD j false) ops.size = act ops a0 vs (fun _ => true) m := by
      rw [← hms]
      have : ∀ k, k ≤ m → act ops a0 vs (fun j => listed.getD j false) k = act ops a0 vs (fun _ => true) k := by
        intro k
        induction k with
        | zero => intro _; rfl
        | succ k ih => intro hk; rw [act_succ, act_succ, ih (by omega)]; simp only [(hl k).2 (by omega), if_true]
      exact this m (Nat.le_refl _)
    rw [hact]
    exact phase2 H 0 m listed _ w (by omega) (Nat.le_refl _) hl hs hc (fin _ vs w (fun j hj => (hl j).2 hj) hI)
  | succ fuel ih =>
    intro listed vs w hs hc hm hu hI
    by_cases hpre : ∀ j, j < m → listed.getD j false = true
    · have hl : ∀ j, listed.getD j false = true ↔ j < m := fun j => ⟨fun h => (by
        rcases Nat.lt_or_ge j m with h1 | h1
        · exact h1
        · rw [hm j h1] at h; cases h), hpre j⟩
      have hact : ∀ k, act ops a0 vs (fun j => listed.getD j false) k = act ops a0 vs (fun _ => true) (min k m) := by
        intro k
        induction k with
        | zero => simp [act]
        | succ k ih =>
          by_cases e : k < m
          · rw [show min (k + 1) m = (min k m) + 1 from by omega]
            rw [act_succ, act_succ, ih]
            simp only [(hl k).2 e, if_true]
            rw [show min k m = k from by omega]
          · rw [show min (k + 1) m = min k m from by omega, ← ih]
            rw [act_succ, if_neg (by rw [hl]; exact e)]
      rw [hact, show min ops.size m = m from by have := H.le; omega]
      have hfu : m + (fuel + 1) = ops.size := by
        have := unl_tail hl ops.size H.le
        have := H.le
        omega
      exact phase2 H (fuel + 1) m listed _ w hfu (Nat.le_refl _) hl hs hc (fin _ vs w (fun j hj => (hl j).2 hj) hI)
    · have hex : ∃ j, j < m ∧ listed.getD j false = false ∧ ∀ i, i < j → listed.getD i false = true := by
        have : ∀ n, (∀ j, j < n → listed.getD j false = true) ∨ ∃ j, j < n ∧ listed.getD j false = false ∧ ∀ i, i < j → listed.getD i false = true := by
          intro n
          induction n with
          | zero => exact .inl fun j h => by omega
          | succ n ih =>
            rcases ih with h | ⟨j, h1, h2, h3⟩
            · cases e : listed.getD n false
              · exact .inr ⟨n, by omega, e, h⟩
              · exact .inl fun j hj => by
                  by_cases e' : j = n
                  · rw [e']; exact e
                  · exact h j (by omega)
            · exact .inr ⟨j, by omega, h2, h3⟩
        exact (this m).resolve_left hpre
      obtain ⟨j, hjm, hj0, hjl⟩ := hex
      have hle := H.le
      have hoj : ops[j]? = some ops[j] := Array.getElem?_eq_getElem (by omega)
      have hjr : j ∈ ready .any ops listed := of_ready hs hoj hj0 fun e he hb => hjl _ (H.back j _ hoj e he hb)
      refine ⟨fun e => (by rw [e] at hjr; cases hjr), fun i hi => ?_⟩
      obtain ⟨o, ho, hi0, ha⟩ := ready_of hs hi
      have his : i < ops.size := (Array.getElem?_eq_some_iff.1 ho).1
      have him : i < m := by
        rcases Nat.lt_or_ge i m with h1 | h1
        · exact h1
        · have := anc_listed H hc i o j ho (.inr ha) (by omega) (H.last i o j ho h1 (by omega))
          rw [hj0] at this; cases this
      have h1 : ∀ k, k < i → anc c i k = true → listed.getD k false = true := fun k hk hak => anc_listed H hc i o k ho (.inr ha) (by omega) hak
      have h2 : ∀ k, i < k → anc c k i = true → listed.getD k false = false := fun k hk hak => by
        cases e : listed.getD k false
        · rfl
        · rcases Nat.lt_or_ge k ops.size with h3 | h3
          · have := anc_listed H hc k ops[k] i (Array.getElem?_eq_getElem h3) (.inl e) his hak
            rw [hi0] at this; cases this
          · simp [Array.getElem?_eq_none (show listed.size ≤ k by omega)] at e
      have agree : ∀ t ∈ o.looksAt ops, (act ops a0 vs (fun j => listed.getD j false) ops.size).tmps[t]? = (act ops a0 vs (fun _ => true) i).tmps[t]? := fun t ht => by
        have := act_agree (a0 := a0) (vs := vs) H ho (L := fun j => listed.getD j false) hi0 h1 h2 ht ops.size (Nat.le_refl _)
        rwa [show min ops.size i = i from by omega] at this
      refine gives_opR ho (each i o him ho _ vs w hI hi0 fun q hq hqa => h1 q hq hqa) (H.nosel i o ho) (eval_of_agree agree) (wanted_of_agree agree) (fun d hdd => by rw [act_size]; exact hd i o ho d hdd) fun v w' hv => ?_
      have hcg : act ops a0 vs (fun j => listed.getD j false) ops.size = act ops a0 (fun q => if q = i then v else vs q) (fun j => listed.getD j false) ops.size :=
        act_congrL ops.size fun q _ hlq => by
          by_cases e : q = i
          · subst e; rw [hi0] at hlq; cases hlq
          · rw [if_neg e]
      rw [hcg]
      have hset := act_set (a0 := a0) (vs := fun q => if q = i then v else vs q) H ho (L := fun j => listed.getD j false) hi0 h2 ops.size (Nat.le_refl _) his
      simp only [if_true] at hset
      rw [hset]
      have hfun : (fun k => if k = i then true else listed.getD k false) = fun k => (listed.setIfInBounds i true).getD k false := funext fun k => (getD_set (by omega) k).symm
      rw [hfun]
      refine ih (listed.setIfInBounds i true) _ w' (by simpa using hs) ?_ ?_ ?_ ?_
      · intro k o' hk hlk e he hb
        rw [getD_set (by omega)] at hlk ⊢
        split
        · rfl
        · by_cases e' : k = i
          · subst e'
            rw [ho] at hk; cases hk
            exact ha e he hb
          · rw [if_neg e'] at hlk; exact hc k o' hk hlk e he hb
      · intro k hk
        rw [getD_set (by omega), if_neg (by omega)]; exact hm k hk
      · have := unl_set (listed := listed) (i := i) (by omega) hi0 ops.size his
        omega
      · rw [← hfun]; exact hv

/-- The operations one by one, in the order of the text: the values vs, the n-th comes. -/
def wpI (P : Program) (ops : Array Oper) (c : Array Nat) (I : (Nat → Bool) → (Nat → Value) → World → Prop) (tail : List Oper) (Q : Exit → Act → World → Prop) (vs : Nat → Value) : List Oper → Act → Nat → Prop
  | [], a, n => ∀ L w, (∀ j, j < n → L j = true) → I L vs w → wpList P ops Q tail a w
  | o :: rest, a, n => (∀ L w, I L vs w → L n = false → (∀ j, j < n → anc c n j = true → L j = true) → wpList P ops (fun e b w' => e = .normal ∧ ∃ v, b = a.put o.dst v ∧ I (fun k => if k = n then true else L k) (fun k => if k = n then v else vs k) w') [o] a w) ∧ wpI P ops c I tail Q vs rest (a.put o.dst (vs n)) (n + 1)
theorem wpI_each {I : (Nat → Bool) → (Nat → Value) → World → Prop} {c : Array Nat} {a0 : Act} {tail : List Oper} {Q : Exit → Act → World → Prop} {vs : Nat → Value} : ∀ (l : List Oper) (a : Act) (n : Nat), (∀ i o, l[i]? = some o → ops[n + i]? = some o) →
    wpI P ops c I tail Q vs l a n → a = act ops a0 vs (fun _ => true) n →
    (∀ i o, l[i]? = some o → ∀ L w, I L vs w → L (n + i) = false → (∀ j, j < n + i → anc c (n + i) j = true → L j = true) → GivesR P ops o (act ops a0 vs (fun _ => true) (n + i)) (fun v w' => I (fun k => if k = n + i then true else L k) (fun k => if k = n + i then v else vs k) w') w) ∧
      ∀ L w, (∀ j, j < n + l.length → L j = true) → I L vs w → wpList P ops Q tail (act ops a0 vs (fun _ => true) (n + l.length)) w := by
  intro l
  induction l with
  | nil =>
    intro a n _ h ha
    refine ⟨fun i o hi => (by simp at hi), fun L w hL hI => ?_⟩
    have := h L w (by simpa using hL) hI
    simpa [← ha] using this
  | cons o rest ih =>
    intro a n hl h ha
    obtain ⟨hg, hk⟩ := h
    have ho : ops[n]? = some o := hl 0 o rfl
    have e2 : a.put o.dst (vs n) = act ops a0 vs (fun _ => true) (n + 1) := by
      rw [act_succ, ← ha]; simp [dstOf, ho]
    have next := ih _ (n + 1) (fun i o hi => by have := hl (i + 1) o (by simpa using hi); rwa [show n + (i + 1) = n + 1 + i from by omega] at this) hk e2
    refine ⟨fun i o' hi L w hI hL hj => ?_, fun L w hL hI => ?_⟩
    · cases i with
      | zero =>
        simp at hi; subst hi
        rw [Nat.add_zero, ← ha]
        exact hg L w hI hL hj
      | succ i =>
        rw [show n + (i + 1) = n + 1 + i from by omega] at hL hj ⊢
        exact next.1 i o' (by simpa using hi) L w hI hL hj
    · rw [List.length_cons, show n + (rest.length + 1) = n + 1 + rest.length from by omega] at hL ⊢
      exact next.2 L w hL hI
end XReg
open XReg in
/-- A REGION THAT DRAWS ITS ORDER, under an invariant: which operations have come, what they handed back, and the world. -/
theorem wp_region_i {P : Program} {id : Nat} {l : List Oper} {Q : Exit → Act → World → Prop} {a0 : Act} {W0 : World} (m : Nat) (I : (Nat → Bool) → (Nat → Value) → World → Prop) (hm : P.follows .mixedOrders = true) (hc : chk l.toArray m = true)
    (hd : (l.all fun o => o.dst.all fun d => decide (d < a0.tmps.size)) = true)
    (h : ∀ vs, wpI P l.toArray (Region.before l.toArray) I (l.drop m) Q vs (l.take m) a0 0) (h0 : ∀ vs, I (fun _ => false) vs W0.drew) : (Code.region id l.toArray true).wp P Q a0 W0 := by
  have H := ok_of_chk hc
  have hle := H.le
  have hml : (l.take m).length = m := by rw [List.length_take]; simp at hle; omega
  have hv := fun vs => wpI_each (ops := l.toArray) (a0 := a0) (l.take m) a0 0 (fun i o hi => by
    rw [List.getElem?_take] at hi
    split at hi
    · simpa using hi
    · cases hi) (h vs) rfl
  simp only [Nat.zero_add, hml] at hv
  refine wp_region_any hm ?_
  have hf : ∀ j, (Array.replicate l.toArray.size false).getD j false = false := fun j => by simp [Array.getElem?_replicate]; split <;> rfl
  have ha : a0 = act l.toArray a0 (fun _ => undef) (fun j => (Array.replicate l.toArray.size false).getD j false) l.toArray.size := by
    have : ∀ k, act l.toArray a0 (fun _ => undef) (fun j => (Array.replicate l.toArray.size false).getD j false) k = a0 := by
      intro k
      induction k with
      | zero => rfl
      | succ k ih => rw [act_succ, if_neg (by rw [hf]; simp), ih]
    exact (this _).symm
  have hrep : ∀ k, unl (Array.replicate l.toArray.size false) k = k := by
    intro k
    induction k with
    | zero => rfl
    | succ k ih => unfold unl; rw [ih, if_neg (by rw [hf]; simp)]
  rw [ha]
  refine phase1i H (a0 := a0) (I := I) ?_ ?_ ?_ _ _ (fun _ => undef) _ (by simp) ?_ (fun i _ => hf i) (hrep _) ?_
  · intro i o ho d hdd
    have := List.all_eq_true.1 hd o (List.mem_of_getElem? (i := i) (by simpa using ho))
    rw [hdd] at this
    simpa using this
  · intro i o hi ho L vs w hI hL hj
    exact (hv vs).1 i o (by rw [List.getElem?_take, if_pos hi]; simpa using ho) L w hI hL hj
  · intro L vs w' hL hI
    have := (hv vs).2 L w' hL hI
    simpa using this
  · intro i o _ hl
    rw [hf] at hl; cases hl
  · rw [show (fun j => (Array.replicate l.toArray.size false).getD j false) = fun _ => false from funext hf]
    exact h0 _
theorem heap_ext {w w' : World} {g : Nat} {o : Obj} (h : w.heap[g]? = some o) (hx : Ext w w') : w'.heap[g]? = some o := by
  obtain ⟨X, rfl⟩ := hx
  rw [World.heap_plus w X g (Array.getElem?_eq_some_iff.1 h).1]; exact h
theorem heap_chg {S : List Nat} {w w' : World} {g : Nat} {o : Obj} (h : w.heap[g]? = some o) (hx : Chg S w w') (hg : g ∉ S) : w'.heap[g]? = some o := by
  rw [hx.block g (Array.getElem?_eq_some_iff.1 h).1 hg]; exact h
end Go
