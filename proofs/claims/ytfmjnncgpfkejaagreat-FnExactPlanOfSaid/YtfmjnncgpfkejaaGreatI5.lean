/- A region that draws its order, whose operations turn the world by a relation of the user's choice. -/
import Derived.Test.YtfmjnncgpfkejaaGreatBG
set_option maxRecDepth 100000
set_option linter.unusedVariables false
namespace Go
open Go.RowKit
namespace XReg
open Go.Region (binds ready)
variable {P : Program} {ops : Array Oper} {m : Nat}
def GivesL (P : Program) (ops : Array Oper) (R : World → World → Prop) (o : Oper) (a : Act) (K : Kind) (w : World) : Prop :=
  wpList P ops (fun e b w' => e = .normal ∧ ∃ v, b = a.put o.dst v ∧ R w w' ∧ K v w') [o] a w
def wpL (P : Program) (ops : Array Oper) (c : Array Nat) (R : World → World → Prop) (W0 : World) (tail : List Oper) (Q : Exit → Act → World → Prop) : List Kind → List Oper → Act → List (Kind × Value) → Prop
  | _, [], a, done => ∀ w', R W0 w' → (∀ (j : Nat) (p : Kind × Value), done[j]? = some p → p.1 p.2 w') → wpList P ops Q tail a w'
  | [], _ :: _, _, _ => False
  | K :: Ks, o :: rest, a, done => (∀ w, R W0 w → Facts c done.length done w → GivesL P ops R o a K w) ∧ ∀ v w, K v w → wpL P ops c R W0 tail Q Ks rest (a.put o.dst v) (done ++ [(K, v)])

theorem gives_opL {R : World → World → Prop} {w : World} {o : Oper} {a b : Act} {V : Kind} {Q : Exit → Act → World → Prop} {K : Act → World → Prop} {i : Nat} (hi : ops[i]? = some o)
    (h1 : GivesL P ops R o a V w) (hs : ∀ cs b, o.op ≠ .select cs b) (he : ∀ x ∈ o.op.operands, b.eval x = a.eval x)
    (hwant : Region.wanted o (yielded ops b.tmps) = Region.wanted o (yielded ops a.tmps)) (hdst : ∀ d, o.dst = some d → d < a.tmps.size)
    (hK : ∀ v w', R w w' → V v w' → K (b.put o.dst v) w') : wpOp P ops Q i K b w := by
  unfold wpOp
  simp only [hi]
  unfold GivesL wpList at h1
  rw [hwant]
  have same : ∀ u v, a.put o.dst u = a.put o.dst v → b.put o.dst u = b.put o.dst v := fun u v hu => by
    cases hd : o.dst with
    | none => rfl
    | some d =>
      rw [hd] at hu
      have h2 := congrArg (fun x : Act => x.tmps[d]?) hu
      have hlt := hdst d hd
      simp [Act.put, hlt] at h2
      rw [h2]
  split
  · rename_i hwt
    rw [if_pos hwt] at h1
    rcases h1 with h1 | ⟨_, a', w', h1, _⟩
    · refine .inl (wp_any_q (Q := fun e c w' => e = .normal ∧ ∃ v, c = a.put o.dst v ∧ R w w' ∧ V v w') (fun c a w hc => by cases hc.1) (fun ⟨_, _, hc⟩ => by cases hc.1) ?_)
      unfold Oper.wp at *
      rw [execOp_congr o hs he]
      generalize (execOp a.eval o).run P w = r at *
      cases r with
      | ok n w' =>
        cases n <;> simp only [Oper.upon, wpList] at h1 ⊢
        case value u => obtain ⟨_, v, h1, h2, h3⟩ := h1; rw [same u v h1]; exact hK _ _ h2 h3
        case skip => obtain ⟨_, v, h1, h2, h3⟩ := h1; rw [same undef v h1]; exact hK _ _ h2 h3
        case defer d =>
          obtain ⟨_, v, h1, h2, h3⟩ := h1
          have := congrArg (fun x : Act => x.defers) h1
          cases hd : o.dst <;> simp [hd, Act.put] at this
        case enter f args =>
          refine Calls.mono h1 fun e w'' he => ?_
          cases e with
          | returned u => simp only at he ⊢; obtain ⟨_, v, h1, h2, h3⟩ := he; rw [same u v h1]; exact hK _ _ h2 h3
          | panicked c => exact absurd he.1 (by simp)
          | outgrown => obtain ⟨_, _, he, _⟩ := he; cases he
        case row row args => exact Rows.mono h1 fun u w'' he => by obtain ⟨_, v, h1, h2, h3⟩ := he; rw [same u v h1]; exact hK _ _ h2 h3
      | halt x w' =>
        cases x <;> simp only [Oper.upon] at h1 ⊢
        exact absurd h1.1 (by simp)
    · cases h1
  · rename_i hwt
    rw [if_neg hwt] at h1
    simp only [wpList] at h1
    obtain ⟨_, v, h1, h2, h3⟩ := h1
    rw [same undef v h1]
    exact hK _ _ h2 h3

theorem phase1l {R : World → World → Prop} (htr : ∀ a b c, R a b → R b c → R a c) {c : Array Nat} (H : Ok ops c m) {Q : Exit → Act → World → Prop} {W0 : World} {a0 : Act} {K : Nat → Kind}
    (hd : ∀ (i : Nat) (o : Oper), ops[i]? = some o → ∀ d, o.dst = some d → d < a0.tmps.size)
    (hst : ∀ j, j < m → ∀ v w w', R w w' → K j v w → K j v w')
    (each : ∀ (i : Nat) (o : Oper), i < m → ops[i]? = some o → ∀ (vs : Nat → Value) w, R W0 w → (∀ j, j < m → ∃ w, K j (vs j) w) → (∀ j, j < i → anc c i j = true → K j (vs j) w) → GivesL P ops R o (act ops a0 vs (fun _ => true) i) (K i) w)
    (fin : ∀ (vs : Nat → Value) w', R W0 w' → (∀ j, j < m → K j (vs j) w') → wpList P ops Q (ops.toList.drop m) (act ops a0 vs (fun _ => true) m) w') :
    ∀ (fuel : Nat) (listed : Array Bool) (vs : Nat → Value) (w : World), listed.size = ops.size → Closed ops listed → (∀ i, m ≤ i → listed.getD i false = false) → unl listed ops.size = fuel → R W0 w → (∀ j, j < m → ∃ w, K j (vs j) w) → (∀ j, j < m → listed.getD j false = true → K j (vs j) w) →
      wpAny P .any ops Q fuel listed (act ops a0 vs (fun j => listed.getD j false) ops.size) w := by
  intro fuel
  induction fuel with
  | zero =>
    intro listed vs w hs hc hm hu hw hin hk
    have hall := unl_zero ops.size hu
    have hms : m = ops.size := by
      have := H.le
      rcases Nat.lt_or_ge m ops.size with h1 | h1
      · have := hall m h1; rw [hm m (Nat.le_refl _)] at this; cases this
      · omega
    have hl : ∀ j, listed.getD j false = true ↔ j < m := fun j => ⟨fun h => (by
      rcases Nat.lt_or_ge j m with h1 | h1
      · exact h1
      · rw [hm j h1] at h; cases h), fun h => hall j (by omega)⟩
    have hact : act ops a0 vs (fun j => listed.getD j false) ops.size = act ops a0 vs (fun _ => true) m := by
      rw [← hms]
      have : ∀ k, k ≤ m → act ops a0 vs (fun j => listed.getD j false) k = act ops a0 vs (fun _ => true) k := by
        intro k
        induction k with
        | zero => intro _; rfl
        | succ k ih => intro hk; rw [act_succ, act_succ, ih (by omega)]; simp only [(hl k).2 (by omega), if_true]
      exact this m (Nat.le_refl _)
    rw [hact]
    exact phase2 H 0 m listed _ w (by omega) (Nat.le_refl _) hl hs hc (fin vs w hw fun j hj => hk j hj ((hl j).2 hj))
  | succ fuel ih =>
    intro listed vs w hs hc hm hu hw hin hk
    by_cases hpre : ∀ j, j < m → listed.getD j false = true
    · have hl : ∀ j, listed.getD j false = true ↔ j < m := fun j => ⟨fun h => (by
        rcases Nat.lt_or_ge j m with h1 | h1
        · exact h1
        · rw [hm j h1] at h; cases h), hpre j⟩
      have hact : ∀ k, act ops a0 vs (fun j => listed.getD j false) k = act ops a0 vs (fun _ => true) (min k m) := by
        intro k
        induction k with
        | zero => simp [act]
        | succ k ih =>
          by_cases e : k < m
          · rw [show min (k + 1) m = (min k m) + 1 from by omega]
            rw [act_succ, act_succ, ih]
            simp only [(hl k).2 e, if_true]
            rw [show min k m = k from by omega]
          · rw [show min (k + 1) m = min k m from by omega, ← ih]
            rw [act_succ, if_neg (by rw [hl]; exact e)]
      rw [hact, show min ops.size m = m from by have := H.le; omega]
      have hfu : m + (fuel + 1) = ops.size := by
        have := unl_tail hl ops.size H.le
        have := H.le
        omega
      exact phase2 H (fuel + 1) m listed _ w hfu (Nat.le_refl _) hl hs hc (fin vs w hw fun j hj => hk j hj ((hl j).2 hj))
    · have hex : ∃ j, j < m ∧ listed.getD j false = false ∧ ∀ i, i < j → listed.getD i false = true := by
        have : ∀ n, (∀ j, j < n → listed.getD j false = true) ∨ ∃ j, j < n ∧ listed.getD j false = false ∧ ∀ i, i < j → listed.getD i false = true := by
          intro n
          induction n with
          | zero => exact .inl fun j h => by omega
          | succ n ih =>
            rcases ih with h | ⟨j, h1, h2, h3⟩
            · cases e : listed.getD n false
              · exact .inr ⟨n, by omega, e, h⟩
              · exact .inl fun j hj => by
                  by_cases e' : j = n
                  · rw [e']; exact e
                  · exact h j (by omega)
            · exact .inr ⟨j, by omega, h2, h3⟩
        exact (this m).resolve_left hpre
      obtain ⟨j, hjm, hj0, hjl⟩ := hex
      have hle := H.le
      have hoj : ops[j]? = some ops[j] := Array.getElem?_eq_getElem (by omega)
      have hjr : j ∈ ready .any ops listed := of_ready hs hoj hj0 fun e he hb => hjl _ (H.back j _ hoj e he hb)
      refine ⟨fun e => (by rw [e] at hjr; cases hjr), fun i hi => ?_⟩
      obtain ⟨o, ho, hi0, ha⟩ := ready_of hs hi
      have his : i < ops.size := (Array.getElem?_eq_some_iff.1 ho).1
      have him : i < m := by
        rcases Nat.lt_or_ge i m with h1 | h1
        · exact h1
        · have := anc_listed H hc i o j ho (.inr ha) (by omega) (H.last i o j ho h1 (by omega))
          rw [hj0] at this; cases this
      have h1 : ∀ k, k < i → anc c i k = true → listed.getD k false = true := fun k hk hak => anc_listed H hc i o k ho (.inr ha) (by omega) hak
      have h2 : ∀ k, i < k → anc c k i = true → listed.getD k false = false := fun k hk hak => by
        cases e : listed.getD k false
        · rfl
        · rcases Nat.lt_or_ge k ops.size with h3 | h3
          · have := anc_listed H hc k ops[k] i (Array.getElem?_eq_getElem h3) (.inl e) his hak
            rw [hi0] at this; cases this
          · simp [Array.getElem?_eq_none (show listed.size ≤ k by omega)] at e
      have agree : ∀ t ∈ o.looksAt ops, (act ops a0 vs (fun j => listed.getD j false) ops.size).tmps[t]? = (act ops a0 vs (fun _ => true) i).tmps[t]? := fun t ht => by
        have := act_agree (a0 := a0) (vs := vs) H ho (L := fun j => listed.getD j false) hi0 h1 h2 ht ops.size (Nat.le_refl _)
        rwa [show min ops.size i = i from by omega] at this
      refine gives_opL ho (each i o him ho vs w hw hin fun q hq hqa => hk q (by omega) (h1 q hq hqa)) (H.nosel i o ho) (eval_of_agree agree) (wanted_of_agree agree) (fun d hdd => by rw [act_size]; exact hd i o ho d hdd) fun v w' hw' hv => ?_
      have hcg : act ops a0 vs (fun j => listed.getD j false) ops.size = act ops a0 (fun q => if q = i then v else vs q) (fun j => listed.getD j false) ops.size :=
        act_congrL ops.size fun q _ hlq => by
          by_cases e : q = i
          · subst e; rw [hi0] at hlq; cases hlq
          · rw [if_neg e]
      rw [hcg]
      have hset := act_set (a0 := a0) (vs := fun q => if q = i then v else vs q) H ho (L := fun j => listed.getD j false) hi0 h2 ops.size (Nat.le_refl _) his
      simp only [if_true] at hset
      rw [hset]
      have hfun : (fun k => if k = i then true else listed.getD k false) = fun k => (listed.setIfInBounds i true).getD k false := funext fun k => (getD_set (by omega) k).symm
      rw [hfun]
      refine ih (listed.setIfInBounds i true) _ w' (by simpa using hs) ?_ ?_ ?_ (htr _ _ _ hw hw') ?_ ?_
      · intro k o' hk hlk e he hb
        rw [getD_set (by omega)] at hlk ⊢
        split
        · rfl
        · by_cases e' : k = i
          · subst e'
            rw [ho] at hk; cases hk
            exact ha e he hb
          · rw [if_neg e'] at hlk; exact hc k o' hk hlk e he hb
      · intro k hk
        rw [getD_set (by omega), if_neg (by omega)]; exact hm k hk
      · have := unl_set (listed := listed) (i := i) (by omega) hi0 ops.size his
        omega
      · intro q hq
        by_cases e : q = i
        · subst e; exact ⟨w', by simpa using hv⟩
        · simp only [if_neg e]; exact hin q hq
      · intro q hq hlq
        by_cases e : q = i
        · subst e; simpa using hv
        · rw [getD_set (by omega), if_neg e] at hlq
          simp only [if_neg e]; exact hst q hq _ _ _ hw' (hk q hq hlq)

theorem wpL_vals {R : World → World → Prop} {c : Array Nat} {a0 : Act} {W0 : World} {tail : List Oper} {Q : Exit → Act → World → Prop} (vs : Nat → Value) (K : Nat → Kind) : ∀ (l : List Oper) (Ks : List Kind) (a : Act) (done : List (Kind × Value)), (∀ i o, l[i]? = some o → ops[done.length + i]? = some o) →
    (∀ j, j < done.length → done[j]? = some (K j, vs j)) → (∀ j k, Ks[j]? = some k → k = K (done.length + j)) → (∀ j, j < l.length → ∃ w, K (done.length + j) (vs (done.length + j)) w) →
    wpL P ops c R W0 tail Q Ks l a done → a = act ops a0 vs (fun _ => true) done.length →
    (∀ i o, l[i]? = some o → ∀ w, R W0 w → (∀ j, j < done.length + i → anc c (done.length + i) j = true → K j (vs j) w) → GivesL P ops R o (act ops a0 vs (fun _ => true) (done.length + i)) (K (done.length + i)) w) ∧
      ∀ w', R W0 w' → (∀ j, j < done.length + l.length → K j (vs j) w') → wpList P ops Q tail (act ops a0 vs (fun _ => true) (done.length + l.length)) w' := by
  intro l
  induction l with
  | nil =>
    intro Ks a done _ hdone _ _ h ha
    refine ⟨fun i o hi => (by simp at hi), fun w' hw' hj => ?_⟩
    have h' : ∀ w', R W0 w' → (∀ (j : Nat) (p : Kind × Value), done[j]? = some p → p.1 p.2 w') → wpList P ops Q tail a w' := by cases Ks <;> exact h
    have := h' w' hw' fun j p hp => by
      have hjl : j < done.length := (List.getElem?_eq_some_iff.1 hp).1
      rw [hdone j hjl] at hp
      cases hp
      exact hj j (by simpa using hjl)
    simpa [← ha] using this
  | cons o rest ih =>
    intro Ks a done hl hdone hKs hin h ha
    cases Ks with
    | nil => exact absurd h (by simp [wpL])
    | cons K0 Ks =>
      obtain ⟨hg, hk⟩ := h
      have ho : ops[done.length]? = some o := hl 0 o rfl
      obtain rfl : K0 = K done.length := hKs 0 K0 rfl
      have e2 : a.put o.dst (vs done.length) = act ops a0 vs (fun _ => true) (done.length + 1) := by
        rw [act_succ, ← ha]; simp [dstOf, ho]
      have hlen : (done ++ [(K done.length, vs done.length)]).length = done.length + 1 := by simp
      obtain ⟨w1, hw1⟩ := hin 0 (by simp)
      have next := ih Ks _ (done ++ [(K done.length, vs done.length)])
        (fun i o hi => by have := hl (i + 1) o (by simpa using hi); rwa [show done.length + (i + 1) = done.length + 1 + i from by omega, ← hlen] at this)
        (fun j hj => by
          rw [hlen] at hj
          by_cases e : j < done.length
          · rw [List.getElem?_append_left e]; exact hdone j e
          · obtain rfl : j = done.length := by omega
            simp)
        (fun j k hj => by rw [hlen, show done.length + 1 + j = done.length + (j + 1) from by omega]; exact hKs (j + 1) k (by simpa using hj))
        (fun j hj => by rw [hlen, show done.length + 1 + j = done.length + (j + 1) from by omega]; exact hin (j + 1) (by simpa using hj))
        (hk (vs done.length) w1 (by simpa using hw1)) (by rw [hlen]; exact e2)
      rw [hlen] at next
      refine ⟨fun i o' hi w hw hj => ?_, fun w' hw' hj => ?_⟩
      · cases i with
        | zero =>
          simp at hi; subst hi
          rw [Nat.add_zero, ← ha]
          refine hg w hw fun j p hp hpa => ?_
          have hjl : j < done.length := (List.getElem?_eq_some_iff.1 hp).1
          rw [hdone j hjl] at hp
          cases hp
          exact hj j (by simpa using hjl) (by simpa using hpa)
        | succ i =>
          have := next.1 i o' (by simpa using hi) w hw fun j hji hja => by
            rw [show done.length + 1 + i = done.length + (i + 1) from by omega] at hji hja
            exact hj j hji hja
          rwa [show done.length + 1 + i = done.length + (i + 1) from by omega] at this
      · rw [List.length_cons, show done.length + (rest.length + 1) = done.length + 1 + rest.length from by omega]
        exact next.2 w' hw' fun j hjl => hj j (by rw [List.length_cons]; omega)
/-- Kinds that stay, and of which there is always a value. -/
structure GoodKL (R : World → World → Prop) (K : Kind) : Prop where
  st : ∀ v w w', R w w' → K v w → K v w'
  inh : ∃ v w, K v w
theorem GoodKL.same (R : World → World → Prop) (v : Value) (w : World) : GoodKL R (fun u _ => u = v) := ⟨fun _ _ _ _ h => h, v, w, rfl⟩
def AllGoodL (R : World → World → Prop) : List Kind → Prop
  | [] => True
  | K :: Ks => GoodKL R K ∧ AllGoodL R Ks
theorem AllGoodL.mem {R : World → World → Prop} : ∀ {Ks : List Kind}, AllGoodL R Ks → ∀ K ∈ Ks, GoodKL R K
  | [], _, K, h => by cases h
  | K' :: Ks, ⟨h1, h2⟩, K, h => by
    rcases List.mem_cons.1 h with rfl | h
    · exact h1
    · exact h2.mem K h
end XReg
open XReg in
/-- A REGION THAT DRAWS ITS ORDER, WALKED IN THE ORDER OF THE TEXT: each of its first m operations hands back some value of a good kind. -/
theorem wp_region_l {R : World → World → Prop} (htr : ∀ a b c, R a b → R b c → R a c) {P : Program} {id : Nat} {l : List Oper} {Q : Exit → Act → World → Prop} {a0 : Act} {W0 : World} (m : Nat) (Ks : List Kind) (hm : P.follows .mixedOrders = true) (hc : chk l.toArray m = true)
    (hd : (l.all fun o => o.dst.all fun d => decide (d < a0.tmps.size)) = true) (hl : Ks.length = m)
    (h : wpL P l.toArray (Region.before l.toArray) R W0 (l.drop m) Q Ks (l.take m) a0 []) (hg : AllGoodL R Ks) (h0 : R W0 W0.drew) : (Code.region id l.toArray true).wp P Q a0 W0 := by
  have H := ok_of_chk hc
  have hmem : ∀ j, j < m → GoodKL R (Ks.getD j (fun _ _ => True)) := fun j hj => by
    rw [List.getD_eq_getElem?_getD, List.getElem?_eq_getElem (by omega)]
    exact hg.mem _ (List.getElem_mem _)
  have hle := H.le
  have hml : (l.take m).length = m := by rw [List.length_take]; simp at hle; omega
  have hv := fun vs hin => wpL_vals (R := R) (ops := l.toArray) (a0 := a0) vs (fun j => Ks.getD j (fun _ _ => True)) (l.take m) Ks a0 [] (fun i o hi => by
    rw [List.getElem?_take] at hi
    split at hi
    · simpa using hi
    · cases hi) (fun j hj => absurd hj (Nat.not_lt_zero _)) (fun j k hk => by simp [List.getD_eq_getElem?_getD, hk]) hin h rfl
  simp only [List.length_nil, Nat.zero_add, hml] at hv
  obtain ⟨vs, hvs⟩ : ∃ vs : Nat → Value, ∀ j, j < m → ∃ w, (Ks.getD j (fun _ _ => True)) (vs j) w :=
    ⟨fun j => Classical.epsilon fun v => ∃ w, (Ks.getD j (fun _ _ => True)) v w, fun j hj => Classical.epsilon_spec (p := fun v => ∃ w, (Ks.getD j (fun _ _ => True)) v w) (hmem j hj).inh⟩
  refine wp_region_any hm ?_
  have ha : a0 = act l.toArray a0 vs (fun j => (Array.replicate l.toArray.size false).getD j false) l.toArray.size := by
    have : ∀ k, act l.toArray a0 vs (fun j => (Array.replicate l.toArray.size false).getD j false) k = a0 := by
      intro k
      induction k with
      | zero => rfl
      | succ k ih =>
        rw [act_succ]
        have : (Array.replicate l.toArray.size false).getD k false = false := by
          simp [Array.getElem?_replicate]; split <;> rfl
        rw [if_neg (by rw [this]; simp), ih]
    exact (this _).symm
  have hf : ∀ j, (Array.replicate l.toArray.size false).getD j false = false := fun j => by simp [Array.getElem?_replicate]; split <;> rfl
  have hrep : ∀ k, unl (Array.replicate l.toArray.size false) k = k := by
    intro k
    induction k with
    | zero => rfl
    | succ k ih => unfold unl; rw [ih, if_neg (by rw [hf]; simp)]
  rw [ha]
  refine phase1l htr H (W0 := W0) (a0 := a0) (K := fun j => Ks.getD j (fun _ _ => True)) ?_ ?_ ?_ ?_ _ _ vs _ (by simp) ?_ (fun i _ => hf i) (hrep _) h0 hvs ?_
  · intro i o ho d hdd
    have := List.all_eq_true.1 hd o (List.mem_of_getElem? (i := i) (by simpa using ho))
    rw [hdd] at this
    simpa using this
  · intro j hj v w w' hx hk
    exact (hmem j hj).st v w w' hx hk
  · intro i o hi ho vs w hw hin hk
    exact (hv vs hin).1 i o (by rw [List.getElem?_take, if_pos hi]; simpa using ho) w hw hk
  · intro vs w' hw' hk
    have := (hv vs fun j hj => ⟨w', hk j hj⟩).2 w' hw' hk
    simpa using this
  · intro i o _ hl
    rw [hf] at hl; cases hl
  · intro j hj hl
    rw [hf] at hl; cases hl
open XReg in
/-- One operation that hands back a settled value: what it leaves is found by the walk. -/
theorem LReg.step {R : World → World → Prop} {P : Program} {ops : Array Oper} {c : Array Nat} {W0 : World} {tail rest : List Oper} {Q : Exit → Act → World → Prop} {o : Oper} {a a' : Act} {Ks : List Kind} {F : List (Kind × Value)}
    (h : ∀ w, R W0 w → Facts c F.length F w → wpList P ops (fun e b w' => e = .normal ∧ b = a' ∧ R w w') [o] a w) (hv : a.put o.dst (o.dst.elim undef fun d => a'.tmps.getD d undef) = a')
    (k : wpL P ops c R W0 tail Q Ks rest a' (F ++ [(fun u _ => u = o.dst.elim undef fun d => a'.tmps.getD d undef, o.dst.elim undef fun d => a'.tmps.getD d undef)])) :
    wpL P ops c R W0 tail Q ((fun u _ => u = o.dst.elim undef fun d => a'.tmps.getD d undef) :: Ks) (o :: rest) a F := by
  refine ⟨fun w hw hF => ?_, ?_⟩
  · unfold GivesL
    exact one_mono (fun b w' ⟨hb, hx⟩ => ⟨_, by rw [hb, hv], hx, rfl⟩) (h w hw hF)
  · rintro v w rfl
    rw [hv]
    exact k
open XReg in
/-- One operation that hands back a value that is named. -/
theorem LReg.val {R : World → World → Prop} {P : Program} {ops : Array Oper} {c : Array Nat} {W0 : World} {tail rest : List Oper} {Q : Exit → Act → World → Prop} {o : Oper} {a a' : Act} {Ks : List Kind} {F : List (Kind × Value)} (v0 : Value)
    (h : ∀ w, R W0 w → Facts c F.length F w → wpList P ops (fun e b w' => e = .normal ∧ b = a' ∧ R w w') [o] a w) (hv : a.put o.dst v0 = a') (k : wpL P ops c R W0 tail Q Ks rest a' (F ++ [(fun u _ => u = v0, v0)])) :
    wpL P ops c R W0 tail Q ((fun u _ => u = v0) :: Ks) (o :: rest) a F := by
  refine ⟨fun w hw hF => ?_, ?_⟩
  · unfold GivesL
    exact one_mono (fun b w' ⟨hb, hx⟩ => ⟨_, by rw [hb, hv], hx, rfl⟩) (h w hw hF)
  · rintro v w rfl
    rw [hv]
    exact k
open XReg in
/-- One operation that hands back a value of a kind. -/
theorem LReg.kind {R : World → World → Prop} {P : Program} {ops : Array Oper} {c : Array Nat} {W0 : World} {tail rest : List Oper} {Q : Exit → Act → World → Prop} {o : Oper} {a : Act} {K : Kind} {Ks : List Kind} {F : List (Kind × Value)}
    (h : ∀ w, R W0 w → Facts c F.length F w → wpList P ops (fun e b w' => e = .normal ∧ ∃ v, b = a.put o.dst v ∧ R w w' ∧ K v w') [o] a w)
    (k : ∀ v w, K v w → wpL P ops c R W0 tail Q Ks rest (a.put o.dst v) (F ++ [(K, v)])) :
    wpL P ops c R W0 tail Q (K :: Ks) (o :: rest) a F := ⟨h, k⟩
open XReg in
theorem LReg.done {R : World → World → Prop} {P : Program} {ops : Array Oper} {c : Array Nat} {W0 : World} {tail : List Oper} {Q : Exit → Act → World → Prop} {a : Act} {Ks : List Kind} {F : List (Kind × Value)} (h : ∀ w', R W0 w' → (∀ (j : Nat) (p : Kind × Value), F[j]? = some p → p.1 p.2 w') → wpList P ops Q tail a w') : wpL P ops c R W0 tail Q Ks [] a F := by
  cases Ks <;> exact h
open XReg in
theorem LReg.doneN {R : World → World → Prop} {P : Program} {ops : Array Oper} {c : Array Nat} {W0 : World} {Q : Exit → Act → World → Prop} {a : Act} {Ks : List Kind} {F : List (Kind × Value)} (h : ∀ w', R W0 w' → (∀ (j : Nat) (p : Kind × Value), F[j]? = some p → p.1 p.2 w') → Q .normal a w') : wpL P ops c R W0 [] Q Ks [] a F :=
  LReg.done h
end Go
