/- A region that draws its order, whose operations hand back the same values in whatever order they come, each leaving the world grown at most: it is walked once, in the order of the text. No statement is proved here. -/
import Derived.Test.YtfkjdiaeblcimaaK
import Derived.Orders
set_option maxRecDepth 100000
namespace Go
namespace XReg
open Go.Region (binds ready)

def dstOf (ops : Array Oper) (j : Nat) : Option Tmp := (ops[j]?).bind (·.dst)
def anc (c : Array Nat) (i j : Nat) : Bool := (c.getD i 0).testBit j
def noSel (o : Oper) : Bool := match o.op with | .select .. => false | _ => true
/-- Does operation i look at, or write, the slot that j writes? -/
def meets (ops : Array Oper) (o : Oper) (j : Nat) : Bool :=
  match dstOf ops j with
  | none => false
  | some t => (o.looksAt ops).contains t || o.dst == some t
def chkOne (ops : Array Oper) (c : Array Nat) (m i : Nat) (o : Oper) : Bool :=
  noSel o && o.after.all (fun e => !binds .any e || decide (e.on < i)) &&
  (List.range ops.size).all fun j =>
    (!anc c i j || o.after.any (fun e => binds .any e && decide (e.on < i) && (e.on == j || anc c e.on j))) &&
    (j == i || ((!meets ops o j || (if j < i then anc c i j else anc c j i)) && (!(decide (m ≤ i) && decide (j < i)) || anc c i j)))
def chk (ops : Array Oper) (m : Nat) : Bool :=
  decide (m ≤ ops.size) && (List.range ops.size).all fun i => match ops[i]? with
    | some o => chkOne ops (Region.before ops) m i o
    | none => false

section
variable {ops : Array Oper} {m : Nat}
structure Ok (ops : Array Oper) (c : Array Nat) (m : Nat) : Prop where
  le : m ≤ ops.size
  nosel : ∀ (i : Nat) (o : Oper), ops[i]? = some o → ∀ cs b, o.op ≠ .select cs b
  back : ∀ (i : Nat) (o : Oper), ops[i]? = some o → ∀ e ∈ o.after, binds .any e = true → e.on < i
  cert : ∀ (i : Nat) (o : Oper) (j : Nat), ops[i]? = some o → j < ops.size → anc c i j = true → ∃ e ∈ o.after, binds .any e = true ∧ e.on < i ∧ (e.on = j ∨ anc c e.on j = true)
  meet : ∀ (i : Nat) (o : Oper) (j : Nat), ops[i]? = some o → j < ops.size → j ≠ i → meets ops o j = true → (j < i → anc c i j = true) ∧ (i < j → anc c j i = true)
  last : ∀ (i : Nat) (o : Oper) (j : Nat), ops[i]? = some o → m ≤ i → j < i → anc c i j = true

theorem ok_of_chk (h : chk ops m = true) : Ok ops (Region.before ops) m := by
  unfold chk at h
  rw [Bool.and_eq_true, decide_eq_true_eq, List.all_eq_true] at h
  obtain ⟨hle, h⟩ := h
  have one : ∀ i o, ops[i]? = some o → chkOne ops (Region.before ops) m i o = true := fun i o ho => by
    have hi : i < ops.size := (Array.getElem?_eq_some_iff.1 ho).1
    have := h i (List.mem_range.2 hi)
    rw [ho] at this
    exact this
  have parts : ∀ i o, ops[i]? = some o → noSel o = true ∧ (∀ e ∈ o.after, binds .any e = true → e.on < i) ∧ ∀ j, j < ops.size →
      (anc (Region.before ops) i j = true → ∃ e ∈ o.after, binds .any e = true ∧ e.on < i ∧ (e.on = j ∨ anc (Region.before ops) e.on j = true)) ∧
      (j ≠ i → (meets ops o j = true → (if j < i then anc (Region.before ops) i j else anc (Region.before ops) j i) = true) ∧ (m ≤ i → j < i → anc (Region.before ops) i j = true)) := fun i o ho => by
    have h1 := one i o ho
    unfold chkOne at h1
    rw [Bool.and_eq_true, Bool.and_eq_true, List.all_eq_true] at h1
    obtain ⟨⟨h1, h2⟩, h3⟩ := h1
    refine ⟨h1, fun e he hb => ?_, fun j hj => ?_⟩
    · have := Array.all_eq_true_iff_forall_mem.1 h2 e he
      simpa [hb] using this
    · have h4 := h3 j (List.mem_range.2 hj)
      rw [Bool.and_eq_true] at h4
      obtain ⟨h4, h5⟩ := h4
      refine ⟨fun ha => ?_, fun hne => ?_⟩
      · rw [ha] at h4
        simp only [Bool.not_true, Bool.false_or] at h4
        obtain ⟨q, hq, h4⟩ := Array.any_eq_true.1 h4
        simp only [Bool.and_eq_true, decide_eq_true_eq, Bool.or_eq_true, beq_iff_eq] at h4
        obtain ⟨⟨h6, h7⟩, h8⟩ := h4
        exact ⟨o.after[q], Array.getElem_mem hq, h6, h7, h8⟩
      · simp only [Bool.or_eq_true, beq_iff_eq, hne, false_or, Bool.and_eq_true] at h5
        obtain ⟨h5, h6⟩ := h5
        refine ⟨fun hm => ?_, fun a b => ?_⟩
        · simpa [hm] using h5
        · simpa [a, b] using h6
  exact ⟨hle, fun i o ho cs b he => by have := (parts i o ho).1; simp [noSel, he] at this, fun i o ho => (parts i o ho).2.1, fun i o j ho hj => ((parts i o ho).2.2 j hj).1,
    fun i o j ho hj hne hm => by
      have := (((parts i o ho).2.2 j hj).2 hne).1 hm
      refine ⟨fun hlt => ?_, fun hlt => ?_⟩
      · rwa [if_pos hlt] at this
      · rwa [if_neg (by omega)] at this,
    fun i o j ho hmi hlt => by
      have hi : i < ops.size := (Array.getElem?_eq_some_iff.1 ho).1
      exact (((parts i o ho).2.2 j (by omega)).2 (by omega)).2 hmi hlt⟩

/-- What has been listed is closed under the edges. -/
def Closed (ops : Array Oper) (listed : Array Bool) : Prop :=
  ∀ i o, ops[i]? = some o → listed.getD i false = true → ∀ e ∈ o.after, binds .any e = true → listed.getD e.on false = true

theorem anc_listed {c : Array Nat} (H : Ok ops c m) {listed : Array Bool} (hc : Closed ops listed) : ∀ (i : Nat) (o : Oper) (j : Nat), ops[i]? = some o →
    (listed.getD i false = true ∨ ∀ e ∈ o.after, binds .any e = true → listed.getD e.on false = true) → j < ops.size → anc c i j = true → listed.getD j false = true := by
  intro i
  induction i using Nat.strongRecOn with
  | _ i ih =>
    intro o j ho hl hj ha
    obtain ⟨e, he, hb, hlt, h⟩ := H.cert i o j ho hj ha
    have hle : listed.getD e.on false = true := by
      rcases hl with hl | hl
      · exact hc i o ho hl e he hb
      · exact hl e he hb
    rcases h with rfl | h
    · exact hle
    · have hi : i < ops.size := (Array.getElem?_eq_some_iff.1 ho).1
      obtain ⟨o', ho'⟩ : ∃ o', ops[e.on]? = some o' := ⟨ops[e.on], Array.getElem?_eq_getElem (by omega)⟩
      exact ih e.on hlt o' j ho' (.inl hle) hj h

variable (ops) (a0 : Act) (vs : Nat → Value)
/-- The frame behind the first k operations, of which those that are listed have come. -/
def act (listed : Nat → Bool) : Nat → Act
  | 0 => a0
  | k + 1 => if listed k then (act listed k).put (dstOf ops k) (vs k) else act listed k
variable {ops a0 vs}
theorem put_size (a : Act) (d : Option Tmp) (v : Value) : (a.put d v).tmps.size = a.tmps.size := by cases d <;> simp [Act.put]
theorem put_get_ne (a : Act) {d : Option Tmp} (v : Value) {t : Tmp} (h : d ≠ some t) : (a.put d v).tmps[t]? = a.tmps[t]? := by
  cases d with
  | none => rfl
  | some d => simp [Act.put, Array.getElem?_setIfInBounds_ne (show d ≠ t from fun e => h (e ▸ rfl))]
theorem put_get_eq {a b : Act} (h : a.tmps.size = b.tmps.size) (v : Value) (t : Tmp) : (a.put (some t) v).tmps[t]? = (b.put (some t) v).tmps[t]? := by
  simp only [Act.put]
  rcases Nat.lt_or_ge t b.tmps.size with ht | ht
  · have ht' : t < a.tmps.size := h ▸ ht
    rw [Array.getElem?_setIfInBounds_self, Array.getElem?_setIfInBounds_self, if_pos ht, if_pos ht']
  · have ht' : a.tmps.size ≤ t := h ▸ ht
    rw [Array.getElem?_setIfInBounds_self, Array.getElem?_setIfInBounds_self, if_neg (Nat.not_lt.2 ht), if_neg (Nat.not_lt.2 ht')]
theorem act_succ (L : Nat → Bool) (k : Nat) : act ops a0 vs L (k + 1) = if L k then (act ops a0 vs L k).put (dstOf ops k) (vs k) else act ops a0 vs L k := rfl
theorem act_size (L : Nat → Bool) : ∀ k, (act ops a0 vs L k).tmps.size = a0.tmps.size
  | 0 => rfl
  | k + 1 => by unfold act; split <;> simp [put_size, act_size L k]
/-- On the slots that operation i looks at, the frame is the one of the text's order. -/
theorem act_agree {c : Array Nat} (H : Ok ops c m) {i : Nat} {o : Oper} (ho : ops[i]? = some o) {L : Nat → Bool} (hi : L i = false)
    (h1 : ∀ j, j < i → anc c i j = true → L j = true) (h2 : ∀ j, i < j → anc c j i = true → L j = false) {t : Tmp} (ht : t ∈ o.looksAt ops) :
    ∀ k, k ≤ ops.size → (act ops a0 vs L k).tmps[t]? = (act ops a0 vs (fun _ => true) (min k i)).tmps[t]? := by
  intro k
  induction k with
  | zero => intro _; simp [act]
  | succ k ih =>
    intro hk
    have ih' := ih (by omega)
    have hmeet : dstOf ops k = some t → k ≠ i → (k < i → anc c i k = true) ∧ (i < k → anc c k i = true) := fun hd hne =>
      H.meet i o k ho (by omega) hne (by unfold meets; rw [hd]; simp [ht])
    rw [act_succ L]
    by_cases hki : k < i
    · rw [show min (k + 1) i = (min k i) + 1 from by omega]
      have hmin : min k i = k := by omega
      rw [act_succ (fun _ => true)]
      rw [hmin] at ih' ⊢
      simp only [if_true]
      by_cases hd : dstOf ops k = some t
      · rw [if_pos (h1 k hki ((hmeet hd (by omega)).1 hki)), hd]
        exact put_get_eq (by rw [act_size, act_size]) _ _
      · rw [put_get_ne _ _ hd]
        split
        · rw [put_get_ne _ _ hd]; exact ih'
        · exact ih'
    · rw [show min (k + 1) i = min k i from by omega]
      by_cases hl : L k = true
      · have hki' : k ≠ i := fun e => by rw [e, hi] at hl; cases hl
        have hd : dstOf ops k ≠ some t := fun hd => by
          have := h2 k (by omega) ((hmeet hd hki').2 (by omega))
          rw [this] at hl; cases hl
        rw [if_pos hl, put_get_ne _ _ hd]; exact ih'
      · rw [if_neg hl]; exact ih'
theorem act_set {c : Array Nat} (H : Ok ops c m) {i : Nat} {o : Oper} (ho : ops[i]? = some o) {L : Nat → Bool} (hi : L i = false)
    (h2 : ∀ j, i < j → anc c j i = true → L j = false) : ∀ k, k ≤ ops.size → i < k →
    (act ops a0 vs L k).put o.dst (vs i) = act ops a0 vs (fun j => if j = i then true else L j) k := by
  have hlow : ∀ k, k ≤ i → act ops a0 vs L k = act ops a0 vs (fun j => if j = i then true else L j) k := by
    intro k
    induction k with
    | zero => intro _; rfl
    | succ k ih =>
      intro hk
      rw [act_succ, act_succ, ih (by omega), if_neg (show k ≠ i by omega)]
  have hdi : dstOf ops i = o.dst := by simp [dstOf, ho]
  intro k
  induction k with
  | zero => intro _ h; omega
  | succ k ih =>
    intro hk hik
    by_cases he : k = i
    · subst he
      rw [act_succ, act_succ]
      simp only [hi, Bool.false_eq_true, if_false, if_true]
      rw [← hlow k (Nat.le_refl _), hdi]
    · have ih' := ih (by omega) (by omega)
      rw [act_succ, act_succ, if_neg he]
      by_cases hl : L k = true
      · rw [if_pos hl, if_pos hl, ← ih']
        refine Act.put_comm _ _ _ fun d hd hd' => ?_
        have hm : meets ops o k = true := by unfold meets; rw [hd]; simp [hd']
        have := h2 k (by omega) ((H.meet i o k ho (by omega) he hm).2 (by omega))
        rw [this] at hl; cases hl
      · rw [if_neg hl, if_neg hl]; exact ih'
theorem eval_of_agree {a b : Act} {o : Oper} (h : ∀ t ∈ o.looksAt ops, a.tmps[t]? = b.tmps[t]?) : ∀ x ∈ o.op.operands, a.eval x = b.eval x := by
  intro x hx
  cases x with
  | tmp t =>
    have := h t (List.mem_append_left _ (List.mem_filterMap.2 ⟨.tmp t, by simpa using hx, rfl⟩))
    simp [Act.eval, this]
  | _ => rfl
theorem wanted_of_agree {a b : Act} {o : Oper} (h : ∀ t ∈ o.looksAt ops, a.tmps[t]? = b.tmps[t]?) : Region.wanted o (yielded ops a.tmps) = Region.wanted o (yielded ops b.tmps) := by
  unfold Region.wanted
  cases hg : o.guard with
  | none => rfl
  | some gw =>
    obtain ⟨g, want⟩ := gw
    have hy : yielded ops a.tmps g = yielded ops b.tmps g := by
      unfold yielded
      cases ht : (ops[g]?).bind (·.dst) with
      | none => rfl
      | some t =>
        have := h t (by simp [Oper.looksAt, hg, ht])
        simp [this]
    simp only [hy]
end

variable {P : Program} {ops : Array Oper}
/-- An operation alone, in whatever grown world: it hands back v and the world grows at most. -/
def Gives (P : Program) (ops : Array Oper) (W0 : World) (o : Oper) (a a' : Act) : Prop :=
  ∀ w, Ext W0 w → wpList P ops (fun e b w' => e = .normal ∧ b = a' ∧ Ext w w') [o] a w
def wpX (P : Program) (ops : Array Oper) (W0 : World) (tail : List Oper) (Q : Exit → Act → World → Prop) : List Oper → Act → Prop
  | [], a => ∀ w', Ext W0 w' → wpList P ops Q tail a w'
  | o :: rest, a => ∃ v, Gives P ops W0 o a (a.put o.dst v) ∧ wpX P ops W0 tail Q rest (a.put o.dst v)

theorem wp_any_q {o : Oper} {a : Act} {w : World} {K : Act → World → Prop} {Q Q' : Exit → Act → World → Prop} (hp : ∀ c a w, ¬ Q (.panic c) a w) (ho : ¬ LetsOut Q)
    (h : o.wp P a w K Q) : o.wp P a w K Q' := by
  unfold Oper.wp at *
  generalize (execOp a.eval o).run P w = r at *
  cases r with
  | ok n w' =>
    cases n <;> simp only [Oper.upon] at h ⊢
    case enter => exact Calls.mono h (fun e w'' he => by
      cases e with
      | returned => exact he
      | panicked => exact absurd he (hp _ _ _)
      | outgrown => exact absurd he ho)
    all_goals exact h
  | halt x w' =>
    cases x <;> simp only [Oper.upon] at h ⊢
    exact absurd h (hp _ _ _)

theorem gives_op {W0 w : World} {o : Oper} {a b : Act} {v : Value} {Q : Exit → Act → World → Prop} {K : Act → World → Prop} {i : Nat} (hi : ops[i]? = some o) (hw : Ext W0 w)
    (h : Gives P ops W0 o a (a.put o.dst v)) (hs : ∀ cs b, o.op ≠ .select cs b) (he : ∀ x ∈ o.op.operands, b.eval x = a.eval x)
    (hwant : Region.wanted o (yielded ops b.tmps) = Region.wanted o (yielded ops a.tmps)) (hdst : ∀ d, o.dst = some d → d < a.tmps.size)
    (hK : ∀ w', Ext w w' → K (b.put o.dst v) w') : wpOp P ops Q i K b w := by
  have h1 := h w hw
  unfold wpOp
  simp only [hi]
  unfold wpList at h1
  rw [hwant]
  have same : ∀ u, a.put o.dst u = a.put o.dst v → b.put o.dst u = b.put o.dst v := fun u hu => by
    cases hd : o.dst with
    | none => rfl
    | some d =>
      rw [hd] at hu
      have h2 := congrArg (fun x : Act => x.tmps[d]?) hu
      have hlt := hdst d hd
      simp [Act.put, hlt] at h2
      rw [h2]
  split
  · rename_i hwt
    rw [if_pos hwt] at h1
    rcases h1 with h1 | ⟨_, a', w', h1, _⟩
    · refine .inl (wp_any_q (Q := fun e c w' => e = .normal ∧ c = a.put o.dst v ∧ Ext w w') (fun c a w hc => by cases hc.1) (fun ⟨_, _, hc⟩ => by cases hc.1) ?_)
      unfold Oper.wp at *
      rw [execOp_congr o hs he]
      generalize (execOp a.eval o).run P w = r at *
      cases r with
      | ok n w' =>
        cases n <;> simp only [Oper.upon, wpList] at h1 ⊢
        case value u => rw [same u h1.2.1]; exact hK _ h1.2.2
        case skip => rw [same undef h1.2.1]; exact hK _ h1.2.2
        case defer d =>
          have := congrArg (fun x : Act => x.defers) h1.2.1
          cases hd : o.dst <;> simp [hd, Act.put] at this
        case enter f args =>
          refine Calls.mono h1 fun e w'' he => ?_
          cases e with
          | returned u => simp only at he ⊢; rw [same u he.2.1]; exact hK _ he.2.2
          | panicked c => exact absurd he.1 (by simp)
          | outgrown => obtain ⟨_, _, he, _⟩ := he; cases he
        case row row args => exact Rows.mono h1 fun u w'' he => by rw [same u he.2.1]; exact hK _ he.2.2
      | halt x w' =>
        cases x <;> simp only [Oper.upon] at h1 ⊢
        exact absurd h1.1 (by simp)
    · cases h1
  · rename_i hwt
    rw [if_neg hwt] at h1
    simp only [wpList] at h1
    rw [same undef h1.2.1]
    exact hK w h1.2.2

def unl (listed : Array Bool) : Nat → Nat
  | 0 => 0
  | k + 1 => unl listed k + if listed.getD k false then 0 else 1
theorem unl_zero {listed : Array Bool} : ∀ k, unl listed k = 0 → ∀ j, j < k → listed.getD j false = true
  | 0, _, j, hj => by omega
  | k + 1, h, j, hj => by
    unfold unl at h
    by_cases hk : listed.getD k false = true
    · by_cases e : j = k
      · rw [e]; exact hk
      · exact unl_zero k (by omega) j (by omega)
    · rw [if_neg hk] at h; omega
theorem unl_tail {listed : Array Bool} {m : Nat} (h : ∀ j, listed.getD j false = true ↔ j < m) : ∀ k, m ≤ k → unl listed k = k - m
  | 0, hk => by simp [unl]
  | k + 1, hk => by
    unfold unl
    by_cases e : m ≤ k
    · rw [unl_tail h k e, if_neg (by rw [h]; omega)]; omega
    · have : m = k + 1 := by omega
      subst this
      have all : ∀ q, q ≤ k → unl listed q = 0 := by
        intro q
        induction q with
        | zero => intro _; rfl
        | succ q ih => intro hq; unfold unl; rw [ih (by omega), if_pos ((h q).2 (by omega))]
      rw [all k (Nat.le_refl _), if_pos ((h k).2 (by omega))]; omega
theorem getD_set {listed : Array Bool} {i : Nat} (hi : i < listed.size) (j : Nat) : (listed.setIfInBounds i true).getD j false = if j = i then true else listed.getD j false := by
  by_cases e : j = i
  · subst e; simp [hi]
  · rw [getD_set_ne false (Ne.symm e), if_neg e]
theorem unl_set {listed : Array Bool} {i : Nat} (hi : i < listed.size) (hf : listed.getD i false = false) : ∀ k, i < k → unl (listed.setIfInBounds i true) k + 1 = unl listed k := by
  have low : ∀ k, k ≤ i → unl (listed.setIfInBounds i true) k = unl listed k := by
    intro k
    induction k with
    | zero => intro _; rfl
    | succ k ih => intro hk; unfold unl; rw [ih (by omega), getD_set hi, if_neg (show k ≠ i by omega)]
  intro k
  induction k with
  | zero => intro h; omega
  | succ k ih =>
    intro hk
    unfold unl
    by_cases e : k = i
    · subst e
      rw [low k (Nat.le_refl _), getD_set hi, if_pos rfl, hf]; simp
    · rw [getD_set hi, if_neg e, ← ih (by omega)]; omega
theorem ready_of {listed : Array Bool} {i : Nat} (hs : listed.size = ops.size) (h : i ∈ ready .any ops listed) : ∃ o, ops[i]? = some o ∧ listed.getD i false = false ∧ ∀ e ∈ o.after, binds .any e = true → listed.getD e.on false = true := by
  obtain ⟨h0, o, ho, ha⟩ := mem_ready.1 h
  have hi : i < ops.size := (Array.getElem?_eq_some_iff.1 ho).1
  refine ⟨o, ho, ?_, ha⟩
  have : i < listed.size := by omega
  simpa [this] using h0
theorem of_ready {listed : Array Bool} {i : Nat} {o : Oper} (hs : listed.size = ops.size) (ho : ops[i]? = some o) (h0 : listed.getD i false = false) (ha : ∀ e ∈ o.after, binds .any e = true → listed.getD e.on false = true) : i ∈ ready .any ops listed := by
  refine mem_ready.2 ⟨?_, o, ho, ha⟩
  have hi : i < ops.size := (Array.getElem?_eq_some_iff.1 ho).1
  have : i < listed.size := by omega
  simpa [this] using h0

theorem phase2 {c : Array Nat} {m : Nat} (H : Ok ops c m) {Q : Exit → Act → World → Prop} : ∀ (r k : Nat) (listed : Array Bool) (a : Act) (w : World), k + r = ops.size → m ≤ k →
    (∀ j, listed.getD j false = true ↔ j < k) → listed.size = ops.size → Closed ops listed → wpList P ops Q (ops.toList.drop k) a w → wpAny P .any ops Q r listed a w := by
  intro r
  induction r with
  | zero =>
    intro k listed a w hk _ hl hs _ h
    refine ⟨?_, ?_⟩
    · rw [List.eq_nil_iff_forall_not_mem]
      intro i hi
      obtain ⟨o, ho, h0, _⟩ := ready_of hs hi
      have : i < ops.size := (Array.getElem?_eq_some_iff.1 ho).1
      rw [(hl i).2 (by omega)] at h0
      cases h0
    · rw [List.drop_eq_nil_of_le (by simp; omega)] at h
      exact h
  | succ r ih =>
    intro k listed a w hk hmk hl hs hc h
    have hklt : k < ops.size := by omega
    have ho : ops[k]? = some ops[k] := Array.getElem?_eq_getElem hklt
    have hk0 : listed.getD k false = false := by
      cases e : listed.getD k false
      · rfl
      · have := (hl k).1 e; omega
    have hready : k ∈ ready .any ops listed := of_ready hs ho hk0 fun e he hb => (hl _).2 (H.back k _ ho e he hb)
    refine ⟨fun e => (by rw [e] at hready; cases hready), fun i hi => ?_⟩
    obtain ⟨o, hoi, hi0, ha⟩ := ready_of hs hi
    have hik : i = k := by
      rcases Nat.lt_trichotomy i k with h1 | h1 | h1
      · rw [(hl i).2 h1] at hi0; cases hi0
      · exact h1
      · have := anc_listed H hc i o k hoi (.inr ha) hklt (H.last i o k hoi (by omega) h1)
        rw [hk0] at this; cases this
    subst hik
    rw [List.drop_eq_getElem_cons (by simpa using hklt)] at h
    unfold wpOp
    simp only [ho]
    have hset : ∀ a w, wpList P ops Q (ops.toList.drop (i + 1)) a w → wpAny P .any ops Q r (listed.setIfInBounds i true) a w := fun a w h =>
      ih (i + 1) _ a w (by omega) (by omega) (fun j => by
        rw [getD_set (by omega)]
        by_cases e : j = i
        · simp [e]
        · rw [if_neg e, hl]; omega) (by simpa using hs) (fun j o hj hlj e he hb => by
          rw [getD_set (by omega)]
          rw [getD_set (by omega)] at hlj
          split
          · rfl
          · by_cases e' : j = i
            · subst e'; exact (hl _).2 (H.back j o hj e he hb)
            · rw [if_neg e'] at hlj; exact hc j o hj hlj e he hb) h
    unfold wpList at h
    have e1 : ops.toList[i] = ops[i] := by simp
    rw [e1] at h
    split
    · rename_i hw
      rw [if_pos hw] at h
      exact h.imp (Oper.wp_mono hset) id
    · rename_i hw
      rw [if_neg hw] at h
      exact hset _ _ h

theorem phase1 {c : Array Nat} {m : Nat} (H : Ok ops c m) {Q : Exit → Act → World → Prop} {W0 : World} {a0 : Act} {vs : Nat → Value}
    (hd : ∀ (i : Nat) (o : Oper), ops[i]? = some o → ∀ d, o.dst = some d → d < a0.tmps.size)
    (each : ∀ (i : Nat) (o : Oper), i < m → ops[i]? = some o → Gives P ops W0 o (act ops a0 vs (fun _ => true) i) ((act ops a0 vs (fun _ => true) i).put o.dst (vs i)))
    (fin : ∀ w', Ext W0 w' → wpList P ops Q (ops.toList.drop m) (act ops a0 vs (fun _ => true) m) w') :
    ∀ (fuel : Nat) (listed : Array Bool) (w : World), listed.size = ops.size → Closed ops listed → (∀ i, m ≤ i → listed.getD i false = false) → unl listed ops.size = fuel → Ext W0 w →
      wpAny P .any ops Q fuel listed (act ops a0 vs (fun j => listed.getD j false) ops.size) w := by
  intro fuel
  induction fuel with
  | zero =>
    intro listed w hs hc hm hu hw
    have hall := unl_zero ops.size hu
    have hms : m = ops.size := by
      have := H.le
      rcases Nat.lt_or_ge m ops.size with h1 | h1
      · have := hall m h1; rw [hm m (Nat.le_refl _)] at this; cases this
      · omega
    have hl : ∀ j, listed.getD j false = true ↔ j < m := fun j => ⟨fun h => (by
      rcases Nat.lt_or_ge j m with h1 | h1
      · exact h1
      · rw [hm j h1] at h; cases h), fun h => hall j (by omega)⟩
    have hact : act ops a0 vs (fun j => listed.getD j false) ops.size = act ops a0 vs (fun _ => true) m := by
      rw [← hms]
      have : ∀ k, k ≤ m → act ops a0 vs (fun j => listed.getD j false) k = act ops a0 vs (fun _ => true) k := by
        intro k
        induction k with
        | zero => intro _; rfl
        | succ k ih => intro hk; rw [act_succ, act_succ, ih (by omega)]; simp only [(hl k).2 (by omega), if_true]
      exact this m (Nat.le_refl _)
    rw [hact]
    exact phase2 H 0 m listed _ w (by omega) (Nat.le_refl _) hl hs hc (fin w hw)
  | succ fuel ih =>
    intro listed w hs hc hm hu hw
    by_cases hpre : ∀ j, j < m → listed.getD j false = true
    · have hl : ∀ j, listed.getD j false = true ↔ j < m := fun j => ⟨fun h => (by
        rcases Nat.lt_or_ge j m with h1 | h1
        · exact h1
        · rw [hm j h1] at h; cases h), hpre j⟩
      have hact : ∀ k, act ops a0 vs (fun j => listed.getD j false) k = act ops a0 vs (fun _ => true) (min k m) := by
        intro k
        induction k with
        | zero => simp [act]
        | succ k ih =>
          by_cases e : k < m
          · rw [show min (k + 1) m = (min k m) + 1 from by omega]
            rw [act_succ, act_succ, ih]
            simp only [(hl k).2 e, if_true]
            rw [show min k m = k from by omega]
          · rw [show min (k + 1) m = min k m from by omega, ← ih]
            rw [act_succ, if_neg (by rw [hl]; exact e)]
      rw [hact, show min ops.size m = m from by have := H.le; omega]
      have hfu : m + (fuel + 1) = ops.size := by
        have := unl_tail hl ops.size H.le
        have := H.le
        omega
      exact phase2 H (fuel + 1) m listed _ w hfu (Nat.le_refl _) hl hs hc (fin w hw)
    · -- the least one that is not listed may come: so one may
      have hex : ∃ j, j < m ∧ listed.getD j false = false ∧ ∀ i, i < j → listed.getD i false = true := by
        have : ∀ n, (∀ j, j < n → listed.getD j false = true) ∨ ∃ j, j < n ∧ listed.getD j false = false ∧ ∀ i, i < j → listed.getD i false = true := by
          intro n
          induction n with
          | zero => exact .inl fun j h => by omega
          | succ n ih =>
            rcases ih with h | ⟨j, h1, h2, h3⟩
            · cases e : listed.getD n false
              · exact .inr ⟨n, by omega, e, h⟩
              · exact .inl fun j hj => by
                  by_cases e' : j = n
                  · rw [e']; exact e
                  · exact h j (by omega)
            · exact .inr ⟨j, by omega, h2, h3⟩
        exact (this m).resolve_left hpre
      obtain ⟨j, hjm, hj0, hjl⟩ := hex
      have hle := H.le
      have hoj : ops[j]? = some ops[j] := Array.getElem?_eq_getElem (by omega)
      have hjr : j ∈ ready .any ops listed := of_ready hs hoj hj0 fun e he hb => hjl _ (H.back j _ hoj e he hb)
      refine ⟨fun e => (by rw [e] at hjr; cases hjr), fun i hi => ?_⟩
      obtain ⟨o, ho, hi0, ha⟩ := ready_of hs hi
      have his : i < ops.size := (Array.getElem?_eq_some_iff.1 ho).1
      have him : i < m := by
        rcases Nat.lt_or_ge i m with h1 | h1
        · exact h1
        · have := anc_listed H hc i o j ho (.inr ha) (by omega) (H.last i o j ho h1 (by omega))
          rw [hj0] at this; cases this
      have h1 : ∀ k, k < i → anc c i k = true → listed.getD k false = true := fun k hk hak => anc_listed H hc i o k ho (.inr ha) (by omega) hak
      have h2 : ∀ k, i < k → anc c k i = true → listed.getD k false = false := fun k hk hak => by
        cases e : listed.getD k false
        · rfl
        · rcases Nat.lt_or_ge k ops.size with h3 | h3
          · have := anc_listed H hc k ops[k] i (Array.getElem?_eq_getElem h3) (.inl e) his hak
            rw [hi0] at this; cases this
          · simp [Array.getElem?_eq_none (show listed.size ≤ k by omega)] at e
      have agree : ∀ t ∈ o.looksAt ops, (act ops a0 vs (fun j => listed.getD j false) ops.size).tmps[t]? = (act ops a0 vs (fun _ => true) i).tmps[t]? := fun t ht => by
        have := act_agree (a0 := a0) (vs := vs) H ho (L := fun j => listed.getD j false) hi0 h1 h2 ht ops.size (Nat.le_refl _)
        rwa [show min ops.size i = i from by omega] at this
      refine gives_op ho hw (each i o him ho) (H.nosel i o ho) (eval_of_agree agree) (wanted_of_agree agree) (fun d hdd => by rw [act_size]; exact hd i o ho d hdd) fun w' hw' => ?_
      rw [act_set (a0 := a0) (vs := vs) H ho (L := fun j => listed.getD j false) hi0 h2 ops.size (Nat.le_refl _) his]
      have hfun : (fun k => if k = i then true else listed.getD k false) = fun k => (listed.setIfInBounds i true).getD k false := funext fun k => (getD_set (by omega) k).symm
      rw [hfun]
      refine ih (listed.setIfInBounds i true) w' (by simpa using hs) ?_ ?_ ?_ (hw.trans hw')
      · intro k o' hk hlk e he hb
        rw [getD_set (by omega)] at hlk ⊢
        split
        · rfl
        · by_cases e' : k = i
          · subst e'
            rw [ho] at hk; cases hk
            exact ha e he hb
          · rw [if_neg e'] at hlk; exact hc k o' hk hlk e he hb
      · intro k hk
        rw [getD_set (by omega), if_neg (by omega)]; exact hm k hk
      · have := unl_set (listed := listed) (i := i) (by omega) hi0 ops.size his
        omega

theorem act_congr {a0 : Act} {vs vs' : Nat → Value} {L : Nat → Bool} : ∀ k, (∀ j, j < k → vs j = vs' j) → act ops a0 vs L k = act ops a0 vs' L k
  | 0, _ => rfl
  | k + 1, h => by rw [act_succ, act_succ, act_congr k (fun j hj => h j (by omega)), h k (by omega)]
theorem wpX_vals {a0 : Act} {W0 : World} {tail : List Oper} {Q : Exit → Act → World → Prop} : ∀ (l : List Oper) (a : Act) (base : Nat) (vs0 : Nat → Value), (∀ i o, l[i]? = some o → ops[base + i]? = some o) →
    wpX P ops W0 tail Q l a → a = act ops a0 vs0 (fun _ => true) base →
    ∃ vs : Nat → Value, (∀ j, j < base → vs j = vs0 j) ∧ (∀ i o, l[i]? = some o → Gives P ops W0 o (act ops a0 vs (fun _ => true) (base + i)) ((act ops a0 vs (fun _ => true) (base + i)).put o.dst (vs (base + i)))) ∧
      ∀ w', Ext W0 w' → wpList P ops Q tail (act ops a0 vs (fun _ => true) (base + l.length)) w' := by
  intro l
  induction l with
  | nil =>
    intro a base vs0 _ h ha
    exact ⟨vs0, fun _ _ => rfl, fun i o hi => (by simp at hi), fun w' hw' => (by
      have := (show ∀ w', Ext W0 w' → wpList P ops Q tail a w' from h) w' hw'
      simpa [← ha] using this)⟩
  | cons o rest ih =>
    intro a base vs0 hl h ha
    obtain ⟨v, hg, hk⟩ := h
    have ho : ops[base]? = some o := hl 0 o rfl
    have e1 : act ops a0 (fun j => if j = base then v else vs0 j) (fun _ => true) base = a := by
      rw [ha]; exact act_congr base fun j hj => if_neg (by omega)
    have e2 : a.put o.dst v = act ops a0 (fun j => if j = base then v else vs0 j) (fun _ => true) (base + 1) := by
      rw [act_succ, e1]; simp [dstOf, ho]
    obtain ⟨vs, h1, h2, h3⟩ := ih _ (base + 1) _ (fun i o hi => by have := hl (i + 1) o (by simpa using hi); rwa [show base + (i + 1) = base + 1 + i from by omega] at this) hk e2
    have e3 : act ops a0 vs (fun _ => true) base = a := by
      rw [← e1]; exact act_congr base fun j hj => h1 j (by omega)
    refine ⟨vs, fun j hj => by rw [h1 j (by omega), if_neg (by omega)], fun i o' hi => ?_, ?_⟩
    · cases i with
      | zero =>
        simp at hi; subst hi
        rw [Nat.add_zero, e3, h1 base (by omega), if_pos rfl]; exact hg
      | succ i =>
        have := h2 i o' (by simpa using hi)
        rwa [show base + 1 + i = base + (i + 1) from by omega] at this
    · rw [List.length_cons, show base + (rest.length + 1) = base + 1 + rest.length from by omega]; exact h3
end XReg
open XReg in
/-- A REGION THAT DRAWS ITS ORDER, WALKED IN THE ORDER OF THE TEXT: its first m operations each hand back the same value in every grown world; the others come behind them, in the text's order. -/
theorem wp_region_x {P : Program} {id : Nat} {l : List Oper} {Q : Exit → Act → World → Prop} {a0 : Act} {W0 : World} (m : Nat) (hm : P.follows .mixedOrders = true) (hc : chk l.toArray m = true)
    (hd : (l.all fun o => o.dst.all fun d => decide (d < a0.tmps.size)) = true)
    (h : wpX P l.toArray W0 (l.drop m) Q (l.take m) a0) : (Code.region id l.toArray true).wp P Q a0 W0 := by
  have H := ok_of_chk hc
  obtain ⟨vs, _, h2, h3⟩ := wpX_vals (ops := l.toArray) (a0 := a0) (l.take m) a0 0 (fun _ => undef) (fun i o hi => by
    rw [List.getElem?_take] at hi
    split at hi
    · simpa using hi
    · cases hi) h rfl
  have hle := H.le
  have hml : (l.take m).length = m := by rw [List.length_take]; simp at hle; omega
  rw [hml, Nat.zero_add] at h3
  refine wp_region_any hm ?_
  have ha : a0 = act l.toArray a0 vs (fun j => (Array.replicate l.toArray.size false).getD j false) l.toArray.size := by
    have : ∀ k, act l.toArray a0 vs (fun j => (Array.replicate l.toArray.size false).getD j false) k = a0 := by
      intro k
      induction k with
      | zero => rfl
      | succ k ih =>
        rw [act_succ]
        have : (Array.replicate l.toArray.size false).getD k false = false := by
          simp [Array.getElem?_replicate]; split <;> rfl
        rw [if_neg (by rw [this]; simp), ih]
    exact (this _).symm
  have hf : ∀ j, (Array.replicate l.toArray.size false).getD j false = false := fun j => by simp [Array.getElem?_replicate]; split <;> rfl
  have hrep : ∀ k, unl (Array.replicate l.toArray.size false) k = k := by
    intro k
    induction k with
    | zero => rfl
    | succ k ih => unfold unl; rw [ih, if_neg (by rw [hf]; simp)]
  rw [ha]
  refine phase1 H (W0 := W0) (a0 := a0) (vs := vs) ?_ ?_ ?_ _ _ _ (by simp) ?_ (fun i _ => hf i) (hrep _) ((Ext.refl W0).drew)
  · intro i o ho d hdd
    have := List.all_eq_true.1 hd o (List.mem_of_getElem? (i := i) (by simpa using ho))
    rw [hdd] at this
    simpa using this
  · intro i o hi ho
    have := h2 i o (by rw [List.getElem?_take, if_pos hi]; simpa using ho)
    rwa [Nat.zero_add] at this
  · intro w' hw'
    simpa using h3 w' hw'
  · intro i o _ hl
    rw [hf] at hl; cases hl
open XReg in
/-- One operation: what it leaves is found by the walk. -/
theorem XReg.step {P : Program} {ops : Array Oper} {W0 : World} {tail rest : List Oper} {Q : Exit → Act → World → Prop} {o : Oper} {a a' : Act}
    (h : ∀ w, Ext W0 w → wpList P ops (fun e b w' => e = .normal ∧ b = a' ∧ Ext w w') [o] a w) (hv : a.put o.dst (o.dst.elim undef fun d => a'.tmps.getD d undef) = a') (k : wpX P ops W0 tail Q rest a') : wpX P ops W0 tail Q (o :: rest) a :=
  ⟨_, by rw [hv]; exact h, by rw [hv]; exact k⟩
open XReg in
theorem XReg.done {P : Program} {ops : Array Oper} {W0 : World} {tail : List Oper} {Q : Exit → Act → World → Prop} {a : Act} (h : ∀ X, wpList P ops Q tail a (W0.plus X)) : wpX P ops W0 tail Q [] a := by
  rintro w' ⟨X, rfl⟩
  exact h X
open XReg in
theorem XReg.doneN {P : Program} {ops : Array Oper} {W0 : World} {Q : Exit → Act → World → Prop} {a : Act} (h : ∀ X, Q .normal a (W0.plus X)) : wpX P ops W0 [] Q [] a := by
  rintro w' ⟨X, rfl⟩
  exact h X
open XReg in
theorem XReg.done1 {P : Program} {ops : Array Oper} {W0 : World} {Q : Exit → Act → World → Prop} {a : Act} {o : Oper} (h : ∀ X, wpList P ops Q [o] a (W0.plus X)) : wpX P ops W0 [o] Q [] a := by
  rintro w' ⟨X, rfl⟩
  exact h X
end Go
