/- A drawn region under an invariant: kinds for its operations, and blocks that it stores into once each. -/
import Derived.Test.YtkhmdhdaldbbhaaII
import Derived.Test.YtkhmdhdaldbbhaaVBC
set_option maxRecDepth 100000
set_option linter.unusedVariables false
namespace Go
open Go.RowKit
def blkOf : Value → Nat
  | .pointer (some a) => a.block
  | _ => 0
/-- A block that is stored into once: an elder one (g), or one that operation p makes; s is the store, z what it holds ahead of it, post what is so behind it. -/
structure Tg where
  p : Option Nat
  g : Nat
  s : Nat
  ty : TypeId
  z : List Value
  post : List Value → World → Prop
def Tg.bid (t : Tg) (vs : Nat → Value) : Nat := match t.p with
  | none => t.g
  | some p => blkOf (vs p)
def Tg.up (t : Tg) (L : Nat → Bool) : Bool := match t.p with
  | none => true
  | some p => L p
structure RgI (W0 : World) (T : List Tg) (K : List (Option XReg.Kind)) (L : Nat → Bool) (vs : Nat → Value) (w : World) : Prop where
  c : ∃ S, Chg S W0 w ∧ ∀ b ∈ S, W0.heap.size ≤ b ∨ ∃ t ∈ T, t.p = none ∧ b = t.g
  k : ∀ (j : Nat) (kd : XReg.Kind), K[j]? = some (some kd) → L j = true → kd (vs j) w
  t : ∀ (i : Nat) (t : Tg), T[i]? = some t → t.up L = true → ∃ cs, Blk w (t.bid vs) cs t.ty ∧ (L t.s = true → t.post cs w) ∧ (L t.s = false → cs = t.z) ∧ ∀ p, t.p = some p → vs p = .pointer (some ⟨t.bid vs, 0, none⟩) ∧ W0.heap.size ≤ t.bid vs
  d : ∀ (i j : Nat) (a b : Tg), T[i]? = some a → T[j]? = some b → i ≠ j → a.up L = true → b.up L = true → a.bid vs ≠ b.bid vs
  o : ∀ t ∈ T, L t.s = true → t.up L = true
/-- What is so of a world stays so where it grows, and where a block of these types turns. -/
def Keeps (tys : List TypeId) (R : World → Prop) : Prop := (∀ w w', Ext w w' → R w → R w') ∧ ∀ w w' g cs ty, ty ∈ tys → Blk w g cs ty → Chg [g] w w' → R w → R w'
structure RgOk (T : List Tg) (K : List (Option XReg.Kind)) : Prop where
  k : ∀ kd, some kd ∈ K → ∀ v, Keeps (T.map Tg.ty) (kd v)
  t : ∀ t ∈ T, ∀ cs, Keeps (T.map Tg.ty) (t.post cs)
theorem keeps_eq (tys : List TypeId) (v c : Value) : Keeps tys ((fun u (_ : World) => u = c) v) := ⟨fun _ _ _ h => h, fun _ _ _ _ _ _ _ _ h => h⟩
theorem Tg.bid_upd {t : Tg} {vs : Nat → Value} {n : Nat} {v : Value} (h : t.p ≠ some n) : t.bid (updV vs n v) = t.bid vs := by
  unfold Tg.bid
  cases hp : t.p with
  | none => rfl
  | some p =>
    have : ¬ p = n := fun e => h (by rw [hp, e])
    show blkOf (updV vs n v p) = blkOf (vs p)
    unfold updV; rw [if_neg this]
theorem Tg.up_upd {t : Tg} {L : Nat → Bool} {n : Nat} (h : t.p ≠ some n) : t.up (updB L n) = t.up L := by
  unfold Tg.up
  cases hp : t.p with
  | none => rfl
  | some p =>
    have : ¬ p = n := fun e => h (by rw [hp, e])
    show updB L n p = L p
    unfold updB; rw [if_neg this]
theorem updB_ne {L : Nat → Bool} {n j : Nat} (h : j ≠ n) : updB L n j = L j := by unfold updB; rw [if_neg h]
theorem updV_ne {vs : Nat → Value} {n j : Nat} {v : Value} (h : j ≠ n) : updV vs n v j = vs j := by unfold updV; rw [if_neg h]
theorem RgI.start {W0 W : World} {T : List Tg} {K : List (Option XReg.Kind)} {vs : Nat → Value} (hx : Ext W0 W) (hb : ∀ t ∈ T, t.p = none → Blk W0 t.g t.z t.ty) (hd : ∀ (i j : Nat) (a b : Tg), T[i]? = some a → T[j]? = some b → i ≠ j → a.p = none → b.p = none → a.g ≠ b.g) :
    RgI W0 T K (fun _ => false) vs W := by
  have up : ∀ t : Tg, t.up (fun _ => false) = true → t.p = none := fun t h => by
    unfold Tg.up at h
    cases hp : t.p with
    | none => rfl
    | some p => rw [hp] at h; cases h
  have bid : ∀ t : Tg, t.p = none → t.bid vs = t.g := fun t h => by unfold Tg.bid; rw [h]
  refine ⟨⟨[], hx.chg _, fun b hb => (by cases hb)⟩, fun _ _ _ h => (by cases h), fun i t ht hu => ?_, fun i j a b ha hb' hij hu hu' => ?_, fun _ _ h => (by cases h)⟩
  · have hp := up t hu
    refine ⟨t.z, by rw [bid t hp]; exact (hb t (List.mem_of_getElem? ht) hp).ext hx, (fun h => (by cases h)), fun _ => rfl, fun p h => (by rw [hp] at h; cases h)⟩
  · rw [bid a (up a hu), bid b (up b hu')]
    exact hd i j a b ha hb' hij (up a hu) (up b hu')
theorem RgI.op {W0 w w' : World} {T : List Tg} {K : List (Option XReg.Kind)} {L : Nat → Bool} {vs : Nat → Value} (h : RgI W0 T K L vs w) (ok : RgOk T K) (n : Nat) (v : Value) (hx : Ext w w') (hn : ∀ t ∈ T, t.s ≠ n ∧ t.p ≠ some n) (hk : ∀ kd, K[n]? = some (some kd) → kd v w') :
    RgI W0 T K (updB L n) (updV vs n v) w' := by
  obtain ⟨S, h1, h2⟩ := h.c
  refine ⟨⟨S, h1.trans (hx.chg _), h2⟩, fun j kd hj hL => ?_, fun i t ht hu => ?_, fun i j a b ha hb hij hu hu' => ?_, fun t ht hL => ?_⟩
  · by_cases e : j = n
    · subst e
      rw [show updV vs j v j = v by unfold updV; rw [if_pos rfl]]
      exact hk kd hj
    · rw [updB_ne e] at hL
      rw [updV_ne e]
      exact (ok.k kd (List.mem_of_getElem? hj) _).1 _ _ hx (h.k j kd hj hL)
  · have hm := hn t (List.mem_of_getElem? ht)
    rw [Tg.up_upd hm.2] at hu
    obtain ⟨cs, q1, q2, q3, q4⟩ := h.t i t ht hu
    rw [Tg.bid_upd hm.2, updB_ne hm.1]
    refine ⟨cs, q1.ext hx, fun hL => (ok.t t (List.mem_of_getElem? ht) cs).1 _ _ hx (q2 hL), q3, fun p hp => ?_⟩
    have : p ≠ n := fun e => hm.2 (by rw [hp, e])
    rw [updV_ne this]
    exact q4 p hp
  · have ma := hn a (List.mem_of_getElem? ha)
    have mb := hn b (List.mem_of_getElem? hb)
    rw [Tg.up_upd ma.2] at hu
    rw [Tg.up_upd mb.2] at hu'
    rw [Tg.bid_upd ma.2, Tg.bid_upd mb.2]
    exact h.d i j a b ha hb hij hu hu'
  · have hm := hn t ht
    rw [updB_ne hm.1] at hL
    rw [Tg.up_upd hm.2]
    exact h.o t ht hL
theorem RgI.box {W0 w : World} {T : List Tg} {K : List (Option XReg.Kind)} {L : Nat → Bool} {vs : Nat → Value} (h : RgI W0 T K L vs w) (ok : RgOk T K) (n i : Nat) {t : Tg} (ht : T[i]? = some t) (hp : t.p = some n) (hL : L n = false)
    (hu : ∀ (j : Nat) (b : Tg), T[j]? = some b → b.p = some n → j = i) (hs : ∀ t ∈ T, t.s ≠ n) (hk : ∀ kd, K[n]? ≠ some (some kd)) {zs : Array Value} (hz : zs.toList = t.z) :
    RgI W0 T K (updB L n) (updV vs n (.pointer (some ⟨w.heap.size, 0, none⟩))) (w.alloc (.cells zs t.ty)) := by
  have hx : Ext w (w.alloc (.cells zs t.ty)) := (Ext.refl _).alloc _
  obtain ⟨S, h1, h2⟩ := h.c
  have en : updV vs n (.pointer (some ⟨w.heap.size, 0, none⟩)) n = .pointer (some ⟨w.heap.size, 0, none⟩) := by unfold updV; rw [if_pos rfl]
  have eb : t.bid (updV vs n (.pointer (some ⟨w.heap.size, 0, none⟩))) = w.heap.size := by unfold Tg.bid; rw [hp]; show blkOf (updV vs n _ n) = _; rw [en]; rfl
  have hts : L t.s = false := by
    cases q : L t.s
    · rfl
    · have := h.o t (List.mem_of_getElem? ht) q
      unfold Tg.up at this
      rw [hp] at this
      rw [show L n = true from this] at hL; cases hL
  refine ⟨⟨S, h1.trans (hx.chg _), h2⟩, fun j kd hj hLj => ?_, fun j b hb hub => ?_, fun j k a b ha hb hjk hua hub => ?_, fun b hb hLb => ?_⟩
  · have e : j ≠ n := fun e => hk kd (by rw [← e]; exact hj)
    rw [updB_ne e] at hLj
    rw [updV_ne e]
    exact (ok.k kd (List.mem_of_getElem? hj) _).1 _ _ hx (h.k j kd hj hLj)
  · by_cases e : b.p = some n
    · obtain rfl := hu j b hb e
      obtain rfl : t = b := Option.some.inj (ht.symm.trans hb)
      rw [eb, updB_ne (hs t (List.mem_of_getElem? ht))]
      refine ⟨t.z, by rw [← hz]; exact Blk.new rfl, fun q => (by rw [hts] at q; cases q), fun _ => rfl, fun p hp' => ?_⟩
      obtain rfl : n = p := Option.some.inj (hp.symm.trans hp')
      exact ⟨en, h1.size⟩
    · rw [Tg.up_upd e] at hub
      obtain ⟨cs, q1, q2, q3, q4⟩ := h.t j b hb hub
      rw [Tg.bid_upd e, updB_ne (hs b (List.mem_of_getElem? hb))]
      refine ⟨cs, q1.ext hx, fun q => (ok.t b (List.mem_of_getElem? hb) cs).1 _ _ hx (q2 q), q3, fun p hp' => ?_⟩
      have : p ≠ n := fun e' => e (by rw [hp', e'])
      rw [updV_ne this]
      exact q4 p hp'
  · have low : ∀ (j : Nat) (b : Tg), T[j]? = some b → b.p ≠ some n → b.up (updB L n) = true → b.bid (updV vs n (.pointer (some ⟨w.heap.size, 0, none⟩))) < w.heap.size := fun j b hb e hub => by
      rw [Tg.up_upd e] at hub
      obtain ⟨cs, q1, _⟩ := h.t j b hb hub
      rw [Tg.bid_upd e]
      exact q1.old
    by_cases e1 : a.p = some n
    · have hj := hu j a ha e1
      by_cases e2 : b.p = some n
      · exact absurd (hj.trans (hu k b hb e2).symm) hjk
      · obtain rfl : t = a := Option.some.inj (ht.symm.trans (hj ▸ ha))
        rw [eb]
        exact fun e => by have := low k b hb e2 hub; omega
    · by_cases e2 : b.p = some n
      · have hk' := hu k b hb e2
        obtain rfl : t = b := Option.some.inj (ht.symm.trans (hk' ▸ hb))
        rw [eb]
        exact fun e => by have := low j a ha e1 hua; omega
      · rw [Tg.up_upd e1] at hua
        rw [Tg.up_upd e2] at hub
        rw [Tg.bid_upd e1, Tg.bid_upd e2]
        exact h.d j k a b ha hb hjk hua hub
  · have e := hs b hb
    rw [updB_ne e] at hLb
    have := h.o b hb hLb
    by_cases e2 : b.p = some n
    · unfold Tg.up; rw [e2]; show updB L n n = true; unfold updB; rw [if_pos rfl]
    · rw [Tg.up_upd e2]; exact this
theorem RgI.st {W0 w w' : World} {T : List Tg} {K : List (Option XReg.Kind)} {L : Nat → Bool} {vs : Nat → Value} (h : RgI W0 T K L vs w) (ok : RgOk T K) (n i : Nat) {t : Tg} (ht : T[i]? = some t) (hsn : t.s = n) (hup : t.up L = true)
    (hu : ∀ (j : Nat) (b : Tg), T[j]? = some b → b.s = n → j = i) (hp : ∀ t ∈ T, t.p ≠ some n) (hk : ∀ kd, K[n]? ≠ some (some kd)) {cs' : List Value} (hc : Chg [t.bid vs] w w') (hb : Blk w' (t.bid vs) cs' t.ty) (hpost : t.post cs' w') (v : Value) :
    RgI W0 T K (updB L n) (updV vs n v) w' := by
  obtain ⟨S, h1, h2⟩ := h.c
  obtain ⟨cs0, q01, _, _, q04⟩ := h.t i t ht hup
  have hty : t.ty ∈ T.map Tg.ty := List.mem_map.2 ⟨t, List.mem_of_getElem? ht, rfl⟩
  refine ⟨⟨S ++ [t.bid vs], (h1.mono (fun b hb => List.mem_append_left _ hb)).trans (hc.mono (fun b hb => List.mem_append_right _ hb)), fun b hb => ?_⟩, fun j kd hj hLj => ?_, fun j b hbj hub => ?_, fun j k a b ha hb' hjk hua hub => ?_, fun b hb' hLb => ?_⟩
  · rcases List.mem_append.1 hb with hb | hb
    · exact h2 b hb
    · obtain rfl := List.mem_singleton.1 hb
      cases hpt : t.p with
      | none => exact .inr ⟨t, List.mem_of_getElem? ht, hpt, by unfold Tg.bid; rw [hpt]⟩
      | some p => exact .inl (q04 p hpt).2
  · have e : j ≠ n := fun e => hk kd (by rw [← e]; exact hj)
    rw [updB_ne e] at hLj
    rw [updV_ne e]
    exact (ok.k kd (List.mem_of_getElem? hj) _).2 _ _ _ _ _ hty q01 hc (h.k j kd hj hLj)
  · have e := hp b (List.mem_of_getElem? hbj)
    rw [Tg.up_upd e] at hub
    rw [Tg.bid_upd e]
    have hpv : ∀ p, b.p = some p → updV vs n v p = vs p := fun p hp' => updV_ne (fun e' => e (by rw [hp', e']))
    by_cases ej : j = i
    · subst ej
      obtain rfl : t = b := Option.some.inj (ht.symm.trans hbj)
      refine ⟨cs', hb, fun _ => hpost, fun q => ?_, fun p hp' => ?_⟩
      · rw [hsn] at q; unfold updB at q; rw [if_pos rfl] at q; cases q
      · rw [hpv p hp']; exact q04 p hp'
    · have es : b.s ≠ n := fun e' => ej (hu j b hbj e')
      obtain ⟨cs, q1, q2, q3, q4⟩ := h.t j b hbj hub
      rw [updB_ne es]
      have hne : b.bid vs ≠ t.bid vs := h.d j i b t hbj ht ej hub hup
      refine ⟨cs, q1.chg hc (by simpa using hne), fun q => (ok.t b (List.mem_of_getElem? hbj) cs).2 _ _ _ _ _ hty q01 hc (q2 q), q3, fun p hp' => ?_⟩
      rw [hpv p hp']; exact q4 p hp'
  · have ea := hp a (List.mem_of_getElem? ha)
    have eb := hp b (List.mem_of_getElem? hb')
    rw [Tg.up_upd ea] at hua
    rw [Tg.up_upd eb] at hub
    rw [Tg.bid_upd ea, Tg.bid_upd eb]
    exact h.d j k a b ha hb' hjk hua hub
  · have e := hp b hb'
    rw [Tg.up_upd e]
    by_cases es : b.s = n
    · obtain ⟨j, hj, rfl⟩ := List.mem_iff_getElem.1 hb'
      have := hu j _ (List.getElem?_eq_getElem hj) es
      obtain rfl : t = T[j] := Option.some.inj (ht.symm.trans (by rw [← this, List.getElem?_eq_getElem hj]))
      exact hup
    · rw [updB_ne es] at hLb; exact h.o b hb' hLb
/-- Behind the region: what each block holds. -/
theorem RgI.fin {W0 w : World} {T : List Tg} {K : List (Option XReg.Kind)} {L : Nat → Bool} {vs : Nat → Value} (h : RgI W0 T K L vs w) {i : Nat} {t : Tg} (ht : T[i]? = some t) (hL : L t.s = true) :
    ∃ cs, Blk w (t.bid vs) cs t.ty ∧ t.post cs w ∧ ∀ p, t.p = some p → vs p = .pointer (some ⟨t.bid vs, 0, none⟩) ∧ W0.heap.size ≤ t.bid vs := by
  obtain ⟨cs, q1, q2, _, q4⟩ := h.t i t ht (h.o t (List.mem_of_getElem? ht) hL)
  exact ⟨cs, q1, q2 hL, q4⟩
end Go
