/- FnBlind: regions under an invariant, for pools in boxes. -/
import Derived.Test.YtkhmdhdaldbbhaaBL
import Derived.Test.YtkhmdhdaldbbhaaRG
import Derived.Test.YtkhmdhdaldbbhaaPEF
set_option maxRecDepth 100000
set_option linter.unusedVariables false
namespace Go.Proofs.Ytkhmdhdaldbbhaa
open Go.RowKit Go.Fin1
theorem set3_chgR (w : World) (g : Nat) (a b c : Value) : Chg [g] w (((w.setCell ⟨g, 0, none⟩ a).setCell ⟨g, 1, none⟩ b).setCell ⟨g, 2, none⟩ c) := (((Chg.refl _ _).setCell (.inl (by simp)) _).setCell (.inl (by simp)) _).setCell (.inl (by simp)) _
theorem set3_blk3 {w : World} {g : Nat} {x0 x1 x2 : Value} {ty : TypeId} (h : Blk w g [x0, x1, x2] ty) (a b c : Value) : Blk (((w.setCell ⟨g, 0, none⟩ a).setCell ⟨g, 1, none⟩ b).setCell ⟨g, 2, none⟩ c) g [a, b, c] ty := ((h.set 0 a).set 1 b).set 2 c
/-- Pools' blocks are not boxes. -/
theorem OwnP.boxT {B : Nat} {w : World} {fc fj : List Nat} {c j : Value} {p : Pl} (h : OwnP B w fc fj c j p) {g : Nat} {cs : List Value} {t : TypeId} (hg : Blk w g cs t) (h1 : t ∉ [40, 24]) (h2 : t ∉ [27, 2]) : ∀ b ∈ fc ++ fj, b ∉ [g] := fun b hb hm => by
  obtain rfl := List.mem_singleton.1 hm
  rcases List.mem_append.1 hb with hb | hb
  · exact oLabelSS_typed.apart h.1.1 hg h1 hb
  · exact oJobS_typed.apart h.2.1.1 hg h2 hb
def blT : List TypeId := [43, 45]
theorem blT_no {t : TypeId} (h : t ∈ blT) : t ∉ [40, 24] ∧ t ∉ [27, 2] := by
  unfold blT at h
  simp at h
  rcases h with rfl | rfl <;> decide
/-- A box's cells hold this pool. -/
def holdP (p : Pl) : List Value → World → Prop := fun cs w => ∃ a c b d fc fj, cs = [.slice a p.clear.length c, .slice b p.jobs.length d, (.int .i64 p.now)] ∧ OwnP 0 w fc fj (.slice a p.clear.length c) (.slice b p.jobs.length d) p
def holdO (p : Pl) (id q : Int) : List Value → World → Prop := fun cs w => ∃ a c b d fc fj, cs = [.slice a p.clear.length c, .slice b p.jobs.length d, (.int .i64 p.now), (.int .i64 id), (.int .i64 q)] ∧ OwnP 0 w fc fj (.slice a p.clear.length c) (.slice b p.jobs.length d) p
def kV (H : List Value → World → Prop) : XReg.Kind := fun v w => ∃ cs, v = .agg cs.toArray ∧ H cs w
abbrev eqK (c : Value) : XReg.Kind := fun u _ => u = c
theorem holdP_keeps {tys : List TypeId} (ht : ∀ t ∈ tys, t ∈ blT) (p : Pl) (cs : List Value) : Keeps tys (holdP p cs) :=
  ⟨fun w w' hx ⟨a, c, b, d, fc, fj, h, hO⟩ => ⟨a, c, b, d, fc, fj, h, hO.ext hx⟩, fun w w' g cs ty hty hb hc ⟨a, c, b, d, fc, fj, h, hO⟩ => ⟨a, c, b, d, fc, fj, h, hO.far hc (hO.boxT hb (blT_no (ht _ hty)).1 (blT_no (ht _ hty)).2)⟩⟩
theorem holdO_keeps {tys : List TypeId} (ht : ∀ t ∈ tys, t ∈ blT) (p : Pl) (id q : Int) (cs : List Value) : Keeps tys (holdO p id q cs) :=
  ⟨fun w w' hx ⟨a, c, b, d, fc, fj, h, hO⟩ => ⟨a, c, b, d, fc, fj, h, hO.ext hx⟩, fun w w' g cs ty hty hb hc ⟨a, c, b, d, fc, fj, h, hO⟩ => ⟨a, c, b, d, fc, fj, h, hO.far hc (hO.boxT hb (blT_no (ht _ hty)).1 (blT_no (ht _ hty)).2)⟩⟩
theorem kV_keeps {tys : List TypeId} {H : List Value → World → Prop} (h : ∀ cs, Keeps tys (H cs)) (v : Value) : Keeps tys (kV H v) :=
  ⟨fun w w' hx ⟨cs, hv, hh⟩ => ⟨cs, hv, (h cs).1 _ _ hx hh⟩, fun w w' g c ty hty hb hc ⟨cs, hv, hh⟩ => ⟨cs, hv, (h cs).2 _ _ _ _ _ hty hb hc hh⟩⟩
theorem holdO_in {p : Pl} {id q : Int} {w : World} {fc fj : List Nat} {B : Nat} {cv jv : Value} (h : OwnP B w fc fj cv jv p) : kV (holdO p id q) (poV p id q cv jv) w := by
  obtain ⟨a, e, rfl⟩ := h.1.shape
  obtain ⟨b, d, rfl⟩ := h.2.1.shape
  exact ⟨_, rfl, a, e, b, d, fc, fj, rfl, h.mono (Nat.zero_le _)⟩
theorem holdO_out {p : Pl} {id q : Int} {w : World} {v : Value} (h : kV (holdO p id q) v w) : ∃ a c b d, v = .agg #[.slice a p.clear.length c, .slice b p.jobs.length d, (.int .i64 p.now), (.int .i64 id), (.int .i64 q)] ∧ holdO p id q [.slice a p.clear.length c, .slice b p.jobs.length d, (.int .i64 p.now), (.int .i64 id), (.int .i64 q)] w ∧ holdP p [.slice a p.clear.length c, .slice b p.jobs.length d, (.int .i64 p.now)] w := by
  obtain ⟨cs, rfl, a, c, b, d, fc, fj, rfl, hO⟩ := h
  exact ⟨a, c, b, d, rfl, ⟨a, c, b, d, fc, fj, rfl, hO⟩, ⟨a, c, b, d, fc, fj, rfl, hO⟩⟩
theorem holdP_out {p : Pl} {w : World} {v : Value} (h : kV (holdP p) v w) : ∃ a c b d, v = .agg #[.slice a p.clear.length c, .slice b p.jobs.length d, (.int .i64 p.now)] ∧ holdP p [.slice a p.clear.length c, .slice b p.jobs.length d, (.int .i64 p.now)] w := by
  obtain ⟨cs, rfl, a, c, b, d, fc, fj, rfl, hO⟩ := h
  exact ⟨a, c, b, d, rfl, ⟨a, c, b, d, fc, fj, rfl, hO⟩⟩
theorem holdP_e {p : Pl} {w : World} {a b : Option Addr} {c d : Nat} (h : holdP p [.slice a p.clear.length c, .slice b p.jobs.length d, (.int .i64 p.now)] w) (hR : poolR p = true) : ePool w (.agg #[.slice a p.clear.length c, .slice b p.jobs.length d, (.int .i64 p.now)]) p := by
  obtain ⟨a', c', b', d', fc, fj, hv, hO⟩ := h
  simp at hv
  obtain ⟨⟨rfl, rfl⟩, rfl, rfl⟩ := hv
  exact hO.e' (right_ok hR).1
/-! a region's invariant -/
def KAll (tys : List TypeId) : List (Option XReg.Kind) → Prop
  | [] => True
  | none :: l => KAll tys l
  | some k :: l => (∀ v, Keeps tys (k v)) ∧ KAll tys l
def TAll (tys : List TypeId) : List Tg → Prop
  | [] => True
  | t :: l => (∀ cs, Keeps tys (t.post cs)) ∧ TAll tys l
theorem kall_mem {tys : List TypeId} : ∀ {K : List (Option XReg.Kind)}, KAll tys K → ∀ kd, some kd ∈ K → ∀ v, Keeps tys (kd v)
  | [], _, kd, h, _ => by cases h
  | none :: l, hA, kd, h, v => by
    rcases List.mem_cons.1 h with h | h
    · cases h
    · exact kall_mem (K := l) hA kd h v
  | some k :: l, hA, kd, h, v => by
    rcases List.mem_cons.1 h with h | h
    · obtain rfl := Option.some.inj h; exact hA.1 v
    · exact kall_mem (K := l) hA.2 kd h v
theorem tall_mem {tys : List TypeId} : ∀ {T : List Tg}, TAll tys T → ∀ t ∈ T, ∀ cs, Keeps tys (t.post cs)
  | [], _, t, h, _ => by cases h
  | t :: l, hA, u, h, cs => by
    rcases List.mem_cons.1 h with rfl | h
    · exact hA.1 cs
    · exact tall_mem (T := l) hA.2 u h cs
theorem rgOk {T : List Tg} {K : List (Option XReg.Kind)} (h : KAll (T.map Tg.ty) K) (h2 : TAll (T.map Tg.ty) T) : RgOk T K := ⟨kall_mem h, tall_mem h2⟩
structure RgJ (W0 : World) (T : List Tg) (K : List (Option XReg.Kind)) (D : List (Nat × Nat)) (L : Nat → Bool) (vs : Nat → Value) (w : World) : Prop where
  i : RgI W0 T K L vs w
  dd : ∀ x ∈ D, L x.1 = true → L x.2 = true
section
variable {W0 w w' : World} {T : List Tg} {K : List (Option XReg.Kind)} {D : List (Nat × Nat)} {L : Nat → Bool} {vs : Nat → Value}
theorem RgJ.start {W : World} (hx : Ext W0 W) (hb : ∀ t ∈ T, t.p = none → Blk W0 t.g t.z t.ty) (hd : ∀ (i j : Nat) (a b : Tg), T[i]? = some a → T[j]? = some b → i ≠ j → a.p = none → b.p = none → a.g ≠ b.g) : RgJ W0 T K D (fun _ => false) vs W :=
  ⟨RgI.start hx hb hd, fun x _ h => by cases h⟩
theorem dd_upd (h : ∀ x ∈ D, L x.1 = true → L x.2 = true) {n : Nat} (hD : ∀ x ∈ D, x.1 = n → L x.2 = true) : ∀ x ∈ D, updB L n x.1 = true → updB L n x.2 = true := fun x hx h1 => by
  by_cases e2 : x.2 = n
  · unfold updB; rw [if_pos e2]
  · rw [updB_ne e2]
    by_cases e : x.1 = n
    · exact hD x hx e
    · rw [updB_ne e] at h1; exact h x hx h1
theorem all_T {n : Nat} (hn : (T.all fun t => decide (t.s ≠ n) && decide (t.p ≠ some n)) = true) : ∀ t ∈ T, t.s ≠ n ∧ t.p ≠ some n := fun t ht => by
  have := List.all_eq_true.1 hn t ht
  simpa using this
theorem all_D {n : Nat} (hD : (D.all fun x => decide (x.1 ≠ n)) = true) : ∀ x ∈ D, x.1 = n → L x.2 = true := fun x hx e => by
  have := List.all_eq_true.1 hD x hx
  simp [e] at this
theorem RgJ.opE (h : RgJ W0 T K D L vs w) (ok : RgOk T K) (n : Nat) (c : Value) (hK : K[n]? = some (some (eqK c))) (hx : Ext w w') (hn : (T.all fun t => decide (t.s ≠ n) && decide (t.p ≠ some n)) = true) (hD : (D.all fun x => decide (x.1 ≠ n)) = true) : RgJ W0 T K D (updB L n) (updV vs n c) w' :=
  ⟨h.i.op ok n c hx (all_T hn) (fun kd hk => by rw [hK] at hk; obtain rfl := Option.some.inj (Option.some.inj hk); rfl), dd_upd h.dd (all_D hD)⟩
theorem RgJ.opK (h : RgJ W0 T K D L vs w) (ok : RgOk T K) (n : Nat) {v : Value} {kd : XReg.Kind} (hK : K[n]? = some (some kd)) (hx : Ext w w') (hv : kd v w') (hn : (T.all fun t => decide (t.s ≠ n) && decide (t.p ≠ some n)) = true) (hD : (D.all fun x => decide (x.1 ≠ n)) = true) : RgJ W0 T K D (updB L n) (updV vs n v) w' :=
  ⟨h.i.op ok n v hx (all_T hn) (fun kd' hk => by rw [hK] at hk; obtain rfl := Option.some.inj (Option.some.inj hk); exact hv), dd_upd h.dd (all_D hD)⟩
theorem RgJ.eq (h : RgJ W0 T K D L vs w) {j : Nat} {c : Value} (hK : K[j]? = some (some (eqK c))) (hL : L j = true) : vs j = c := h.i.k j _ hK hL
theorem RgJ.val (h : RgJ W0 T K D L vs w) {j : Nat} {kd : XReg.Kind} (hK : K[j]? = some (some kd)) (hL : L j = true) : kd (vs j) w := h.i.k j _ hK hL
theorem RgJ.chg (h : RgJ W0 T K D L vs w) {S : List Nat} (hS : ∀ t ∈ T, t.p = none → t.g ∈ S) : Chg S W0 w := by
  obtain ⟨S', h1, h2⟩ := h.i.c
  refine ⟨h1.os, h1.tape, h1.output, h1.size, fun k hk hn => h1.block k hk fun hm => ?_⟩
  rcases h2 k hm with e | ⟨t, ht, hp, rfl⟩
  · omega
  · exact hn (hS t ht hp)
theorem noEld (h : (T.all fun t => t.p.isSome) = true) : ∀ t ∈ T, t.p = none → False := fun t ht hp => by
  have := List.all_eq_true.1 h t ht
  rw [hp] at this; cases this
theorem RgJ.ext0 (h : RgJ W0 T K D L vs w) (hT : (T.all fun t => t.p.isSome) = true) : Ext W0 w := (h.chg (S := []) fun t ht hp => (noEld hT t ht hp).elim).ext0
theorem RgJ.box (h : RgJ W0 T K D L vs w) (ok : RgOk T K) (n i : Nat) {t : Tg} (ht : T[i]? = some t) (hp : t.p = some n) (hL : L n = false) (hu : (T.zipIdx.all fun x => decide (x.1.p ≠ some n) || decide (x.2 = i)) = true) (hs : (T.all fun t => decide (t.s ≠ n)) = true) (hk : K[n]? = some none) (hD : (D.all fun x => decide (x.1 ≠ n)) = true) {zs : Array Value} (hz : zs.toList = t.z) {ty : TypeId} (hty : ty = t.ty) :
    RgJ W0 T K D (updB L n) (updV vs n (.pointer (some ⟨w.heap.size, 0, none⟩))) (w.alloc (.cells zs ty)) := by
  subst hty
  exact ⟨h.i.box ok n i ht hp hL (fun j b hb hp => by have := List.all_eq_true.1 hu (b, j) (List.mk_mem_zipIdx_iff_getElem?.2 hb); simpa [hp] using this) (fun t ht => by have := List.all_eq_true.1 hs t ht; simpa using this) (fun kd e => by rw [hk] at e; cases e) hz, dd_upd h.dd (all_D hD)⟩
theorem RgJ.st (h : RgJ W0 T K D L vs w) (ok : RgOk T K) (n i : Nat) {t : Tg} (ht : T[i]? = some t) (hsn : t.s = n) (hup : t.up L = true) (hu : (T.zipIdx.all fun x => decide (x.1.s ≠ n) || decide (x.2 = i)) = true) (hp : (T.all fun t => decide (t.p ≠ some n)) = true) (hk : K[n]? = some none) {cs' : List Value} (hc : Chg [t.bid vs] w w') (hb : Blk w' (t.bid vs) cs' t.ty) (hpost : t.post cs' w') (hD : ∀ x ∈ D, x.1 = n → L x.2 = true) (v : Value) :
    RgJ W0 T K D (updB L n) (updV vs n v) w' :=
  ⟨h.i.st ok n i ht hsn hup (fun j b hb hs => by have := List.all_eq_true.1 hu (b, j) (List.mk_mem_zipIdx_iff_getElem?.2 hb); simpa [hs] using this) (fun t ht => by have := List.all_eq_true.1 hp t ht; simpa using this) (fun kd e => by rw [hk] at e; cases e) hc hb hpost v, dd_upd h.dd hD⟩
/-- The block of a target that was not stored into yet. -/
theorem RgJ.tgt (h : RgJ W0 T K D L vs w) (i : Nat) {t : Tg} (ht : T[i]? = some t) (hup : t.up L = true) (hL : L t.s = false) : Blk w (t.bid vs) t.z t.ty ∧ ∀ p, t.p = some p → vs p = .pointer (some ⟨t.bid vs, 0, none⟩) := by
  obtain ⟨cs, q1, _, q3, q4⟩ := h.i.t i t ht hup
  rw [q3 hL] at q1
  exact ⟨q1, fun p hp => (q4 p hp).1⟩
end
theorem meas24 {k : Nat} (h : k < 24) : 24 - (intOf (.int .i64 ((k : Int) + 1))).toNat < 24 - (intOf (.int .i64 (k : Int))).toNat := by
  have h1 : ((k : Int) + 1).toNat = k + 1 := by omega
  show 24 - ((k : Int) + 1).toNat < 24 - (k : Int).toNat
  rw [h1, Int.toNat_natCast]
  omega
/-- The measure, closed: the kernel compares its arguments alone. -/
def ms24 (v : Value) : Nat := 24 - (intOf v).toNat
theorem ms24_lt {k : Nat} (h : k < 24) : ms24 (.int .i64 ((k : Int) + 1)) < ms24 (.int .i64 (k : Int)) := meas24 h
/-- A box that holds such cells. -/
def HasT (ty : TypeId) (H : List Value → World → Prop) (w : World) (g : Nat) : Prop := ∃ cs, Blk w g cs ty ∧ H cs w
theorem RgJ.fin2 {W0 w : World} {T : List Tg} {K : List (Option XReg.Kind)} {D : List (Nat × Nat)} {L : Nat → Bool} {vs : Nat → Value} (h : RgJ W0 T K D L vs w) {a b : Tg} (ha : T[0]? = some a) (hb : T[1]? = some b) {p q : Nat} (hp : a.p = some p) (hq : b.p = some q) (hL0 : L a.s = true) (hL1 : L b.s = true) :
    ∃ g k, vs p = .pointer (some ⟨g, 0, none⟩) ∧ vs q = .pointer (some ⟨k, 0, none⟩) ∧ g ≠ k ∧ W0.heap.size ≤ g ∧ W0.heap.size ≤ k ∧ HasT a.ty a.post w g ∧ HasT b.ty b.post w k := by
  obtain ⟨c0, h1, h2, h3⟩ := h.i.fin ha hL0
  obtain ⟨c1, k1, k2, k3⟩ := h.i.fin hb hL1
  exact ⟨_, _, (h3 p hp).1, (k3 q hq).1, h.i.d 0 1 a b ha hb (by decide) (h.i.o a (List.mem_of_getElem? ha) hL0) (h.i.o b (List.mem_of_getElem? hb) hL1), (h3 p hp).2, (k3 q hq).2, ⟨c0, h1, h2⟩, ⟨c1, k1, k2⟩⟩
abbrev HasP (p : Pl) : World → Nat → Prop := HasT 43 (holdP p)
abbrev HasO (p : Pl) (id q : Int) : World → Nat → Prop := HasT 45 (holdO p id q)
theorem HasT.ext {ty : TypeId} {H : List Value → World → Prop} {w w' : World} {g : Nat} (h : HasT ty H w g) (hk : ∀ cs, Keeps blT (H cs)) (hx : Ext w w') : HasT ty H w' g := by
  obtain ⟨cs, h1, h2⟩ := h
  exact ⟨cs, h1.ext hx, (hk cs).1 _ _ hx h2⟩
theorem HasP.ext {p : Pl} {w w' : World} {g : Nat} (h : HasP p w g) (hx : Ext w w') : HasP p w' g := HasT.ext h (holdP_keeps (fun _ h => h) p) hx
theorem HasO.ext {p : Pl} {id q : Int} {w w' : World} {g : Nat} (h : HasO p id q w g) (hx : Ext w w') : HasO p id q w' g := HasT.ext h (holdO_keeps (fun _ h => h) p id q) hx
/-- What a box of a pool holds, spelt out. -/
theorem HasP.out {p : Pl} {w : World} {g : Nat} (h : HasP p w g) : ∃ a c b d, Blk w g [.slice a p.clear.length c, .slice b p.jobs.length d, (.int .i64 p.now)] 43 ∧ holdP p [.slice a p.clear.length c, .slice b p.jobs.length d, (.int .i64 p.now)] w := by
  obtain ⟨cs, h1, a, c, b, d, fc, fj, rfl, hO⟩ := h
  exact ⟨a, c, b, d, h1, a, c, b, d, fc, fj, rfl, hO⟩
theorem HasO.out {p : Pl} {id q : Int} {w : World} {g : Nat} (h : HasO p id q w g) : ∃ a c b d, Blk w g [.slice a p.clear.length c, .slice b p.jobs.length d, (.int .i64 p.now), (.int .i64 id), (.int .i64 q)] 45 ∧ holdP p [.slice a p.clear.length c, .slice b p.jobs.length d, (.int .i64 p.now)] w := by
  obtain ⟨cs, h1, a, c, b, d, fc, fj, rfl, hO⟩ := h
  exact ⟨a, c, b, d, h1, a, c, b, d, fc, fj, rfl, hO⟩
theorem tq (n : Nat) (c : Int) (hc : 0 < c) : ∃ q : Nat, Int.tdiv (n : Int) c = (q : Int) ∧ q ≤ n := ⟨((n : Int) / c).toNat, by
  have h1 : (n : Int) / c ≤ (n : Int) := Int.ediv_le_self _ (by omega)
  rw [Int.tdiv_eq_ediv_of_nonneg (by omega), Int.toNat_of_nonneg (Int.ediv_nonneg (by omega) (by omega))]
  exact ⟨rfl, by omega⟩⟩
theorem tm (n : Nat) (c : Int) (hc : 0 < c) : ∃ q : Nat, Int.tmod (n : Int) c = (q : Int) ∧ (q : Int) < c := ⟨((n : Int) % c).toNat, by
  have h1 := Int.emod_nonneg (n : Int) (show c ≠ 0 by omega)
  rw [Int.tmod_eq_emod_of_nonneg (by omega), Int.toNat_of_nonneg h1]
  exact ⟨rfl, Int.emod_lt_of_pos _ hc⟩⟩
theorem mine_at {w : World} {g n2 : Nat} (h : n2 < 2) (hb : Blk w g [(.int .i64 0), (.int .i64 0), (.int .i64 1), (.int .i64 1)] 24) : ∃ x : Lab, bP x = true ∧ bQ x = true ∧ x.ok ∧ w.old g ∧ w.cell? ⟨g, n2 * 2, none⟩ = some (.int .i64 x.lv) ∧ w.cell? ⟨g, n2 * 2 + 1, none⟩ = some (.int .i64 x.st) := by
  have hi : n2 = 0 ∨ n2 = 1 := by omega
  rcases hi with rfl | rfl
  · exact ⟨bLow, by decide, by decide, by unfold Lab.ok I64; decide, hb.old, hb.cell 0, hb.cell 1⟩
  · exact ⟨bMid, by decide, by decide, by unfold Lab.ok I64; decide, hb.old, hb.cell 2, hb.cell 3⟩
theorem other_at {w : World} {g n2 : Nat} (h : n2 < 2) (hb : Blk w g [(.int .i64 1), (.int .i64 2), (.int .i64 2), (.int .i64 1)] 24) : ∃ x : Lab, bP x = false ∧ bQ x = true ∧ x.ok ∧ w.old g ∧ w.cell? ⟨g, n2 * 2, none⟩ = some (.int .i64 x.lv) ∧ w.cell? ⟨g, n2 * 2 + 1, none⟩ = some (.int .i64 x.st) := by
  have hi : n2 = 0 ∨ n2 = 1 := by omega
  rcases hi with rfl | rfl
  · exact ⟨bSide, by decide, by decide, by unfold Lab.ok I64; decide, hb.old, hb.cell 0, hb.cell 1⟩
  · exact ⟨bTop, by decide, by decide, by unfold Lab.ok I64; decide, hb.old, hb.cell 2, hb.cell 3⟩
theorem holdP_chg {p : Pl} {cs : List Value} {S : List Nat} {w w' : World} (h : holdP p cs w) (hx : Chg S w w') (hS : ∀ g ∈ S, ∃ c, ∃ ty ∈ blT, Blk w g c ty) : holdP p cs w' := by
  obtain ⟨a, c, b, d, fc, fj, hv, hO⟩ := h
  refine ⟨a, c, b, d, fc, fj, hv, hO.far hx fun q hq hm => ?_⟩
  obtain ⟨cc, ty, hty, hb⟩ := hS q hm
  exact hO.boxT hb (blT_no hty).1 (blT_no hty).2 q hq (List.mem_singleton.2 rfl)
theorem HasP.chg {p : Pl} {g : Nat} {S : List Nat} {w w' : World} (h : HasP p w g) (hx : Chg S w w') (hS : ∀ g ∈ S, ∃ c, ∃ ty ∈ blT, Blk w g c ty) (hg : g ∉ S) : HasP p w' g := by
  obtain ⟨cs, h1, h2⟩ := h
  exact ⟨cs, h1.chg hx hg, holdP_chg h2 hx hS⟩
theorem two_blk {g k : Nat} {w : World} {c d : List Value} (h1 : Blk w g c 43) (h2 : Blk w k d 43) : ∀ q ∈ [g, k], ∃ c, ∃ ty ∈ blT, Blk w q c ty := fun q hq => by
  simp at hq
  rcases hq with rfl | rfl
  · exact ⟨c, _, by simp [blT], h1⟩
  · exact ⟨d, _, by simp [blT], h2⟩
theorem set5_chgB {w : World} {g : Nat} {x0 x1 x2 x3 x4 : Value} {ty : TypeId} (h : Blk w g [x0, x1, x2, x3, x4] ty) (a b c d e : Value) : Chg [g] w (((((w.setCell ⟨g, 0, none⟩ a).setCell ⟨g, 1, none⟩ b).setCell ⟨g, 2, none⟩ c).setCell ⟨g, 3, none⟩ d).setCell ⟨g, 4, none⟩ e) ∧ Blk (((((w.setCell ⟨g, 0, none⟩ a).setCell ⟨g, 1, none⟩ b).setCell ⟨g, 2, none⟩ c).setCell ⟨g, 3, none⟩ d).setCell ⟨g, 4, none⟩ e) g [a, b, c, d, e] ty := ⟨set5s_chg _ _ _ _ _ _ _, h.set5s _ _ _ _ _⟩
theorem Bl.sub2 {P Q : Lab → Bool} {a b : Pl} (h : Bl P Q a b) {x : Lab} (hx : P x = true) (hq : Q x = true) (n l q : Int) :
    ∃ a' b' id c, subR a x n l q = (a', id, c) ∧ subR b x n l q = (b', id, c) ∧ (c = 0 → Bl P Q a' b' ∧ a'.now = a.now) := by
  obtain ⟨h1, h2⟩ := h.sub_in hx hq (n := n) (l := l) (q := q)
  refine ⟨(subR a x n l q).1, (subR b x n l q).1, (subR a x n l q).2.1, (subR a x n l q).2.2, rfl, by rw [h1], fun h0 => ⟨h2 h0, subR_now h0⟩⟩
theorem Bl.ch2 {P Q : Lab → Bool} {a b : Pl} (h : Bl P Q a b) {x : Lab} (hx : P x = true) (id st : Int) :
    ∃ a' b' i c, chR a x id st = (a', i, c) ∧ chR b x id st = (b', i, c) ∧ (c = 0 → Bl P Q a' b' ∧ a'.now = a.now) := by
  obtain ⟨h1, h2⟩ := h.ch_in hx (id := id) (st := st)
  refine ⟨(chR a x id st).1, (chR b x id st).1, (chR a x id st).2.1, (chR a x id st).2.2, rfl, by rw [h1], fun h0 => ⟨h2 h0, chR_now h0⟩⟩
theorem two_ne {a b : Tg} {T0 T1 : Tg} {i j : Nat} (hn : T0.g ≠ T1.g) (ha : [T0, T1][i]? = some a) (hb : [T0, T1][j]? = some b) (hij : i ≠ j) : a.g ≠ b.g := by
  match i, j, ha, hb with
  | 0, 0, _, _ => exact absurd rfl hij
  | 0, 1, ha, hb => obtain rfl := Option.some.inj ha; obtain rfl := Option.some.inj hb; exact hn
  | 1, 0, ha, hb => obtain rfl := Option.some.inj ha; obtain rfl := Option.some.inj hb; exact fun e => hn e.symm
  | 1, 1, _, _ => exact absurd rfl hij
  | i + 2, _, ha, _ => simp at ha
  | 0, j + 2, _, hb => simp at hb
  | 1, j + 2, _, hb => simp at hb
/-- An elder box, behind the region. -/
theorem RgJ.eld {W0 w : World} {T : List Tg} {K : List (Option XReg.Kind)} {D : List (Nat × Nat)} {L : Nat → Bool} {vs : Nat → Value} (h : RgJ W0 T K D L vs w) (i : Nat) {t : Tg} (ht : T[i]? = some t) (hp : t.p = none) (hL : L t.s = true) : HasT t.ty t.post w t.g := by
  obtain ⟨cs, h1, h2, _⟩ := h.i.fin ht hL
  have e : t.bid vs = t.g := by unfold Tg.bid; rw [hp]
  rw [e] at h1
  exact ⟨cs, h1, h2⟩
theorem old_setCell {w : World} {g : Nat} (h : w.old g) (a : Addr) (v : Value) : (w.setCell a v).old g := by unfold World.old at h ⊢; simpa using h
theorem set5_plusR {w : World} {X : More} {g : Nat} {a b c d e : Value} (h : w.old g) : (((((w.plus X).setCell ⟨g, 0, none⟩ a).setCell ⟨g, 1, none⟩ b).setCell ⟨g, 2, none⟩ c).setCell ⟨g, 3, none⟩ d).setCell ⟨g, 4, none⟩ e = (((((w.setCell ⟨g, 0, none⟩ a).setCell ⟨g, 1, none⟩ b).setCell ⟨g, 2, none⟩ c).setCell ⟨g, 3, none⟩ d).setCell ⟨g, 4, none⟩ e).plus X := by
  rw [World.setCell_plus _ _ _ _ _ h, World.setCell_plus _ _ _ _ _ (old_setCell h _ _), World.setCell_plus _ _ _ _ _ (old_setCell (old_setCell h _ _) _ _), World.setCell_plus _ _ _ _ _ (old_setCell (old_setCell (old_setCell h _ _) _ _) _ _), World.setCell_plus _ _ _ _ _ (old_setCell (old_setCell (old_setCell (old_setCell h _ _) _ _) _ _) _ _)]
theorem Bl.sub3 {P Q : Lab → Bool} {a b : Pl} (h : Bl P Q a b) {x : Lab} (hx : P x = false) (hq : Q x = true) (n l q : Int) :
    ∃ b' id c, subR b x n l q = (b', id, c) ∧ (c = 0 → Bl P Q a b') :=
  ⟨_, _, _, rfl, fun h0 => h.sub_out hx hq h0⟩
theorem Bl.ch3 {P Q : Lab → Bool} {a b : Pl} (h : Bl P Q a b) {x : Lab} (hx : P x = false) (id st : Int) :
    ∃ b' i c, chR b x id st = (b', i, c) ∧ (c = 0 → Bl P Q a b') :=
  ⟨_, _, _, rfl, fun h0 => h.ch_out hx h0⟩
theorem one_blk {g : Nat} {w : World} {c : List Value} (h1 : Blk w g c 45) : ∀ q ∈ [g], ∃ c, ∃ ty ∈ blT, Blk w q c ty := fun q hq => by
  obtain rfl := List.mem_singleton.1 hq
  exact ⟨c, _, by simp [blT], h1⟩
theorem one_blkP {g : Nat} {w : World} {c : List Value} (h1 : Blk w g c 43) : ∀ q ∈ [g], ∃ c, ∃ ty ∈ blT, Blk w q c ty := fun q hq => by
  obtain rfl := List.mem_singleton.1 hq
  exact ⟨c, _, by simp [blT], h1⟩
theorem b_view {a b : Pl} (h : Bl bP bQ a b) : viewS a bMid = viewS b bMid ∧ viewS a bLow = viewS b bLow ∧ viewS a bMid ≠ ⟨#[]⟩ :=
  ⟨h.view (fun y _ hb => hb), h.view b_low, view_ne h.ra (by decide)⟩
theorem set3_chgB {w : World} {g : Nat} {x0 x1 x2 : Value} {ty : TypeId} (h : Blk w g [x0, x1, x2] ty) (a b c : Value) : Chg [g] w (((w.setCell ⟨g, 0, none⟩ a).setCell ⟨g, 1, none⟩ b).setCell ⟨g, 2, none⟩ c) ∧ Blk (((w.setCell ⟨g, 0, none⟩ a).setCell ⟨g, 1, none⟩ b).setCell ⟨g, 2, none⟩ c) g [a, b, c] ty := ⟨set3_chgR _ _ _ _ _, set3_blk3 h _ _ _⟩
theorem hasO_of {s : Pl} {id q : Int} {w : World} {g : Nat} {a b : Option Addr} {c d : Nat} (hb : Blk w g [.slice a s.clear.length c, .slice b s.jobs.length d, (.int .i64 s.now), (.int .i64 id), (.int .i64 q)] 45) (hP : holdP s [.slice a s.clear.length c, .slice b s.jobs.length d, (.int .i64 s.now)] w) : HasO s id q w g := by
  obtain ⟨a', c', b', d', fc, fj, hv, hO⟩ := hP
  simp at hv
  obtain ⟨⟨rfl, rfl⟩, rfl, rfl⟩ := hv
  exact ⟨_, hb, _, _, _, _, fc, fj, rfl, hO⟩
theorem stored5 {W : World} {X : More} {B g : Nat} {x0 x1 x2 x3 x4 : Value} {fc fj : List Nat} {t : Pl} {i r : Int} {a b : Option Addr} {c d : Nat} (hb : Blk W g [x0, x1, x2, x3, x4] 45) (hO : OwnP B (W.plus X) fc fj (.slice a t.clear.length c) (.slice b t.jobs.length d) t) :
    HasO t i r ((((((W.setCell ⟨g, 0, none⟩ (.slice a t.clear.length c)).setCell ⟨g, 1, none⟩ (.slice b t.jobs.length d)).setCell ⟨g, 2, none⟩ (.int .i64 t.now)).setCell ⟨g, 3, none⟩ (.int .i64 i)).setCell ⟨g, 4, none⟩ (.int .i64 r)).plus X) g ∧ Chg [g] W ((((((W.setCell ⟨g, 0, none⟩ (.slice a t.clear.length c)).setCell ⟨g, 1, none⟩ (.slice b t.jobs.length d)).setCell ⟨g, 2, none⟩ (.int .i64 t.now)).setCell ⟨g, 3, none⟩ (.int .i64 i)).setCell ⟨g, 4, none⟩ (.int .i64 r)).plus X) := by
  have h9 := set5_chgB hb (.slice a t.clear.length c) (.slice b t.jobs.length d) (.int .i64 t.now) (.int .i64 i) (.int .i64 r)
  refine ⟨⟨_, h9.2.ext ((Ext.refl _).plus X), a, c, b, d, fc, fj, rfl, ?_⟩, h9.1.plus X⟩
  rw [← set5_plusR hb.old]
  exact (hO.far (set5s_chg (W.plus X) g _ _ _ _ _) (hO.boxT (hb.ext ((Ext.refl _).plus X)) (by decide) (by decide))).mono (Nat.zero_le _)
theorem stored3 {W : World} {g : Nat} {x0 x1 x2 : Value} {t : Pl} {a b : Option Addr} {c d : Nat} (hb : Blk W g [x0, x1, x2] 43) (hP : holdP t [.slice a t.clear.length c, .slice b t.jobs.length d, (.int .i64 t.now)] W) :
    HasP t (((W.setCell ⟨g, 0, none⟩ (.slice a t.clear.length c)).setCell ⟨g, 1, none⟩ (.slice b t.jobs.length d)).setCell ⟨g, 2, none⟩ (.int .i64 t.now)) g ∧ Chg [g] W (((W.setCell ⟨g, 0, none⟩ (.slice a t.clear.length c)).setCell ⟨g, 1, none⟩ (.slice b t.jobs.length d)).setCell ⟨g, 2, none⟩ (.int .i64 t.now)) := by
  have h9 := set3_chgB hb (.slice a t.clear.length c) (.slice b t.jobs.length d) (.int .i64 t.now)
  exact ⟨⟨_, h9.2, holdP_chg hP h9.1 (one_blkP hb)⟩, h9.1⟩
theorem view_two {c e : Pl} (h : Bl bP bQ c e) : ∃ s1 s2 : ByteArray, viewS c bMid = s1 ∧ viewS e bMid = s1 ∧ viewS c bLow = s2 ∧ viewS e bLow = s2 ∧ ¬ s1.toList = [] := by
  obtain ⟨h1, h2, h3⟩ := b_view h
  exact ⟨viewS c bMid, viewS c bLow, rfl, h1.symm, rfl, h2.symm, fun h => h3 (ByteArray.ext (Array.ext' (by rw [← ByteArray.toList_eq]; exact h)))⟩
end Go.Proofs.Ytkhmdhdaldbbhaa
