/- Plain maths of FnDown: a desk that lets a word down, or whose time passes, stays right; who it is let down to reads it. -/
import Derived.Test.YtocadhcggkbimaaLD1
import Derived.Test.YtocadhcggkbimaaLD3
import Derived.Test.YtocadhcggkbimaaTAB
import Derived.Test.YtocadhcggkbimaaLL
set_option maxRecDepth 100000
set_option linter.unusedVariables false
namespace Go.Proofs.Ytocadhcggkbimaa
open Go.RowKit Go.Fin1
theorem letsR_all {ps : List Ltr} {now most : Int} {l : List Ltr} (h : letsR ps now l most = true) : ∀ i, i < l.length → letAt ps now l i = true := by
  unfold letsR at h
  rw [Bool.and_eq_true, List.all_eq_true] at h
  exact fun i hi => h.2 i (List.mem_range.2 hi)
theorem letsR_p {ps : List Ltr} {now most : Int} {l : List Ltr} (h : letsR ps now l most = true) {i : Nat} (hi : i < l.length) : 0 ≤ l[i].p ∧ l[i].p ≤ now := by
  have := letsR_all h i hi
  rw [letAt_eq ps now hi] at this
  simp only [Bool.and_eq_true] at this
  exact isIn_iff.1 this.1.1.2
theorem letsR_later {ps : List Ltr} {now now' most : Int} {l : List Ltr} (h : letsR ps now l most = true) (hn : now ≤ now') : letsR ps now' l most = true := by
  rw [letsR_yes fun i hi => ?_]
  · exact decide_eq_true (letsR_len h)
  · have h1 := letsR_all h i hi
    have h2 := letsR_p h hi
    rw [letAt_eq ps now hi] at h1
    rw [letAt_eq ps now' hi]
    simp only [Bool.and_eq_true] at h1 ⊢
    exact ⟨⟨⟨h1.1.1.1, isIn_iff.2 ⟨h2.1, by omega⟩⟩, h1.1.2⟩, h1.2⟩
theorem letsR_push {ps : List Ltr} {now most : Int} {l : List Ltr} {x : Ltr} (h : letsR ps now l most = true) (h1 : hasT ps ⟨x.a, x.b, 0, 0⟩ = true) (h2 : x.p = now) (h0 : 0 ≤ now) (h3 : isIn x.q 0 1000000 = true) (h4 : (l.length : Int) < most) : letsR ps now (l ++ [x]) most = true := by
  rw [letsR_yes fun i hi => ?_]
  · exact decide_eq_true (by simp; omega)
  · rw [letAt_eq ps now hi]
    rw [List.length_append, List.length_singleton] at hi
    by_cases e : i < l.length
    · have k1 := letsR_all h i e
      rw [letAt_eq ps now e] at k1
      rw [List.getElem_append_left e]
      have e2 : (l ++ [x]).getD (i - 1) zT = l.getD (i - 1) zT := by
        have : i - 1 < l.length := by omega
        simp [List.getElem?_append_left this]
      rw [e2]; exact k1
    · obtain rfl : i = l.length := by omega
      rw [List.getElem_append_right (Nat.le_refl _)]
      simp only [Nat.sub_self, List.getElem_singleton]
      rw [h1, h2, h3, isIn_iff.2 ⟨h0, Int.le_refl _⟩]
      simp only [Bool.true_and]
      by_cases e0 : l.length = 0
      · rw [e0]; rfl
      · have hlt : l.length - 1 < l.length := by omega
        have := (letsR_p h hlt).2
        have e2 : (l ++ [x]).getD (l.length - 1) zT = l[l.length - 1] := by
          simp [List.getElem?_append_left hlt, List.getElem?_eq_getElem hlt]
        rw [e2, decide_eq_true this, Bool.or_true]
theorem cntT_push (l : List Ltr) (x : Ltr) : cntT (l ++ [x]) x.p = cntT l x.p + 1 := by
  unfold cntT; rw [List.countP_append]; simp
theorem cntT_none {l : List Ltr} {now : Int} (h : ∀ (i : Nat) (hi : i < l.length), l[i].p < now) : cntT l now = 0 := by
  unfold cntT
  rw [List.countP_eq_zero]
  intro y hy
  obtain ⟨i, hi, rfl⟩ := List.mem_iff_getElem.1 hy
  have := h i hi
  simp; omega
theorem boxR_mk {d : Dk} (h1 : chansR d.pairs = true) (h2 : isIn d.now 0 999900 = true) (h3 : letsR d.pairs d.now d.box 6 = true) (h4 : letsR d.pairs d.now d.audit 20 = true) (h5 : d.used = cntT d.audit d.now) (h6 : (cntT d.audit d.now : Int) ≤ 2) (h7 : (d.box.any (fun x => !hasT d.audit x)) = false) : boxR d = true := by
  unfold boxR
  rw [h1, h2, h3, h4, decide_eq_true h5, decide_eq_true h6, h7]; rfl
theorem boxR_any {d : Dk} (h : boxR d = true) : (d.box.any (fun x => !hasT d.audit x)) = false := by
  unfold boxR at h; simp only [Bool.and_eq_true] at h
  simpa using h.2
theorem boxR_next {d : Dk} (h : boxR d = true) (hn : ¬ d.now = 999900) : boxR (nextD d) = true := by
  obtain ⟨h1, h2, h3, h4, h5, h6⟩ := boxR_at h
  have h2' := isIn_iff.1 h2
  have hc : cntT d.audit (d.now + 1) = 0 := cntT_none fun i hi => by have := (letsR_p h4 hi).2; omega
  refine boxR_mk h1 (isIn_iff.2 ⟨by show (0 : Int) ≤ d.now + 1; omega, by show d.now + 1 ≤ 999900; omega⟩) ?_ (letsR_later h4 (by show d.now ≤ d.now + 1; omega)) ?_ ?_ rfl
  · rw [letsR_yes fun i hi => absurd hi (Nat.not_lt_zero _)]
    exact decide_eq_true (show ((0 : Nat) : Int) ≤ 6 by omega)
  · show (0 : Int) = cntT d.audit (d.now + 1); rw [hc]; rfl
  · show (cntT d.audit (d.now + 1) : Int) ≤ 2; rw [hc]; decide
theorem hasT_app (l : List Ltr) (x y : Ltr) : hasT (l ++ [x]) y = (hasT l y || hasT [x] y) := by unfold hasT; rw [List.any_append]
theorem hasT_one (x : Ltr) : hasT [x] x = true := by unfold hasT sameT; simp
theorem boxR_let {d : Dk} {a b : Lab} {q : Int} (h : boxR d = true) (hq : isIn q 0 1000000 = true) (hp : hasT d.pairs ⟨a, b, 0, 0⟩ = true) (hu : ¬ d.used = 2) (hf : ¬ (d.box.length = 6 ∨ d.audit.length = 20)) : boxR (letD d a b q) = true := by
  obtain ⟨h1, h2, h3, h4, h5, h6⟩ := boxR_at h
  have h2' := isIn_iff.1 h2
  have l3 := letsR_len h3
  have l4 := letsR_len h4
  have hc : cntT (d.audit ++ [letX d a b q]) d.now = cntT d.audit d.now + 1 := cntT_push d.audit (letX d a b q)
  refine boxR_mk h1 h2 (letsR_push h3 hp rfl h2'.1 hq (by omega)) (letsR_push h4 hp rfl h2'.1 hq (by omega)) ?_ ?_ ?_
  · show d.used + 1 = cntT (d.audit ++ [letX d a b q]) d.now; rw [hc]; omega
  · show (cntT (d.audit ++ [letX d a b q]) d.now : Int) ≤ 2; rw [hc]; omega
  · show ((d.box ++ [letX d a b q]).any (fun x => !hasT (d.audit ++ [letX d a b q]) x)) = false
    rw [List.any_append, Bool.or_eq_false_iff]
    constructor
    · have := boxR_any h
      rw [List.any_eq_false] at this ⊢
      intro y hy
      have k := this y hy
      rw [hasT_app]
      simp only [Bool.not_eq_true, Bool.not_eq_false'] at k ⊢
      rw [k]; rfl
    · rw [List.any_cons, List.any_nil, hasT_app, hasT_one]; simp
theorem lab_of_pair {d : Dk} {a b : Lab} (h : boxR d = true) (hp : hasT d.pairs ⟨a, b, 0, 0⟩ = true) : labR b = true := by
  obtain ⟨h1, -⟩ := boxR_at h
  have hk := chansR_at h1
  rw [← hasP_eq h1] at hp
  unfold hasP at hp
  obtain ⟨y, hy, hs⟩ := List.any_eq_true.1 hp
  obtain ⟨i, hi, rfl⟩ := List.mem_iff_getElem.1 hy
  unfold chansR at h1
  rw [Bool.and_eq_true, List.all_eq_true] at h1
  have := h1.2 i (List.mem_range.2 hi)
  rw [chanAt_eq hi] at this
  simp only [Bool.and_eq_true] at this hs
  have hb := this.1.1.1.2
  have he : d.pairs[i].b = b := by
    have := hs.2
    unfold sameL at this
    simp only [Bool.and_eq_true, decide_eq_true_eq] at this
    obtain ⟨b1, b2⟩ := b
    have e1 := this.1
    have e2 := this.2
    cases hx : d.pairs[i].b with
    | mk u v => rw [hx] at e1 e2; simp at e1 e2; rw [e1, e2]
  rw [he] at hb; exact hb
theorem labR_at2 {x : Lab} (h : labR x = true) : ∃ n m : Nat, x = ⟨n, m⟩ ∧ n < 4 ∧ m < 8 := by
  unfold labR at h
  rw [Bool.and_eq_true, isIn_iff, isIn_iff] at h
  obtain ⟨a, b⟩ := x
  simp only at h
  refine ⟨a.toNat, b.toNat, ?_, by omega, by omega⟩
  rw [Int.toNat_of_nonneg h.1.1, Int.toNat_of_nonneg h.2.1]
theorem blw_refl {b : Lab} (h : labR b = true) : blw b b = true := by
  obtain ⟨n, m, rfl, hn, hm⟩ := labR_at2 h
  unfold blw
  rw [decide_eq_true (Int.le_refl _), Bool.true_and]
  have : ∀ m, m < 8 → (bits .and .i64 (m : Nat) (m : Nat) == (m : Nat)) = true := by decide +kernel
  exact this m hm
theorem reads_let {d : Dk} {a b : Lab} {q : Int} (h : boxR d = true) (hq : isIn q 0 1000000 = true) (hp : hasT d.pairs ⟨a, b, 0, 0⟩ = true) (hu : ¬ d.used = 2) (hf : ¬ (d.box.length = 6 ∨ d.audit.length = 20)) : ∃ l, readsD (letD d a b q) b = l ++ [q] := by
  have hb := lab_of_pair h hp
  rw [readsD_yes (boxR_let h hq hp hu hf) hb]
  refine ⟨rdN d.box b d.box.length, ?_⟩
  show rdN (d.box ++ [letX d a b q]) b (d.box ++ [letX d a b q]).length = _
  unfold rdN
  rw [List.take_length, List.take_length, List.filter_append, List.map_append]
  have : blw (letX d a b q).b b = true := blw_refl hb
  rw [show List.filter (fun y => blw y.b b) [letX d a b q] = [letX d a b q] by rw [List.filter_cons_of_pos (by exact this), List.filter_nil]]
  rfl
theorem reads_next {d : Dk} (x : Lab) : readsD (nextD d) x = [] := by
  have := readsD_len (nextD d) x
  have h2 : (nextD d).box.length = 0 := rfl
  exact List.eq_nil_of_length_eq_zero (by omega)
end Go.Proofs.Ytocadhcggkbimaa

set_option maxRecDepth 100000
set_option linter.unusedVariables false
namespace Go.Proofs.Ytocadhcggkbimaa
open Go.RowKit Go.Fin1
set_option maxHeartbeats 800000 in
theorem specNextTime_own (d : Dk) (v : Value) (w : World) (h : eDesk w v d) (hf : d.sz ≤ 1048576) :
    Calls Try.prog 13 #[v] w fun e w' => ∃ p b a f1 f2 f3, e = .returned (stV (nextR d).1 (nextR d).2 p b a) ∧ Ext w w' ∧ OwnD w.heap.size w' f1 f2 f3 p b a (nextR d).1 := by
  have HD := Lib.hid h
  obtain ⟨a1, c1, a2, c2, a3, c3, rfl, z1, z2, h1, h2, h3⟩ := h
  clear h1 h2 h3 z1
  unfold Dk.val at HD ⊢
  cases q1 : boxR d
  · rw [nextR_no q1]
    go_enter Try.func13, Try.ntmps13
    go_wp2_with (go_at_call 18; refine (specBoxRight_any d _ _ (HD.out.ext (by repeat (first | exact Ext.refl _ | apply Ext.plus | apply Ext.alloc | apply Ext.drew)))).mono ?_; rintro e _ ⟨rfl, X, rfl⟩)
    exact bodyPost_ret (v := .agg #[.slice none 0 0, .slice none 0 0, .slice none 0 0, (.int .i64 0), (.int .i64 0), (.int .i64 1)]) (by simp [results, Try.results13, go_sem]) rfl ⟨_, _, _, [], [], [], rfl, (by repeat' (first | (with_reducible exact Ext.refl _) | (with_reducible refine Ext.plus ?_ _) | (with_reducible refine Ext.alloc ?_ _) | (with_reducible refine Ext.setCell ?_ ?_ _) | (with_reducible refine Ext.drew ?_) | (with_reducible exact Nat.le_refl _) | (dsimp only; omega))), OwnD.zero _ _⟩
  · have hnow := isIn_iff.1 (boxR_at q1).2.1
    by_cases q2 : d.now = 999900
    · rw [nextR_full q1 q2]
      have hb : decide ((999900 : Int) ≤ d.now) = true := decide_eq_true (by omega)
      clear q2 hnow
      go_enter Try.func13, Try.ntmps13
      go_wp2_with (go_at_call 18; refine (specBoxRight_any d _ _ (HD.out.ext (by repeat (first | exact Ext.refl _ | apply Ext.plus | apply Ext.alloc | apply Ext.drew)))).mono ?_; rintro e _ ⟨rfl, X, rfl⟩)
      exact bodyPost_ret (v := .agg #[.slice none 0 0, .slice none 0 0, .slice none 0 0, (.int .i64 0), (.int .i64 0), (.int .i64 9)]) (by simp [results, Try.results13, go_sem]) rfl ⟨_, _, _, [], [], [], rfl, (by repeat' (first | (with_reducible exact Ext.refl _) | (with_reducible refine Ext.plus ?_ _) | (with_reducible refine Ext.alloc ?_ _) | (with_reducible refine Ext.setCell ?_ ?_ _) | (with_reducible refine Ext.drew ?_) | (with_reducible exact Nat.le_refl _) | (dsimp only; omega))), OwnD.zero _ _⟩
    · rw [nextR_yes q1 q2]
      have hb : decide ((999900 : Int) ≤ d.now) = false := decide_eq_false (by omega)
      clear q2
      go_enter Try.func13, Try.ntmps13
      go_wp2_with (go_at_call 18; refine (specBoxRight_any d _ _ (HD.out.ext (by repeat (first | exact Ext.refl _ | apply Ext.plus | apply Ext.alloc | apply Ext.drew)))).mono ?_; rintro e _ ⟨rfl, X, rfl⟩)
      refine (l06Copy_own d _ _ (HD.out.ext (by repeat (first | exact Ext.refl _ | apply Ext.plus | apply Ext.alloc | apply Ext.drew))) hf).mono ?_
      rintro e _ ⟨p, b, a, f1, f2, f3, rfl, ⟨Y, rfl⟩, hO⟩
      have HO := Lib.hid hO
      obtain ⟨b1, e1, rfl⟩ := hO.p.shape
      obtain ⟨b2, e2, rfl⟩ := hO.b.shape
      obtain ⟨b3, e3, rfl⟩ := hO.a.shape
      clear hO
      unfold Dk.val
      go_wp2
      refine bodyPost_ret (v := .agg #[.slice b1 d.pairs.length e1, .slice none 0 0, .slice b3 d.audit.length e3, (.int .i64 0), (.int .i64 (d.now + 1)), (.int .i64 0)]) (by simp [results, Try.results13, go_sem]) rfl ⟨.slice b1 d.pairs.length e1, _, .slice b3 d.audit.length e3, f1, [], f3, rfl, (by repeat' (first | (with_reducible exact Ext.refl _) | (with_reducible refine Ext.plus ?_ _) | (with_reducible refine Ext.alloc ?_ _) | (with_reducible refine Ext.setCell ?_ ?_ _) | (with_reducible refine Ext.drew ?_) | (with_reducible exact Nat.le_refl _) | (dsimp only; omega))), ?_⟩
      have h1 : OwnD _ (((((w.alloc (.cells #[.slice a1 d.pairs.length c1, .slice a2 d.box.length c2, .slice a3 d.audit.length c3, (.int .i64 d.used), (.int .i64 d.now)] 25)).alloc (.cells #[.slice none 0 0, .slice none 0 0, .slice none 0 0, (.int .i64 0), (.int .i64 0), (.int .i64 0)] 31)).plus X).plus Y).alloc (.cells #[.slice b1 d.pairs.length e1, .slice none 0 0, .slice b3 d.audit.length e3, (.int .i64 0), (.int .i64 (d.now + 1))] 25)) f1 f2 f3 _ _ _ d := HO.out.ext (Ext.alloc (Ext.refl _) _)
      have h2 := h1.mono (B' := w.heap.size + 1 + 1) (by simp)
      exact ((h2.chg (S := [w.heap.size + 1]) (((((((Chg.refl _ _).setCell (.inl (by simp)) _).setCell (.inl (by simp)) _).setCell (.inl (by simp)) _).setCell (.inl (by simp)) _).setCell (.inl (by simp)) _).setCell (.inl (by simp)) _) (fun x hx => by simp at hx; omega)).next).mono (by omega)

set_option maxHeartbeats 800000 in
theorem lwLetters_self (v v' : Value) (l : List Ltr) (w : World) (h : SlR w 6 rLtr v l) (h' : SlR w 6 rLtr v' l) :
    Calls Try.prog 19 #[v, v'] w fun e w' => e = .returned (.bool true) ∧ Ext w w' := by
  obtain ⟨ad, cap, rfl⟩ := h.len
  obtain ⟨ad', cap', rfl⟩ := h'.len
  obtain ⟨-, hlc, hcm⟩ := slr_len h
  have hlm : l.length ≤ 9223372036854775807 := by unfold maxLen at hcm; omega
  clear hcm hlc
  have HS := Lib.hid h
  have HS' := Lib.hid h'
  clear h h'
  go_enter Try.func19, Try.ntmps19
  go_wp2
  go_loopw [5] (fun i wr => ∃ k : Nat, k ≤ l.length ∧ i = .int .i64 k ∧ Ext w wr) (fun i _ => l.length - (intOf i).toNat)
  case atStart => exact ⟨0, Nat.zero_le _, rfl, (by repeat (first | exact Ext.refl _ | apply Ext.plus | apply Ext.alloc | apply Ext.drew))⟩
  case round =>
    obtain ⟨k, hk, rfl, ⟨X, rfl⟩⟩ := hrel
    by_cases hlt : k < l.length
    · obtain ⟨b, off, rfl⟩ := slr_some HS.out hlt
      obtain ⟨b', off', rfl⟩ := slr_some HS'.out hlt
      obtain ⟨ho, -, h0, h1, h2, h3, h4, h5⟩ := ltr_at HS.out hlt; obtain ⟨ho', -, h0', h1', h2', h3', h4', h5'⟩ := ltr_at HS'.out hlt
      have hsf : sameT ⟨⟨l[k].a.lv, l[k].a.st⟩, ⟨l[k].b.lv, l[k].b.st⟩, l[k].p, l[k].q⟩ ⟨⟨l[k].a.lv, l[k].a.st⟩, ⟨l[k].b.lv, l[k].b.st⟩, l[k].p, l[k].q⟩ = true := by unfold sameT; simp
      go_wp2_with fail
      (refine wp_region_x 9 (by kernel_rfl) (by kernel_rfl) (by kernel_rfl) ?_; (iterate 9 (apply XReg.step; (case h => (intro w' hw'; obtain ⟨X', rfl⟩ := hw'; go_wp2_with (fail); exact ⟨rfl, (by repeat (first | exact Ext.refl _ | apply Ext.plus | apply Ext.alloc | apply Ext.drew))⟩)); (case hv => kernel_rfl))); refine XReg.doneN (fun X => ?_))
      go_wp2
      exact ⟨⟨k + 1, by omega, by go_num, (by repeat (first | exact Ext.refl _ | apply Ext.plus | apply Ext.alloc | apply Ext.drew))⟩, by simp [intOf]; omega⟩
    · go_wp2
      go_ret
      exact ⟨rfl, (by repeat (first | exact Ext.refl _ | apply Ext.plus | apply Ext.alloc | apply Ext.drew))⟩
end Go.Proofs.Ytocadhcggkbimaa

set_option maxRecDepth 100000
set_option linter.unusedVariables false
namespace Go
open Go.RowKit
theorem flat_pieces {α : Type} {f : α → List Value} {K : Nat} : ∀ (xs : List α) (l : List Value), (∀ (i : Nat) (h : i < xs.length), (l.drop (i * K)).take K = f xs[i]) → l.take (xs.length * K) = xs.flatMap f
  | [], l, _ => by simp
  | x :: xs, l, h => by
    have h0 := h 0 (by simp)
    simp only [Nat.zero_mul, List.drop_zero, List.getElem_cons_zero] at h0
    have ih := flat_pieces (f := f) (K := K) xs (l.drop K) fun i hi => by
      have := h (i + 1) (by simpa using hi)
      rw [List.getElem_cons_succ] at this
      rw [List.drop_drop, ← this, Nat.add_mul, Nat.one_mul, Nat.add_comm K]
    rw [List.flatMap_cons, ← h0, ← ih, List.length_cons, Nat.add_mul, Nat.one_mul, Nat.add_comm, List.take_add]
theorem Own.rowF {α : Type} {B : Nat} {w : World} {ty K : Nat} {f : α → List Value} {fp : List Nat} {v : Value} {xs : List α} (hK : ∀ x, (f x).length = K) (h : Own B w (oSl ty K (oFlat f)) fp [v] xs) : Row B w ty K f v xs := by
  obtain ⟨⟨v', hv, h⟩, hnd, hge⟩ := h
  obtain rfl : v = v' := by simpa using hv
  rcases h with ⟨rfl, rfl, _⟩ | ⟨g, cap, cur, fps, rfl, hg, hsz, hl, hm, hf, rfl, h⟩
  · exact ⟨by simp, .inl ⟨rfl, rfl⟩⟩
  · refine ⟨flatMap_len hK xs, .inr ⟨g, cap, cur, rfl, hge g (by simp), hg, hl, hm, hsz, ?_⟩⟩
    exact flat_pieces xs _ fun i hi => (h i hi _ (List.getElem?_eq_getElem (by omega))).2
theorem Row.type {α : Type} {B : Nat} {w : World} {ty K : Nat} {f : α → List Value} {v : Value} {xs : List α} (h : Row B w ty K f v xs) : ∀ b ∈ blkL v, ∃ cur, w.heap[b]? = some (.cells cur ty (0, 0)) := by
  rcases h.2 with ⟨rfl, _⟩ | ⟨g, cap, cur, rfl, hb, hg, _⟩
  · intro b hb; cases hb
  · intro b hbm
    obtain rfl : b = g := by simpa [blkL] using hbm
    exact ⟨cur, hg⟩
end Go
namespace Go.Proofs.Ytocadhcggkbimaa
open Go.RowKit Go.Fin1
/-- A desk's three lists as rows of ours, in different blocks. -/
structure RowD (B : Nat) (w : World) (vp vb va : Value) (d : Dk) : Prop where
  p : Row B w 75 6 Ltr.cells vp d.pairs
  b : Row B w 75 6 Ltr.cells vb d.box
  a : Row B w 75 6 Ltr.cells va d.audit
  pb : ∀ x ∈ blkL vp, x ∉ blkL vb
  pa : ∀ x ∈ blkL vp, x ∉ blkL va
  ba : ∀ x ∈ blkL vb, x ∉ blkL va
theorem RowD.of {B : Nat} {w : World} {f1 f2 f3 : List Nat} {p b a : Value} {d : Dk} (h : OwnD B w f1 f2 f3 p b a d) : RowD B w p b a d :=
  ⟨Own.rowF (fun _ => rfl) h.p, Own.rowF (fun _ => rfl) h.b, Own.rowF (fun _ => rfl) h.a, fun x h1 h2 => h.pb x (Own.blkL_in h.p x h1) (Own.blkL_in h.b x h2), fun x h1 h2 => h.pa x (Own.blkL_in h.p x h1) (Own.blkL_in h.a x h2), fun x h1 h2 => h.ba x (Own.blkL_in h.b x h1) (Own.blkL_in h.a x h2)⟩
theorem RowD.blk {B : Nat} {w : World} {p b a : Value} {d : Dk} (h : RowD B w p b a d) : ∀ x ∈ blkL p ++ blkL b ++ blkL a, B ≤ x ∧ x < w.heap.size ∧ ∃ cur, w.heap[x]? = some (.cells cur 75 (0, 0)) := fun x hx => by
  simp only [List.mem_append] at hx
  rcases hx with (hx | hx) | hx
  · exact ⟨(h.p.blk x hx).1, (h.p.blk x hx).2, h.p.type x hx⟩
  · exact ⟨(h.b.blk x hx).1, (h.b.blk x hx).2, h.b.type x hx⟩
  · exact ⟨(h.a.blk x hx).1, (h.a.blk x hx).2, h.a.type x hx⟩
theorem RowD.chg {B : Nat} {w w' : World} {S : List Nat} {p b a : Value} {d : Dk} (h : RowD B w p b a d) (hx : Chg S w w') (hd : ∀ x ∈ blkL p ++ blkL b ++ blkL a, x ∉ S) : RowD B w' p b a d :=
  ⟨h.p.chg hx fun x h => hd x (by simp [h]), h.b.chg hx fun x h => hd x (by simp [h]), h.a.chg hx fun x h => hd x (by simp [h]), h.pb, h.pa, h.ba⟩
theorem RowD.ext {B : Nat} {w w' : World} {p b a : Value} {d : Dk} (h : RowD B w p b a d) (hx : Ext w w') : RowD B w' p b a d := h.chg (hx.chg []) (fun _ _ => by simp)
theorem RowD.low {B : Nat} {w w' : World} {g : Nat} {p b a : Value} {d : Dk} (h : RowD B w p b a d) (hx : Chg [g] w w') (hg : g < B) : RowD B w' p b a d := h.chg hx fun x hx hm => by
  have := (h.blk x hx).1
  simp at hm; omega
/-- A box of another type is none of the rows'. -/
theorem RowD.off {B : Nat} {w w' : World} {g : Nat} {p b a : Value} {d : Dk} {cs : List Value} {ty : TypeId} (h : RowD B w p b a d) (hg : Blk w g cs ty) (ht : ty ≠ 75) (hx : Chg [g] w w') : RowD B w' p b a d := h.chg hx fun x hx hm => by
  obtain ⟨_, _, cur, hc⟩ := h.blk x hx
  simp at hm; subst hm
  unfold Blk at hg
  rw [hc] at hg
  simp at hg
  exact ht hg.2.symm
theorem RowD.mono {B B' : Nat} {w : World} {p b a : Value} {d : Dk} (h : RowD B w p b a d) (hb : B' ≤ B) : RowD B' w p b a d := ⟨h.p.mono hb, h.b.mono hb, h.a.mono hb, h.pb, h.pa, h.ba⟩
theorem row_ltr {B : Nat} {w : World} {v : Value} {xs : List Ltr} (h : Row B w 75 6 Ltr.cells v xs) (ho : ∀ x ∈ xs, x.ok) : SlR w 6 rLtr v xs := by
  obtain ⟨fp, hO⟩ := Row.own (f := Ltr.cells) (K := 6) (fun _ => rfl) h
  exact oLetterS_r hO.1 ho
theorem row_shape {B : Nat} {w : World} {v : Value} {xs : List Ltr} (h : Row B w 75 6 Ltr.cells v xs) : ∃ a c, v = .slice a xs.length c := h.shape
/-- What is known of a desk that is drawn. -/
structure DkI (n : Nat) (d : Dk) : Prop where
  pairs : 2 ≤ d.pairs.length ∧ d.pairs.length ≤ n
  box : d.box.length ≤ 14 + 3 * n
  audit : d.audit.length ≤ 20
  used : 0 ≤ d.used ∧ d.used ≤ 3
  now : 2 - (n : Int) ≤ d.now ∧ d.now ≤ 1000000 + 10 * (n : Int)
  op : ∀ x ∈ d.pairs, x.ok
  ob : ∀ x ∈ d.box, x.ok
  oa : ∀ x ∈ d.audit, x.ok
theorem DkI.e {n : Nat} {B : Nat} {w : World} {p b a : Value} {d : Dk} (h : DkI n d) (hn : n ≤ 40) (hO : RowD B w p b a d) : eDesk w (d.val p b a) d := by
  obtain ⟨a1, c1, rfl⟩ := row_shape hO.p
  obtain ⟨a2, c2, rfl⟩ := row_shape hO.b
  obtain ⟨a3, c3, rfl⟩ := row_shape hO.a
  exact ⟨a1, c1, a2, c2, a3, c3, rfl, by have := h.used; unfold I64; omega, by have := h.now; unfold I64; omega, row_ltr hO.p h.op, row_ltr hO.b h.ob, row_ltr hO.a h.oa⟩
theorem DkI.sz {n : Nat} {d : Dk} (h : DkI n d) (hn : n ≤ 40) : d.sz ≤ 400 := by
  have := h.pairs; have := h.box; have := h.audit
  unfold Dk.sz; omega
theorem DkI.letr {n : Nat} {d : Dk} (h : DkI n d) {x : Ltr} (hx : x.ok) {q : Int} (hc : (letR d x.a x.b q).2 = 0) : DkI n (letR d x.a x.b q).1 := by
  cases h1 : (boxR d && isIn q 0 1000000)
  · rw [letR_form h1] at hc; simp at hc
  cases h2 : hasT d.pairs ⟨x.a, x.b, 0, 0⟩
  · rw [letR_lab h1 h2] at hc; simp at hc
  by_cases h3 : d.used = 2
  · rw [letR_rate h1 h2 h3] at hc; simp at hc
  by_cases h4 : d.box.length = 6 ∨ d.audit.length = 20
  · rw [letR_full h1 h2 h3 h4] at hc; simp at hc
  rw [letR_yes h1 h2 h3 h4]
  have hbr := h1
  rw [Bool.and_eq_true] at hbr
  have hbd := boxR_bd hbr.1
  have hq := isIn_iff.1 hbr.2
  have hxo : (letX d x.a x.b q).ok := ⟨hx.1, hx.2.1, by show I64 d.now; unfold I64; omega, by show I64 q; unfold I64; omega⟩
  refine ⟨h.pairs, ?_, ?_, ?_, ?_, h.op, fun y hy => ?_, fun y hy => ?_⟩
  · show (d.box ++ [letX d x.a x.b q]).length ≤ 14 + 3 * n; simp; omega
  · show (d.audit ++ [letX d x.a x.b q]).length ≤ 20; simp; omega
  · show 0 ≤ d.used + 1 ∧ d.used + 1 ≤ 3; omega
  · show 2 - (n : Int) ≤ d.now ∧ d.now ≤ 1000000 + 10 * (n : Int); have := h.pairs; omega
  · rcases List.mem_append.1 hy with hy | hy
    · exact h.ob y hy
    · rw [List.mem_singleton.1 hy]; exact hxo
  · rcases List.mem_append.1 hy with hy | hy
    · exact h.oa y hy
    · rw [List.mem_singleton.1 hy]; exact hxo
theorem DkI.next {n : Nat} {d : Dk} (h : DkI n d) (hc : (nextR d).2 = 0) : DkI n (nextR d).1 := by
  cases h1 : boxR d
  · rw [nextR_no h1] at hc; simp at hc
  by_cases h2 : d.now = 999900
  · rw [nextR_full h1 h2] at hc; simp at hc
  rw [nextR_yes h1 h2]
  have hbd := boxR_bd h1
  exact ⟨h.pairs, Nat.zero_le _, h.audit, ⟨Int.le_refl _, by show (0 : Int) ≤ 3; omega⟩, by show 2 - (n : Int) ≤ d.now + 1 ∧ d.now + 1 ≤ 1000000 + 10 * (n : Int); have := h.pairs; omega, h.op, fun x hx => (by cases hx), h.oa⟩
/-- Kinds. -/
def kLtrP (b o n : Nat) : XReg.Kind := fun v _ => ∃ k, k < n ∧ v = .pointer (some ⟨b, o + k * 6, none⟩)
def kLtrV : XReg.Kind := fun v _ => ∃ x : Ltr, x.ok ∧ v = .agg #[(.int .i64 x.a.lv), (.int .i64 x.a.st), (.int .i64 x.b.lv), (.int .i64 x.b.st), (.int .i64 x.p), (.int .i64 x.q)]
def kBoxN (B g : Nat) (cs : List Value) (ty : TypeId) : XReg.Kind := fun v u => ∃ b, v = .pointer (some ⟨b, 0, none⟩) ∧ B ≤ b ∧ b ≠ g ∧ Blk u b cs ty
def kStep (B n : Nat) : XReg.Kind := fun v u => ∃ RD RC p b a, v = stV RD RC p b a ∧ RowD B u p b a RD ∧ (RC = 0 → DkI n RD)
theorem kLtrP_good {R : World → World → Prop} {b o n : Nat} (hn : 0 < n) : XReg.GoodKL R (kLtrP b o n) := ⟨fun _ _ _ _ h => h, _, default, 0, hn, rfl⟩
theorem kLtrV_good {R : World → World → Prop} : XReg.GoodKL R kLtrV := ⟨fun _ _ _ _ h => h, _, default, ⟨⟨0, 0⟩, ⟨0, 0⟩, 0, 0⟩, ⟨⟨show I64 0 by unfold I64; omega, show I64 0 by unfold I64; omega⟩, ⟨show I64 0 by unfold I64; omega, show I64 0 by unfold I64; omega⟩, show I64 0 by unfold I64; omega, show I64 0 by unfold I64; omega⟩, rfl⟩
theorem kBoxN_good {B g : Nat} {cv : Value} {l : List Int} {cs : List Value} {ty : TypeId} : XReg.GoodKL (SrcR g cv l) (kBoxN B g cs ty) :=
  ⟨fun _ _ _ hx ⟨b, hv, hB, hb, h⟩ => ⟨b, hv, hB, hb, h.chg hx.1 (by simpa using hb)⟩, .pointer (some ⟨(emptyG (B + g + 1)).heap.size, 0, none⟩), _, _, rfl, by rw [emptyG_size]; omega, by rw [emptyG_size]; omega, Blk.new (cs := cs.toArray) rfl⟩
theorem kStep_good {B g n : Nat} {cv : Value} {l : List Int} (hg : g < B) : XReg.GoodKL (SrcR g cv l) (kStep B n) :=
  ⟨fun _ _ _ hx ⟨RD, RC, p, b, a, hv, h, hi⟩ => ⟨RD, RC, p, b, a, hv, h.low hx.1 hg, hi⟩, _, default, zD, 1, _, _, _, rfl, RowD.of (OwnD.zero _ _), fun h => absurd h (by decide)⟩
theorem set6_chg (w : World) (g : Nat) (u0 u1 u2 u3 u4 u5 : Value) : Chg [g] w ((((((w.setCell ⟨g, 0, none⟩ u0).setCell ⟨g, 1, none⟩ u1).setCell ⟨g, 2, none⟩ u2).setCell ⟨g, 3, none⟩ u3).setCell ⟨g, 4, none⟩ u4).setCell ⟨g, 5, none⟩ u5) :=
  ((((((Chg.refl _ _).setCell (.inl (by simp)) _).setCell (.inl (by simp)) _).setCell (.inl (by simp)) _).setCell (.inl (by simp)) _).setCell (.inl (by simp)) _).setCell (.inl (by simp)) _
theorem set5_chg (w : World) (g : Nat) (u0 u1 u2 u3 u4 : Value) : Chg [g] w (((((w.setCell ⟨g, 0, none⟩ u0).setCell ⟨g, 1, none⟩ u1).setCell ⟨g, 2, none⟩ u2).setCell ⟨g, 3, none⟩ u3).setCell ⟨g, 4, none⟩ u4) :=
  (((((Chg.refl _ _).setCell (.inl (by simp)) _).setCell (.inl (by simp)) _).setCell (.inl (by simp)) _).setCell (.inl (by simp)) _).setCell (.inl (by simp)) _
theorem _root_.Go.Blk.set6 {w : World} {g : Nat} {t0 t1 t2 t3 t4 t5 : Value} {ty : TypeId} (h : Blk w g [t0, t1, t2, t3, t4, t5] ty) (u0 u1 u2 u3 u4 u5 : Value) : Blk ((((((w.setCell ⟨g, 0, none⟩ u0).setCell ⟨g, 1, none⟩ u1).setCell ⟨g, 2, none⟩ u2).setCell ⟨g, 3, none⟩ u3).setCell ⟨g, 4, none⟩ u4).setCell ⟨g, 5, none⟩ u5) g [u0, u1, u2, u3, u4, u5] ty :=
  (((((h.set 0 u0).set 1 u1).set 2 u2).set 3 u3).set 4 u4).set 5 u5
theorem _root_.Go.Blk.set5 {w : World} {g : Nat} {t0 t1 t2 t3 t4 : Value} {ty : TypeId} (h : Blk w g [t0, t1, t2, t3, t4] ty) (u0 u1 u2 u3 u4 : Value) : Blk (((((w.setCell ⟨g, 0, none⟩ u0).setCell ⟨g, 1, none⟩ u1).setCell ⟨g, 2, none⟩ u2).setCell ⟨g, 3, none⟩ u3).setCell ⟨g, 4, none⟩ u4) g [u0, u1, u2, u3, u4] ty :=
  ((((h.set 0 u0).set 1 u1).set 2 u2).set 3 u3).set 4 u4
/-- The desk that the draw begins with. -/
def dk0 : Dk := ⟨[⟨⟨2, 0⟩, ⟨0, 0⟩, 0, 0⟩, ⟨⟨2, 1⟩, ⟨1, 0⟩, 0, 0⟩], [], [], 0, 0⟩
theorem dk0_i : DkI 2 dk0 := by
  have z : ∀ n : Int, 0 ≤ n → n ≤ 2 → I64 n := fun n h1 h2 => by unfold I64; omega
  refine ⟨by decide, by decide, by decide, by decide, by decide, fun x hx => ?_, fun x hx => (by cases hx), fun x hx => (by cases hx)⟩
  simp only [dk0, List.mem_cons, List.not_mem_nil, or_false] at hx
  rcases hx with rfl | rfl <;> exact ⟨⟨z _ (by decide) (by decide), z _ (by decide) (by decide)⟩, ⟨z _ (by decide) (by decide), z _ (by decide) (by decide)⟩, z _ (by decide) (by decide), z _ (by decide) (by decide)⟩
theorem row_dk0 (w : World) {b B : Nat} (hb : b = w.heap.size) (hB : B ≤ w.heap.size) : RowD B (w.alloc (.cells #[(.int .i64 2), (.int .i64 0), (.int .i64 0), (.int .i64 0), (.int .i64 0), (.int .i64 0), (.int .i64 2), (.int .i64 1), (.int .i64 1), (.int .i64 0), (.int .i64 0), (.int .i64 0)] 75)) (.slice (some ⟨b, 0, none⟩) 2 2) (.slice none 0 0) (.slice none 0 0) dk0 := by
  subst hb
  exact ⟨⟨rfl, .inr ⟨w.heap.size, 2, #[(.int .i64 2), (.int .i64 0), (.int .i64 0), (.int .i64 0), (.int .i64 0), (.int .i64 0), (.int .i64 2), (.int .i64 1), (.int .i64 1), (.int .i64 0), (.int .i64 0), (.int .i64 0)], rfl, hB, heap_alloc_new w _, Nat.le_refl _, by unfold maxLen; omega, rfl, rfl⟩⟩, Row.nil _ _ _ _ _, Row.nil _ _ _ _ _, (fun x _ h => by cases h), (fun x _ h => by cases h), (fun x h _ => by cases h)⟩
end Go.Proofs.Ytocadhcggkbimaa

set_option maxRecDepth 100000
set_option linter.unusedVariables false
namespace Go.Proofs.Ytocadhcggkbimaa
open Go.RowKit Go.Fin1
theorem _root_.Go.Row.off {B : Nat} {w w' : World} {g : Nat} {v : Value} {xs : List Ltr} {cs : List Value} {ty : TypeId} (h : Row B w 75 6 Ltr.cells v xs) (hg : Blk w g cs ty) (ht : ty ≠ 75) (hx : Chg [g] w w') : Row B w' 75 6 Ltr.cells v xs := h.chg hx fun x hx hm => by
  obtain ⟨cur, hc⟩ := h.type x hx
  simp at hm; subst hm
  unfold Blk at hg
  rw [hc] at hg
  simp at hg
  exact ht hg.2.symm
/-- Kinds for regions that append. -/
def kSrcN (g : Nat) (cv : Value) (l : List Int) (m : Nat) (_ : Nat × Nat) : XReg.Kind := fun v w => ∃ n : Nat, n < m ∧ v = (.int .i64 (n : Int)) ∧ SrcA w g cv l
def kLtX (_ : Nat × Nat) : XReg.Kind := fun v _ => ∃ x : Ltr, x.ok ∧ v = .agg #[(.int .i64 x.a.lv), (.int .i64 x.a.st), (.int .i64 x.b.lv), (.int .i64 x.b.st), (.int .i64 x.p), (.int .i64 x.q)]
def kOneX (C : Nat) (_ : Nat × Nat) : XReg.Kind := fun v w => ∃ gb, ∃ x : Ltr, x.ok ∧ v = .slice (some ⟨gb, 0, none⟩) 1 1 ∧ C ≤ gb ∧ Blk w gb [(.int .i64 x.a.lv), (.int .i64 x.a.st), (.int .i64 x.b.lv), (.int .i64 x.b.st), (.int .i64 x.p), (.int .i64 x.q)] 75
def kRowX (B : Nat) (xs : List Ltr) (_ : Nat × Nat) : XReg.Kind := fun v w => ∃ x : Ltr, x.ok ∧ ∃ a c, v = .slice a (xs.length + 1) c ∧ Row B w 75 6 Ltr.cells (.slice a (xs.length + 1) c) (xs ++ [x])
theorem ltr0_ok : (⟨⟨0, 0⟩, ⟨0, 0⟩, 0, 0⟩ : Ltr).ok := ⟨⟨show I64 0 by unfold I64; omega, show I64 0 by unfold I64; omega⟩, ⟨show I64 0 by unfold I64; omega, show I64 0 by unfold I64; omega⟩, show I64 0 by unfold I64; omega, show I64 0 by unfold I64; omega⟩
theorem kSrcN_good {g : Nat} {cv : Value} {l : List Int} {m : Nat} {w0 W : World} {S U V : List Nat} (h0 : SrcA w0 g cv l) (h : SrcA W g cv l) (hm : 0 < m) (hV : ∀ b ∈ V, w0.heap.size ≤ b) : (XReg.ZOp.A (kSrcN g cv l m) S U V).Good :=
  ⟨fun x v w w' hx ⟨n, hn, hv, hs⟩ => ⟨n, hn, hv, hs.chg h0 hx hV⟩, (0, 0), _, W, 0, hm, rfl, h⟩
theorem kLtX_good {S U V : List Nat} : (XReg.ZOp.A kLtX S U V).Good := ⟨fun _ _ _ _ _ h => h, (0, 0), _, default, _, ltr0_ok, rfl⟩
theorem kOneX_good {C : Nat} {S U V : List Nat} (hV : ∀ b ∈ V, b < C) : (XReg.ZOp.A (kOneX C) S U V).Good :=
  ⟨fun x v w w' hx ⟨gb, y, hy, hv, hC, hb⟩ => ⟨gb, y, hy, hv, hC, hb.chg hx (fun h => by have := hV _ h; omega)⟩, (0, 0), .slice (some ⟨(emptyG C).heap.size, 0, none⟩) 1 1, _, _, _, ltr0_ok, rfl, by rw [emptyG_size]; exact Nat.le_refl _, Blk.new (cs := #[(.int .i64 0), (.int .i64 0), (.int .i64 0), (.int .i64 0), (.int .i64 0), (.int .i64 0)]) rfl⟩
theorem kRowX_good {B : Nat} {xs : List Ltr} {S U : List Nat} (hm : xs.length + 1 ≤ maxLen) : (XReg.ZOp.A (kRowX B xs) S U []).Good :=
  ⟨fun x v w w' hx ⟨y, hy, a, c, hv, hr⟩ => ⟨y, hy, a, c, hv, hr.chg hx (fun _ _ h => by cases h)⟩, by
    obtain ⟨a, c, w', fp, hO⟩ := own_ltr_new (emptyG B) (xs ++ [⟨⟨0, 0⟩, ⟨0, 0⟩, 0, 0⟩]) (by simpa using hm)
    rw [emptyG_size] at hO
    simp only [List.length_append, List.length_singleton] at hO
    exact ⟨(0, 0), _, w', _, ltr0_ok, a, c, rfl, Own.rowF (fun _ => rfl) hO⟩⟩
theorem ltr_one (x : Ltr) : ∀ u ∈ [x].flatMap Ltr.cells, u.oneCell' = true := fun u hu => by
  simp [Ltr.cells] at hu; rcases hu with rfl | rfl | rfl | rfl | rfl | rfl <;> rfl
theorem ltr_news {W : World} {gb : Nat} {x : Ltr} {ty : TypeId} (h : Blk W gb [(.int .i64 x.a.lv), (.int .i64 x.a.st), (.int .i64 x.b.lv), (.int .i64 x.b.st), (.int .i64 x.p), (.int .i64 x.q)] ty) : ∀ (j : Nat) (u : Value), ([x].flatMap Ltr.cells)[j]? = some u → W.cell? ((⟨gb, 0, none⟩ : Addr).add j) = some u := fun j u hj => by
  have h1 := h.cell j
  rw [Addr.add_lit, Nat.zero_add, h1]
  simpa [Ltr.cells] using hj
theorem RowD.nd {B : Nat} {w : World} {g : Nat} {p b a : Value} {d : Dk} {cs : List Value} {ty : TypeId} (h : RowD B w p b a d) (hg : Blk w g cs ty) (ht : ty ≠ 75) : g ∉ blkL p ++ blkL b ++ blkL a := fun hm => by
  obtain ⟨_, _, cur, hc⟩ := h.blk g hm
  unfold Blk at hg
  rw [hc] at hg
  simp at hg
  exact ht hg.2.symm
theorem _root_.Go.Chg.past2 {S T : List Nat} {a b c : World} (h : Chg S a b) (k : Chg (S ++ T) b c) (hT : ∀ x ∈ T, a.heap.size ≤ x) : Chg S a c :=
  ⟨k.os.trans h.os, k.tape.trans h.tape, k.output.trans h.output, Nat.le_trans h.size k.size, fun i hi hs => (k.block i (Nat.lt_of_lt_of_le hi h.size) (fun hx => by
    rcases List.mem_append.1 hx with hx | hx
    · exact hs hx
    · have := hT i hx; omega)).trans (h.block i hi hs)⟩
/-- An append under way: the settled values; the row turns with the last of them. -/
structure ApI (W0 : World) (B : Nat) (S : List (Option Value)) (p : Value) (xs : List Ltr) (x0 : Ltr) (L : Nat → Bool) (vs : Nat → Value) (w : World) : Prop where
  s : ∀ k v, S[k]? = some (some v) → L k = true → vs k = v
  pre : L 7 = false → Ext W0 w
  one : L 7 = false → L 6 = true → ∃ gb, vs 6 = .slice (some ⟨gb, 0, none⟩) 1 1 ∧ Blk w gb [(.int .i64 x0.a.lv), (.int .i64 x0.a.st), (.int .i64 x0.b.lv), (.int .i64 x0.b.st), (.int .i64 x0.p), (.int .i64 x0.q)] 75
  post : L 7 = true → Chg (blkL p) W0 w ∧ ∃ a c, vs 7 = .slice a (xs.length + 1) c ∧ Row B w 75 6 Ltr.cells (.slice a (xs.length + 1) c) (xs ++ [x0])
  dn : L 7 = true → ∀ j, j < 7 → L j = true
theorem ApI.start {W0 W : World} {B : Nat} {S : List (Option Value)} {p : Value} {xs : List Ltr} {x0 : Ltr} {vs : Nat → Value} (h : Ext W0 W) : ApI W0 B S p xs x0 (fun _ => false) vs W :=
  ⟨fun _ _ _ h => (by cases h), fun _ => h, fun _ h => (by cases h), fun h => (by cases h), fun h => (by cases h)⟩
theorem ApI.put {W0 w : World} {B : Nat} {S : List (Option Value)} {p : Value} {xs : List Ltr} {x0 : Ltr} {L : Nat → Bool} {vs : Nat → Value} (h : ApI W0 B S p xs x0 L vs w) (k : Nat) (v : Value) (hs : ∀ u, S[k]? = some (some u) → u = v) : ∀ j u, S[j]? = some (some u) → updB L k j = true → updV vs k v j = u := fun j u hq hL => by
  unfold updB at hL
  unfold updV
  by_cases e : j = k
  · rw [if_pos e]; subst e; exact (hs u hq).symm
  · rw [if_neg e] at hL ⊢; exact h.s j u hq hL
theorem ApI.set {W0 w w' : World} {B : Nat} {S : List (Option Value)} {p : Value} {xs : List Ltr} {x0 : Ltr} {L : Nat → Bool} {vs : Nat → Value} (h : ApI W0 B S p xs x0 L vs w) (k : Nat) (v : Value) (hx : Ext w w') (h6 : k ≠ 6) (h7 : k ≠ 7) (hs : ∀ u, S[k]? = some (some u) → u = v) : ApI W0 B S p xs x0 (updB L k) (updV vs k v) w' := by
  have e6 : updV vs k v 6 = vs 6 := by unfold updV; rw [if_neg (fun e => h6 e.symm)]
  have e7 : updV vs k v 7 = vs 7 := by unfold updV; rw [if_neg (fun e => h7 e.symm)]
  have b6 : updB L k 6 = L 6 := by unfold updB; rw [if_neg (fun e => h6 e.symm)]
  have b7 : updB L k 7 = L 7 := by unfold updB; rw [if_neg (fun e => h7 e.symm)]
  refine ⟨h.put k v hs, fun q => ?_, fun q q2 => ?_, fun q => ?_, fun q j hj => ?_⟩
  · rw [b7] at q; exact (h.pre q).trans hx
  · rw [b7] at q; rw [b6] at q2; rw [e6]
    obtain ⟨gb, h1, h2⟩ := h.one q q2
    exact ⟨gb, h1, h2.ext hx⟩
  · rw [b7] at q; rw [e7]
    obtain ⟨h1, a, c, h2, h3⟩ := h.post q
    exact ⟨h1.trans (hx.chg _), a, c, h2, h3.ext hx⟩
  · rw [b7] at q
    unfold updB; split
    · rfl
    · exact h.dn q j hj
theorem ApI.free {W0 w : World} {B : Nat} {S : List (Option Value)} {p : Value} {xs : List Ltr} {x0 : Ltr} {L : Nat → Bool} {vs : Nat → Value} (h : ApI W0 B S p xs x0 L vs w) {j : Nat} (hj : j < 7) (hl : L j = false) : L 7 = false := by
  cases e : L 7
  · rfl
  · rw [h.dn e j hj] at hl; cases hl
theorem ApI.made {W0 w : World} {B : Nat} {S : List (Option Value)} {p : Value} {xs : List Ltr} {x0 : Ltr} {L : Nat → Bool} {vs : Nat → Value} (h : ApI W0 B S p xs x0 L vs w) (hl : L 6 = false) (hs : S[6]? = some none) : ApI W0 B S p xs x0 (updB L 6) (updV vs 6 (.slice (some ⟨w.heap.size, 0, none⟩) 1 1)) (w.alloc (.cells #[(.int .i64 x0.a.lv), (.int .i64 x0.a.st), (.int .i64 x0.b.lv), (.int .i64 x0.b.st), (.int .i64 x0.p), (.int .i64 x0.q)] 75)) := by
  have h7 := h.free (by decide) hl
  have b7 : updB L 6 7 = L 7 := by unfold updB; rw [if_neg (by decide)]
  refine ⟨h.put 6 _ (fun u hu => by rw [hs] at hu; cases hu), fun _ => (h.pre h7).trans ((Ext.refl _).alloc _), fun _ _ => ⟨w.heap.size, by unfold updV; rw [if_pos rfl], Blk.new rfl⟩, fun q => ?_, fun q => ?_⟩
  · rw [b7, h7] at q; cases q
  · rw [b7, h7] at q; cases q
theorem ApI.app {W0 w w' : World} {B : Nat} {S : List (Option Value)} {p : Value} {xs : List Ltr} {x0 : Ltr} {L : Nat → Bool} {vs : Nat → Value} (h : ApI W0 B S p xs x0 L vs w) (h7 : L 7 = false) (hl : ∀ j, j < 7 → L j = true) (hs : S[7]? = some none) {a : Option Addr} {c : Nat} (hc : Chg (blkL p) w w') (hr : Row B w' 75 6 Ltr.cells (.slice a (xs.length + 1) c) (xs ++ [x0])) : ApI W0 B S p xs x0 (updB L 7) (updV vs 7 (.slice a (xs.length + 1) c)) w' := by
  have b7 : updB L 7 7 = true := by unfold updB; rw [if_pos rfl]
  refine ⟨h.put 7 _ (fun u hu => by rw [hs] at hu; cases hu), fun q => ?_, fun q => ?_, fun _ => ⟨((h.pre h7).chg _).trans hc, a, c, by unfold updV; rw [if_pos rfl], hr⟩, fun _ j hj => ?_⟩
  · rw [b7] at q; cases q
  · rw [b7] at q; cases q
  · unfold updB; rw [if_neg (by omega)]; exact hl j hj
def kNow (lo hi : Int) : XReg.Kind := fun v _ => ∃ n : Int, v = (.int .i64 n) ∧ (lo ≤ n ∧ n ≤ hi)
theorem kNow_good {R : World → World → Prop} {lo hi : Int} (h : lo ≤ hi) : XReg.GoodKL R (kNow lo hi) := ⟨fun _ _ _ _ h => h, (.int .i64 lo), default, lo, rfl, by omega⟩
set_option maxHeartbeats 3200000 in
theorem srcDesk_any (g : Nat) (w : World) (cv : Value) (l : List Int) (h : SrcA w g cv l) :
    Calls Try.prog 40 #[.pointer (some ⟨g, 0, none⟩)] w fun e w' => ∃ d p b a, e = .returned (Dk.val d p b a) ∧ Chg [g] w w' ∧ SrcA w' g cv l ∧ Row w.heap.size w' 75 6 Ltr.cells p d.pairs ∧ Row w.heap.size w' 75 6 Ltr.cells b d.box ∧ Row w.heap.size w' 75 6 Ltr.cells a d.audit ∧ DkI 3 d := by
  have HS := Lib.hid h
  have HG := Lib.hid h.old
  clear h
  have H2 : Hid (I64 2) := Lib.hid (by unfold I64; omega)
  have H3 : Hid (I64 3) := Lib.hid (by unfold I64; omega)
  have H4 : Hid (I64 4) := Lib.hid (by unfold I64; omega)
  have H12 : Hid (I64 12) := Lib.hid (by unfold I64; omega)
  have H15 : Hid (I64 15) := Lib.hid (by unfold I64; omega)
  have H99 : Hid (I64 99) := Lib.hid (by unfold I64; omega)
  go_enter Try.func40, Try.ntmps40
  go_upto_region 2 with fail
  have HR := Lib.hid ((Blk.new (w := w) (cs := #[.slice none 0 0, .slice none 0 0, .slice none 0 0, (.int .i64 0), (.int .i64 0)]) (ty := 25) rfl).ext (((Ext.refl _).alloc (.cells #[(.int .i64 2), (.int .i64 0), (.int .i64 0), (.int .i64 0), (.int .i64 0), (.int .i64 0), (.int .i64 2), (.int .i64 1), (.int .i64 1), (.int .i64 0), (.int .i64 0), (.int .i64 0)] 75)).alloc (.cells #[.slice (some ⟨w.heap.size + 1, 0, none⟩) 2 2, .slice none 0 0, .slice none 0 0, (.int .i64 0), (.int .i64 0)] 25)))
  have HD := Lib.hid (Blk.new (b := w.heap.size + 1 + 1) (w := (w.alloc (.cells #[.slice none 0 0, .slice none 0 0, .slice none 0 0, (.int .i64 0), (.int .i64 0)] 25)).alloc (.cells #[(.int .i64 2), (.int .i64 0), (.int .i64 0), (.int .i64 0), (.int .i64 0), (.int .i64 0), (.int .i64 2), (.int .i64 1), (.int .i64 1), (.int .i64 0), (.int .i64 0), (.int .i64 0)] 75)) (cs := #[.slice (some ⟨w.heap.size + 1, 0, none⟩) 2 2, .slice none 0 0, .slice none 0 0, (.int .i64 0), (.int .i64 0)]) (ty := 25) (by simp))
  have HO := Lib.hid ((row_dk0 (w.alloc (.cells #[.slice none 0 0, .slice none 0 0, .slice none 0 0, (.int .i64 0), (.int .i64 0)] 25)) (b := w.heap.size + 1) (B := w.heap.size) (by simp) (by simp)).ext ((Ext.refl _).alloc (.cells #[.slice (some ⟨w.heap.size + 1, 0, none⟩) 2 2, .slice none 0 0, .slice none 0 0, (.int .i64 0), (.int .i64 0)] 25)))
  refine gen_world (fun W2 hW => ?_)
  have HC : Hid (Chg [g] w W2) := Lib.hid (by rw [hW]; exact Ext.chg (by repeat (first | exact Ext.refl _ | apply Ext.plus | apply Ext.alloc | apply Ext.drew)) _)
  have HA : Hid (SrcA W2 g cv l) := Lib.hid (by rw [hW]; exact HS.out.ext (by repeat (first | exact Ext.refl _ | apply Ext.plus | apply Ext.alloc | apply Ext.drew)))
  rw [← hW] at HR HD HO
  clear hW
  go_wp2_with fail
  refine (srcN' g 12 _ cv l HA.out H12.out).mono ?_
  rintro e w3 ⟨k0, rfl, hb, hc, hs⟩
  have hk0 : k0 ≤ 12 := by omega
  have HR3 := Lib.hid (HR.out.chg hc (by have := HG.out; simp; omega))
  have HD3 := Lib.hid (HD.out.chg hc (by have := HG.out; simp; omega))
  have HO3 := Lib.hid (HO.out.low hc HG.out)
  have HC3 := Lib.hid (HC.out.trans hc)
  have HA3 := Lib.hid hs
  clear hc hs hb HR HD HO HC HA W2
  go_wp2
  go_loopw [4] (fun i wr => ∃ k : Nat, ∃ d p b a, k ≤ 12 ∧ i = Value.int .i64 k ∧ Hid (Chg [g] w wr) ∧ Hid (SrcA wr g cv l) ∧ Hid (Blk wr w.heap.size [.slice none 0 0, .slice none 0 0, .slice none 0 0, (.int .i64 0), (.int .i64 0)] 25) ∧ Hid (Blk wr (w.heap.size + 1 + 1) [p, b, a, (.int .i64 d.used), (.int .i64 d.now)] 25) ∧ Hid (RowD w.heap.size wr p b a d) ∧ Hid (DkI 2 d)) (fun i _ => (intOf i).toNat)
  case atStart => exact ⟨k0, dk0, _, _, _, hk0, rfl, HC3, HA3, HR3, HD3, HO3, Lib.hid dk0_i⟩
  case round =>
    clear HC3 HA3 HR3 HD3 HO3 hk0
    obtain ⟨k, d, p, b, a, hk, rfl, HC4, HA4, HR4, HD4, HO4, HI4⟩ := hrel
    obtain ⟨pa, pc, rfl⟩ := row_shape HO4.out.p
    obtain ⟨ba, bc, rfl⟩ := row_shape HO4.out.b
    obtain ⟨aa, ac, rfl⟩ := row_shape HO4.out.a
    obtain ⟨bP, oP, rfl⟩ := slr_some (row_ltr HO4.out.p HI4.out.op) (i := 0) (by have := HI4.out.pairs; omega)
    by_cases hk0' : 0 < k
    · have hkb : decide ((0 : Int) < (k : Int)) = true := decide_eq_true (by omega)
      go_upto_region 5 with fail
      (refine wp_region_l (R := SrcR g cv l) (SrcR.trans) 7 [(fun u _ => u = (.pointer (some ⟨w.heap.size + 1 + 1, 0, none⟩))), (fun u _ => u = (.slice (some ⟨bP, oP, none⟩) d.pairs.length pc)), (fun u _ => u = (.pointer (some ⟨g, 0, none⟩))), kLt 2, kLtrP bP oP 2, kLtrV, kBoxN wr.heap.size g [(.int .i64 0), (.int .i64 0), (.int .i64 0), (.int .i64 0), (.int .i64 0), (.int .i64 0)] 75] (by kernel_rfl) (by kernel_rfl) (by kernel_rfl) rfl ?_ (by repeat' (first | exact trivial | exact XReg.GoodKL.same _ _ default | exact kI64_good | exact kLt_good (by decide) | exact kArr_good | exact kPt_good (by decide) | (first | exact kLtrP_good (by decide) | exact kLtrV_good | exact kBoxN_good) | refine And.intro ?_ ?_)) (SrcR.ext (Ext.refl _).drew))
      (apply LReg.val (.pointer (some ⟨w.heap.size + 1 + 1, 0, none⟩)); (case h => (intro w' hw' hF'; have HW' := Lib.hid hw'; clear hF' hw'; go_wp2_with fail; exact ⟨rfl, SrcR.ext (by repeat (first | exact Ext.refl _ | apply Ext.plus | apply Ext.alloc | apply Ext.drew))⟩)); (case hv => kernel_rfl))
      apply LReg.val (.slice (some ⟨bP, oP, none⟩) d.pairs.length pc)
      case h =>
        intro w' hw' hF'
        have hB := HD4.out.chg hw'.1 (by have := HG.out; simp; omega)
        have e0 : w'.cell? ⟨w.heap.size + 1 + 1, 0, none⟩ = some (.slice (some ⟨bP, oP, none⟩) d.pairs.length pc) := hB.cell 0
        have eo := hB.old
        clear hF' hw' hB
        go_wp2_with fail
        exact ⟨rfl, SrcR.ext (by repeat (first | exact Ext.refl _ | apply Ext.plus | apply Ext.alloc | apply Ext.drew))⟩
      case hv => kernel_rfl
      (apply LReg.val (.pointer (some ⟨g, 0, none⟩)); (case h => (intro w' hw' hF'; have HW' := Lib.hid hw'; clear hF' hw'; go_wp2_with fail; exact ⟨rfl, SrcR.ext (by repeat (first | exact Ext.refl _ | apply Ext.plus | apply Ext.alloc | apply Ext.drew))⟩)); (case hv => kernel_rfl))
      refine LReg.kind (fun w' hw' hF' => ?_) (fun v w1 hK => ?_)
      · have HW' := Lib.hid (hw'.2 HA4.out)
        clear hF' hw'
        go_wp2_with fail
        refine (srcN' g 2 _ cv l (HW'.out.ext (by repeat (first | exact Ext.refl _ | apply Ext.plus | apply Ext.alloc | apply Ext.drew))) H2.out).mono ?_
        rintro e w8 ⟨n, rfl, hb, hc, hs⟩
        have HR8 := Lib.hid (SrcR.of (w := w') (by repeat (first | exact Ext.refl _ | apply Ext.plus | apply Ext.alloc | apply Ext.drew)) hc hs)
        have hn : n < 2 := by omega
        clear hc hs hb
        go_wp2
        exact ⟨HR8.out, _, rfl, hn⟩
      obtain ⟨kq, rfl, hkq⟩ := hK
      clear w1
      refine LReg.kind (fun w' hw' hF' => ?_) (fun v w1 hK => ?_)
      · clear hF' hw'
        have hlt : kq < d.pairs.length := by have := HI4.out.pairs; omega
        go_wp2
        exact ⟨SrcR.ext (by repeat (first | exact Ext.refl _ | apply Ext.plus | apply Ext.alloc | apply Ext.drew)), kq, hkq, rfl⟩
      obtain ⟨kp, hkp, rfl⟩ := hK
      clear w1
      refine LReg.kind (fun w' hw' hF' => ?_) (fun v w1 hK => ?_)
      · have hlt : kp < d.pairs.length := by have := HI4.out.pairs; omega
        obtain ⟨ho, hok, h0, h1, h2, h3, h4, h5⟩ := ltr_at (row_ltr (HO4.out.low hw'.1 HG.out).p HI4.out.op) hlt
        have HX := Lib.hid hok
        clear hw' hF' hok
        go_wp2
        exact ⟨SrcR.ext (by repeat (first | exact Ext.refl _ | apply Ext.plus | apply Ext.alloc | apply Ext.drew)), _, HX.out, rfl⟩
      obtain ⟨x, hx, rfl⟩ := hK
      clear w1
      refine LReg.kind (fun w' hw' hF' => ?_) (fun v w1 hK => ?_)
      · clear hF'
        have hgs := (hw'.2 HA4.out).old
        unfold World.old at hgs
        have hsz := hw'.1.size
        have H9a := Lib.hid (show kBoxN wr.heap.size g [(.int .i64 0), (.int .i64 0), (.int .i64 0), (.int .i64 0), (.int .i64 0), (.int .i64 0)] 75 (.pointer (some ⟨w'.heap.size, 0, none⟩)) (w'.alloc (.cells #[(.int .i64 0), (.int .i64 0), (.int .i64 0), (.int .i64 0), (.int .i64 0), (.int .i64 0)] 75)) from ⟨_, rfl, hsz, by omega, Blk.new rfl⟩)
        clear hw' hgs hsz
        go_wp2
        exact ⟨SrcR.ext (by repeat (first | exact Ext.refl _ | apply Ext.plus | apply Ext.alloc | apply Ext.drew)), H9a.out⟩
      obtain ⟨bx, rfl, hbB, hbg, hs3⟩ := hK
      clear hs3 w1
      refine LReg.done (fun w9 hw9 hF => ?_)
      obtain ⟨b', hv', -, -, hB9⟩ := hF 6 (kBoxN wr.heap.size g [(.int .i64 0), (.int .i64 0), (.int .i64 0), (.int .i64 0), (.int .i64 0), (.int .i64 0)] 75, .pointer (some ⟨bx, 0, none⟩)) (by kernel_rfl)
      obtain rfl : bx = b' := by simpa using hv'
      have HXO := Lib.hid hx
      have hwr1 : w.heap.size + 1 + 1 < wr.heap.size := HD4.out.old
      have HO9 := Lib.hid (HO4.out.low hw9.1 HG.out)
      have HD9 := Lib.hid (HD4.out.chg hw9.1 (by have := HG.out; simp; omega))
      have HR9 := Lib.hid (HR4.out.chg hw9.1 (by have := HG.out; simp; omega))
      have HC9 := Lib.hid (HC4.out.trans hw9.1)
      have HA9 := Lib.hid (hw9.2 HA4.out)
      have HB9 := Lib.hid hB9
      have d0 : w9.cell? ⟨bx, 0, none⟩ = some (.int .i64 0) := hB9.cell 0
      have d1 : w9.cell? ⟨bx, 1, none⟩ = some (.int .i64 0) := hB9.cell 1
      have d2 : w9.cell? ⟨bx, 2, none⟩ = some (.int .i64 0) := hB9.cell 2
      have d3 : w9.cell? ⟨bx, 3, none⟩ = some (.int .i64 0) := hB9.cell 3
      have d4 : w9.cell? ⟨bx, 4, none⟩ = some (.int .i64 0) := hB9.cell 4
      have d5 : w9.cell? ⟨bx, 5, none⟩ = some (.int .i64 0) := hB9.cell 5
      have do9 := hB9.old
      have df9 := hB9.fz
      clear hF hv' hw9 hB9 hx
      go_upto_region 6 with fail
      refine gen_world (fun w10 hW => ?_)
      have hch : Chg [bx] w9 w10 := by rw [hW]; exact set6_chg _ _ _ _ _ _ _ _
      have HB10 := Lib.hid (show Blk w10 bx [(.int .i64 x.a.lv), (.int .i64 x.a.st), (.int .i64 x.b.lv), (.int .i64 x.b.st), (.int .i64 x.p), (.int .i64 x.q)] 75 by rw [hW]; exact HB9.out.set6 _ _ _ _ _ _)
      have HO10 := Lib.hid (HO9.out.chg hch (fun y hy hm => by
        have := (HO4.out.blk y hy).2.1
        simp at hm; omega))
      have HD10 := Lib.hid (HD9.out.chg hch (by simp; omega))
      have HR10 := Lib.hid (HR9.out.chg hch (by simp; omega))
      have HC10 := Lib.hid (HC9.out.past hch (by simp; omega))
      have HA10 := Lib.hid (HA9.out.chg HS.out hch (by simp; omega))
      clear hW hch d0 d1 d2 d3 d4 d5 do9 df9 HO9 HD9 HR9 HC9 HA9 HB9 HO4 HD4 HR4 HC4 HA4
      go_upto_region 6 with fail
      (refine wp_region_l (R := SrcR g cv l) (SrcR.trans) 9 [(fun u _ => u = (.agg #[.slice (some ⟨bP, oP, none⟩) d.pairs.length pc, .slice ba d.box.length bc, .slice aa d.audit.length ac, (.int .i64 d.used), (.int .i64 d.now)])), (fun u _ => u = (.pointer (some ⟨bx, 0, none⟩))), (fun u _ => u = (.agg #[(.int .i64 x.a.lv), (.int .i64 x.a.st)])), (fun u _ => u = (.pointer (some ⟨bx, 2, none⟩))), (fun u _ => u = (.agg #[(.int .i64 x.b.lv), (.int .i64 x.b.st)])), (fun u _ => u = (.pointer (some ⟨g, 0, none⟩))), kLt 99, kStep w.heap.size 2, kBoxN w10.heap.size g [.slice none 0 0, .slice none 0 0, .slice none 0 0, (.int .i64 0), (.int .i64 0), (.int .i64 0)] 31] (by kernel_rfl) (by kernel_rfl) (by kernel_rfl) rfl ?_ (by repeat' (first | exact trivial | exact XReg.GoodKL.same _ _ default | exact kI64_good | exact kLt_good (by decide) | exact kArr_good | exact kPt_good (by decide) | (first | exact kStep_good HG.out | exact kBoxN_good) | refine And.intro ?_ ?_)) (SrcR.ext (Ext.refl _).drew))
      apply LReg.val (.agg #[.slice (some ⟨bP, oP, none⟩) d.pairs.length pc, .slice ba d.box.length bc, .slice aa d.audit.length ac, (.int .i64 d.used), (.int .i64 d.now)])
      case h =>
        intro w' hw' hF'
        have hB := HD10.out.chg hw'.1 (by have := HG.out; simp; omega)
        have e0 : w'.cell? ⟨w.heap.size + 1 + 1, 0, none⟩ = some (.slice (some ⟨bP, oP, none⟩) d.pairs.length pc) := hB.cell 0
        have e1 : w'.cell? ⟨w.heap.size + 1 + 1, 1, none⟩ = some (.slice ba d.box.length bc) := hB.cell 1
        have e2 : w'.cell? ⟨w.heap.size + 1 + 1, 2, none⟩ = some (.slice aa d.audit.length ac) := hB.cell 2
        have e3 : w'.cell? ⟨w.heap.size + 1 + 1, 3, none⟩ = some (.int .i64 d.used) := hB.cell 3
        have e4 : w'.cell? ⟨w.heap.size + 1 + 1, 4, none⟩ = some (.int .i64 d.now) := hB.cell 4
        have eo := hB.old
        clear hF' hw' hB
        go_wp2_with fail
        exact ⟨rfl, SrcR.ext (by repeat (first | exact Ext.refl _ | apply Ext.plus | apply Ext.alloc | apply Ext.drew))⟩
      case hv => kernel_rfl
      (apply LReg.val (.pointer (some ⟨bx, 0, none⟩)); (case h => (intro w' hw' hF'; have HW' := Lib.hid hw'; clear hF' hw'; go_wp2_with fail; exact ⟨rfl, SrcR.ext (by repeat (first | exact Ext.refl _ | apply Ext.plus | apply Ext.alloc | apply Ext.drew))⟩)); (case hv => kernel_rfl))
      apply LReg.val (.agg #[(.int .i64 x.a.lv), (.int .i64 x.a.st)])
      case h =>
        intro w' hw' hF'
        have hB := HB10.out.chg hw'.1 (by simp; omega)
        have e0 : w'.cell? ⟨bx, 0, none⟩ = some (.int .i64 x.a.lv) := hB.cell 0
        have e1 : w'.cell? ⟨bx, 1, none⟩ = some (.int .i64 x.a.st) := hB.cell 1
        have eo := hB.old
        clear hF' hw' hB
        go_wp2_with fail
        exact ⟨rfl, SrcR.ext (by repeat (first | exact Ext.refl _ | apply Ext.plus | apply Ext.alloc | apply Ext.drew))⟩
      case hv => kernel_rfl
      (apply LReg.val (.pointer (some ⟨bx, 2, none⟩)); (case h => (intro w' hw' hF'; have HW' := Lib.hid hw'; clear hF' hw'; go_wp2_with fail; exact ⟨rfl, SrcR.ext (by repeat (first | exact Ext.refl _ | apply Ext.plus | apply Ext.alloc | apply Ext.drew))⟩)); (case hv => kernel_rfl))
      apply LReg.val (.agg #[(.int .i64 x.b.lv), (.int .i64 x.b.st)])
      case h =>
        intro w' hw' hF'
        have hB := HB10.out.chg hw'.1 (by simp; omega)
        have e0 : w'.cell? ⟨bx, 2, none⟩ = some (.int .i64 x.b.lv) := hB.cell 2
        have e1 : w'.cell? ⟨bx, 3, none⟩ = some (.int .i64 x.b.st) := hB.cell 3
        have eo := hB.old
        clear hF' hw' hB
        go_wp2_with fail
        exact ⟨rfl, SrcR.ext (by repeat (first | exact Ext.refl _ | apply Ext.plus | apply Ext.alloc | apply Ext.drew))⟩
      case hv => kernel_rfl
      (apply LReg.val (.pointer (some ⟨g, 0, none⟩)); (case h => (intro w' hw' hF'; have HW' := Lib.hid hw'; clear hF' hw'; go_wp2_with fail; exact ⟨rfl, SrcR.ext (by repeat (first | exact Ext.refl _ | apply Ext.plus | apply Ext.alloc | apply Ext.drew))⟩)); (case hv => kernel_rfl))
      refine LReg.kind (fun w' hw' hF' => ?_) (fun v w1 hK => ?_)
      · have HW' := Lib.hid (hw'.2 HA10.out)
        clear hF' hw'
        go_wp2_with fail
        refine (srcN' g 99 _ cv l (HW'.out.ext (by repeat (first | exact Ext.refl _ | apply Ext.plus | apply Ext.alloc | apply Ext.drew))) H99.out).mono ?_
        rintro e w8 ⟨n, rfl, hb, hc, hs⟩
        have HR8 := Lib.hid (SrcR.of (w := w') (by repeat (first | exact Ext.refl _ | apply Ext.plus | apply Ext.alloc | apply Ext.drew)) hc hs)
        have hn : n < 99 := by omega
        clear hc hs hb
        go_wp2
        exact ⟨HR8.out, _, rfl, hn⟩
      obtain ⟨kz, rfl, hkz⟩ := hK
      clear w1
      refine LReg.kind (fun w' hw' hF' => ?_) (fun v w1 hK => ?_)
      · have HE := Lib.hid (HI4.out.e (by decide) (HO10.out.low hw'.1 HG.out))
        have hsz : d.sz ≤ 1048576 := by have := HI4.out.sz (by decide); omega
        have hsz' : w.heap.size ≤ w'.heap.size := Nat.le_trans HC10.out.size hw'.1.size
        clear hF' hw'
        unfold Dk.val at HE
        go_wp2_with fail
        refine (specLetDown_any d _ x.a x.b kz _ (HE.out.ext (by repeat (first | exact Ext.refl _ | apply Ext.plus | apply Ext.alloc | apply Ext.drew))) hsz).mono ?_
        rintro e _ ⟨p', b', a', f1, f2, f3, rfl, ⟨Y, rfl⟩, hO'⟩
        have HO' := Lib.hid ((RowD.of hO').mono hsz')
        clear hO'
        generalize hr : letR d x.a x.b kz = r at HO' ⊢
        have HI' : Hid (r.2 = 0 → DkI 2 r.1) := Lib.hid (fun hc => by rw [← hr] at hc ⊢; exact HI4.out.letr HXO.out hc)
        clear hr
        unfold stV
        go_wp2
        exact ⟨SrcR.ext (by repeat (first | exact Ext.refl _ | apply Ext.plus | apply Ext.alloc | apply Ext.drew)), _, _, _, _, _, rfl, HO'.out, HI'.out⟩
      obtain ⟨⟨r1, r2, r3, r4, r5⟩, r6, p1, b1, a1, rfl, hro1, -⟩ := hK
      obtain ⟨p2, p3, rfl⟩ := row_shape hro1.p
      obtain ⟨b2, b3, rfl⟩ := row_shape hro1.b
      obtain ⟨a2, a3, rfl⟩ := row_shape hro1.a
      clear hro1 w1
      unfold stV
      dsimp only
      generalize r1.length = n1
      generalize r2.length = n2
      generalize r3.length = n3
      clear r1 r2 r3
      refine LReg.kind (fun w' hw' hF' => ?_) (fun v w1 hK => ?_)
      · clear hF'
        have hgs := (hw'.2 HA10.out).old
        unfold World.old at hgs
        have hsz := hw'.1.size
        have H9a := Lib.hid (show kBoxN w10.heap.size g [.slice none 0 0, .slice none 0 0, .slice none 0 0, (.int .i64 0), (.int .i64 0), (.int .i64 0)] 31 (.pointer (some ⟨w'.heap.size, 0, none⟩)) (w'.alloc (.cells #[.slice none 0 0, .slice none 0 0, .slice none 0 0, (.int .i64 0), (.int .i64 0), (.int .i64 0)] 31)) from ⟨_, rfl, hsz, by omega, Blk.new rfl⟩)
        clear hw' hgs hsz
        go_wp2
        exact ⟨SrcR.ext (by repeat (first | exact Ext.refl _ | apply Ext.plus | apply Ext.alloc | apply Ext.drew)), H9a.out⟩
      obtain ⟨bs, rfl, hsB, hsg, hs3⟩ := hK
      clear hs3 w1
      refine LReg.done (fun w11 hw9 hF => ?_)
      obtain ⟨b', hv', -, -, hB9⟩ := hF 8 (kBoxN w10.heap.size g [.slice none 0 0, .slice none 0 0, .slice none 0 0, (.int .i64 0), (.int .i64 0), (.int .i64 0)] 31, .pointer (some ⟨bs, 0, none⟩)) (by kernel_rfl)
      obtain rfl : bs = b' := by simpa using hv'
      obtain ⟨RD, RC, p1', b1', a1', hv2, hro, hri⟩ := hF 7 (kStep w.heap.size 2, .agg #[.slice p2 n1 p3, .slice b2 n2 b3, .slice a2 n3 a3, (.int .i64 r4), (.int .i64 r5), (.int .i64 r6)]) (by kernel_rfl)
      unfold stV at hv2
      simp only [Value.agg.injEq, Array.mk.injEq, List.cons.injEq, Value.int.injEq, and_true, true_and] at hv2
      obtain ⟨rfl, rfl, rfl, rfl, rfl, rfl⟩ := hv2
      have HRI := Lib.hid hri
      have HN11 := Lib.hid hro
      have hw101 : w.heap.size + 1 + 1 < w10.heap.size := HD10.out.old
      have hbx1 : bx < w10.heap.size := HB10.out.old
      have HO11 := Lib.hid (HO10.out.low hw9.1 HG.out)
      have HD11 := Lib.hid (HD10.out.chg hw9.1 (by have := HG.out; simp; omega))
      have HR11 := Lib.hid (HR10.out.chg hw9.1 (by have := HG.out; simp; omega))
      have HC11 := Lib.hid (HC10.out.trans hw9.1)
      have HA11 := Lib.hid (hw9.2 HA10.out)
      have HB11 := Lib.hid hB9
      have d0 : w11.cell? ⟨bs, 0, none⟩ = some (.slice none 0 0) := hB9.cell 0
      have d1 : w11.cell? ⟨bs, 1, none⟩ = some (.slice none 0 0) := hB9.cell 1
      have d2 : w11.cell? ⟨bs, 2, none⟩ = some (.slice none 0 0) := hB9.cell 2
      have d3 : w11.cell? ⟨bs, 3, none⟩ = some (.int .i64 0) := hB9.cell 3
      have d4 : w11.cell? ⟨bs, 4, none⟩ = some (.int .i64 0) := hB9.cell 4
      have d5 : w11.cell? ⟨bs, 5, none⟩ = some (.int .i64 0) := hB9.cell 5
      have do9 := hB9.old
      have df9 := hB9.fz
      clear hF hv' hw9 hB9 hro hri
      go_upto_region 7 with fail
      refine gen_world (fun w12 hW => ?_)
      have hch : Chg [bs] w11 w12 := by rw [hW]; exact set6_chg _ _ _ _ _ _ _ _
      have HB12 := Lib.hid (show Blk w12 bs [.slice p2 n1 p3, .slice b2 n2 b3, .slice a2 n3 a3, (.int .i64 RD.used), (.int .i64 RD.now), (.int .i64 r6)] 31 by rw [hW]; exact HB11.out.set6 _ _ _ _ _ _)
      have HO12 := Lib.hid (HO11.out.off HB11.out (by decide) hch)
      have HN12 := Lib.hid (HN11.out.off HB11.out (by decide) hch)
      have HD12 := Lib.hid (HD11.out.chg hch (by simp; omega))
      have HR12 := Lib.hid (HR11.out.chg hch (by simp; omega))
      have HC12 := Lib.hid (HC11.out.past hch (by simp; omega))
      have HA12 := Lib.hid (HA11.out.chg HS.out hch (by simp; omega))
      clear hW hch d0 d1 d2 d3 d4 d5 do9 df9 HO10 HD10 HR10 HC10 HA10 HO11 HN11 HD11 HR11 HC11 HA11 HB11 HB10 w11
      go_wp2_with fail
      refine (srcOne_any g 3 _ cv l HA12.out H3.out).mono ?_
      rintro e w13 ⟨bl, rfl, hc, hs⟩
      have HB13 := Lib.hid (HB12.out.chg hc (by simp; omega))
      have HO13 := Lib.hid (HO12.out.low hc HG.out)
      have HN13 := Lib.hid (HN12.out.low hc HG.out)
      have HD13 := Lib.hid (HD12.out.chg hc (by have := HG.out; simp; omega))
      have HR13 := Lib.hid (HR12.out.chg hc (by have := HG.out; simp; omega))
      have HC13 := Lib.hid (HC12.out.trans hc)
      have HA13 := Lib.hid hs
      clear hc hs HB12 HO12 HN12 HD12 HR12 HC12 HA12 w12
      have hw13 : w.heap.size + 1 + 1 < w13.heap.size := HD13.out.old
      cases bl
      · have HB14 := HB13
        have HO14 := HO13
        have HN14 := HN13
        have HD14 := HD13
        have HR14 := HR13
        have HC14 := HC13
        have HA14 := HA13
        clear HB13 HO13 HN13 HD13 HR13 HC13 HA13
        have hwk : wrap64 ((k : Int) - 1) = (k : Int) - 1 := by unfold wrap64; omega
        have e5 : w13.cell? ⟨bs, 5, none⟩ = some (.int .i64 r6) := HB14.out.cell 5
        have eo := HB14.out.old
        cases qc : (r6 == 0)
        · go_wp2
          exact ⟨⟨k - 1, d, _, _, _, by omega, by go_num, HC14, HA14, HR14, HD14, HO14, HI4⟩, by simp [intOf]; omega⟩
        · have e0 : w13.cell? ⟨bs, 0, none⟩ = some (.slice p2 n1 p3) := HB14.out.cell 0
          have e1 : w13.cell? ⟨bs, 1, none⟩ = some (.slice b2 n2 b3) := HB14.out.cell 1
          have e2 : w13.cell? ⟨bs, 2, none⟩ = some (.slice a2 n3 a3) := HB14.out.cell 2
          have e3 : w13.cell? ⟨bs, 3, none⟩ = some (.int .i64 RD.used) := HB14.out.cell 3
          have e4 : w13.cell? ⟨bs, 4, none⟩ = some (.int .i64 RD.now) := HB14.out.cell 4
          have HRC := Lib.hid (show DkI 2 RD from HRI.out (by simpa using qc))
          have do0 : w13.cell? ⟨w.heap.size + 1 + 1, 0, none⟩ = some (.slice (some ⟨bP, oP, none⟩) d.pairs.length pc) := HD14.out.cell 0
          have do1 : w13.cell? ⟨w.heap.size + 1 + 1, 1, none⟩ = some (.slice ba d.box.length bc) := HD14.out.cell 1
          have do2 : w13.cell? ⟨w.heap.size + 1 + 1, 2, none⟩ = some (.slice aa d.audit.length ac) := HD14.out.cell 2
          have do3 : w13.cell? ⟨w.heap.size + 1 + 1, 3, none⟩ = some (.int .i64 d.used) := HD14.out.cell 3
          have do4 : w13.cell? ⟨w.heap.size + 1 + 1, 4, none⟩ = some (.int .i64 d.now) := HD14.out.cell 4
          have doo := HD14.out.old
          have dof := HD14.out.fz
          go_upto_region 4 with fail
          refine gen_world (fun W15 hW => ?_)
          have hch : Chg [w.heap.size + 1 + 1] w13 W15 := by rw [hW]; exact set5_chg _ _ _ _ _ _ _
          have HD15 := Lib.hid (show Blk W15 (w.heap.size + 1 + 1) [.slice p2 n1 p3, .slice b2 n2 b3, .slice a2 n3 a3, (.int .i64 RD.used), (.int .i64 RD.now)] 25 by rw [hW]; exact HD14.out.set5 _ _ _ _ _)
          have HR15 := Lib.hid (HR14.out.chg hch (by simp; omega))
          have HO15 := Lib.hid (HN14.out.off HD14.out (by decide) hch)
          have HC15 := Lib.hid (HC14.out.past hch (by simp; omega))
          have HA15 := Lib.hid (HA14.out.chg HS.out hch (by simp; omega))
          clear hW hch do0 do1 do2 do3 do4 doo dof e0 e1 e2 e3 e4 e5 eo
          go_wp2
          exact ⟨⟨k - 1, RD, _, _, _, by omega, by go_num, HC15, HA15, HR15, HD15, HO15, HRC⟩, by simp [intOf]; omega⟩
      · have e0 : w13.cell? ⟨w.heap.size + 1 + 1, 0, none⟩ = some (.slice (some ⟨bP, oP, none⟩) d.pairs.length pc) := HD13.out.cell 0
        have e1 : w13.cell? ⟨w.heap.size + 1 + 1, 1, none⟩ = some (.slice ba d.box.length bc) := HD13.out.cell 1
        have e2 : w13.cell? ⟨w.heap.size + 1 + 1, 2, none⟩ = some (.slice aa d.audit.length ac) := HD13.out.cell 2
        have e3 : w13.cell? ⟨w.heap.size + 1 + 1, 3, none⟩ = some (.int .i64 d.used) := HD13.out.cell 3
        have e4 : w13.cell? ⟨w.heap.size + 1 + 1, 4, none⟩ = some (.int .i64 d.now) := HD13.out.cell 4
        have eo := HD13.out.old
        have HE := Lib.hid (HI4.out.e (by decide) HO13.out)
        have hsz : d.sz ≤ 1048576 := by have := HI4.out.sz (by decide); omega
        unfold Dk.val at HE
        go_wp2_with fail
        refine (specNextTime_own d _ _ HE.out hsz).mono ?_
        rintro e _ ⟨p', b', a', f1, f2, f3, rfl, ⟨Y, rfl⟩, hO'⟩
        have HO' := Lib.hid ((RowD.of hO').mono (B' := w.heap.size) (by omega))
        clear hO'
        generalize hr : nextR d = r at HO' ⊢
        have HI' : Hid (r.2 = 0 → DkI 2 r.1) := Lib.hid (fun hc => by rw [← hr] at hc ⊢; exact HI4.out.next hc)
        clear hr HN13 HRI
        obtain ⟨RD2, RC2⟩ := r
        obtain ⟨p5, p6, rfl⟩ := row_shape HO'.out.p
        obtain ⟨b5, b6, rfl⟩ := row_shape HO'.out.b
        obtain ⟨a5, a6, rfl⟩ := row_shape HO'.out.a
        unfold stV
        dsimp only at HO' HI' ⊢
        have hxy : Ext w13 (w13.plus Y) := (Ext.refl _).plus Y
        have HBy := Lib.hid (HB13.out.ext hxy)
        have HOy := Lib.hid (HO13.out.ext hxy)
        have HDy := Lib.hid (HD13.out.ext hxy)
        have HRy := Lib.hid (HR13.out.ext hxy)
        have HCy := Lib.hid (HC13.out.trans (hxy.chg _))
        have HAy := Lib.hid (HA13.out.ext hxy)
        clear e0 e1 e2 e3 e4 eo hxy HB13 HO13 HD13 HR13 HC13 HA13 HE
        generalize w13.plus Y = wy at HBy HOy HDy HRy HCy HAy HO' ⊢
        clear Y
        have d0 : wy.cell? ⟨bs, 0, none⟩ = some (.slice p2 n1 p3) := HBy.out.cell 0
        have d1 : wy.cell? ⟨bs, 1, none⟩ = some (.slice b2 n2 b3) := HBy.out.cell 1
        have d2 : wy.cell? ⟨bs, 2, none⟩ = some (.slice a2 n3 a3) := HBy.out.cell 2
        have d3 : wy.cell? ⟨bs, 3, none⟩ = some (.int .i64 RD.used) := HBy.out.cell 3
        have d4 : wy.cell? ⟨bs, 4, none⟩ = some (.int .i64 RD.now) := HBy.out.cell 4
        have d5 : wy.cell? ⟨bs, 5, none⟩ = some (.int .i64 r6) := HBy.out.cell 5
        have do9 := HBy.out.old
        have df9 := HBy.out.fz
        go_upto_region 9 with fail
        refine gen_world (fun w14 hW => ?_)
        have hch : Chg [bs] wy w14 := by rw [hW]; exact set6_chg _ _ _ _ _ _ _ _
        have HB14 := Lib.hid (show Blk w14 bs [.slice p5 RD2.pairs.length p6, .slice b5 RD2.box.length b6, .slice a5 RD2.audit.length a6, (.int .i64 RD2.used), (.int .i64 RD2.now), (.int .i64 RC2)] 31 by rw [hW]; exact HBy.out.set6 _ _ _ _ _ _)
        have HO14 := Lib.hid (HOy.out.off HBy.out (by decide) hch)
        have HN14 := Lib.hid (HO'.out.off HBy.out (by decide) hch)
        have HD14 := Lib.hid (HDy.out.chg hch (by simp; omega))
        have HR14 := Lib.hid (HRy.out.chg hch (by simp; omega))
        have HC14 := Lib.hid (HCy.out.past hch (by simp; omega))
        have HA14 := Lib.hid (HAy.out.chg HS.out hch (by simp; omega))
        clear hW hch d0 d1 d2 d3 d4 d5 do9 df9 HOy HDy HRy HCy HAy HO' HBy
        have hwk : wrap64 ((k : Int) - 1) = (k : Int) - 1 := by unfold wrap64; omega
        have e5 : w14.cell? ⟨bs, 5, none⟩ = some (.int .i64 RC2) := HB14.out.cell 5
        have eo := HB14.out.old
        cases qc : (RC2 == 0)
        · go_wp2
          exact ⟨⟨k - 1, d, _, _, _, by omega, by go_num, HC14, HA14, HR14, HD14, HO14, HI4⟩, by simp [intOf]; omega⟩
        · have e0 : w14.cell? ⟨bs, 0, none⟩ = some (.slice p5 RD2.pairs.length p6) := HB14.out.cell 0
          have e1 : w14.cell? ⟨bs, 1, none⟩ = some (.slice b5 RD2.box.length b6) := HB14.out.cell 1
          have e2 : w14.cell? ⟨bs, 2, none⟩ = some (.slice a5 RD2.audit.length a6) := HB14.out.cell 2
          have e3 : w14.cell? ⟨bs, 3, none⟩ = some (.int .i64 RD2.used) := HB14.out.cell 3
          have e4 : w14.cell? ⟨bs, 4, none⟩ = some (.int .i64 RD2.now) := HB14.out.cell 4
          have HRC := Lib.hid (show DkI 2 RD2 from HI'.out (by simpa using qc))
          have do0 : w14.cell? ⟨w.heap.size + 1 + 1, 0, none⟩ = some (.slice (some ⟨bP, oP, none⟩) d.pairs.length pc) := HD14.out.cell 0
          have do1 : w14.cell? ⟨w.heap.size + 1 + 1, 1, none⟩ = some (.slice ba d.box.length bc) := HD14.out.cell 1
          have do2 : w14.cell? ⟨w.heap.size + 1 + 1, 2, none⟩ = some (.slice aa d.audit.length ac) := HD14.out.cell 2
          have do3 : w14.cell? ⟨w.heap.size + 1 + 1, 3, none⟩ = some (.int .i64 d.used) := HD14.out.cell 3
          have do4 : w14.cell? ⟨w.heap.size + 1 + 1, 4, none⟩ = some (.int .i64 d.now) := HD14.out.cell 4
          have doo := HD14.out.old
          have dof := HD14.out.fz
          go_upto_region 4 with fail
          refine gen_world (fun W15 hW => ?_)
          have hch : Chg [w.heap.size + 1 + 1] w14 W15 := by rw [hW]; exact set5_chg _ _ _ _ _ _ _
          have HD15 := Lib.hid (show Blk W15 (w.heap.size + 1 + 1) [.slice p5 RD2.pairs.length p6, .slice b5 RD2.box.length b6, .slice a5 RD2.audit.length a6, (.int .i64 RD2.used), (.int .i64 RD2.now)] 25 by rw [hW]; exact HD14.out.set5 _ _ _ _ _)
          have HR15 := Lib.hid (HR14.out.chg hch (by simp; omega))
          have HO15 := Lib.hid (HN14.out.off HD14.out (by decide) hch)
          have HC15 := Lib.hid (HC14.out.past hch (by simp; omega))
          have HA15 := Lib.hid (HA14.out.chg HS.out hch (by simp; omega))
          clear hW hch do0 do1 do2 do3 do4 doo dof e0 e1 e2 e3 e4 e5 eo
          go_wp2
          exact ⟨⟨k - 1, RD2, _, _, _, by omega, by go_num, HC15, HA15, HR15, HD15, HO15, HRC⟩, by simp [intOf]; omega⟩
    · obtain rfl : k = 0 := by omega
      go_wp2_with fail
      refine (srcOne_any g 15 _ cv l HA4.out H15.out).mono ?_
      rintro e w5 ⟨bl, rfl, hc, hs⟩
      have HI3 : Hid (DkI 3 d) := Lib.hid ⟨⟨HI4.out.pairs.1, by have := HI4.out.pairs; omega⟩, by have := HI4.out.box; omega, HI4.out.audit, HI4.out.used, by have := HI4.out.now; omega, HI4.out.op, HI4.out.ob, HI4.out.oa⟩
      have HO5 := Lib.hid (HO4.out.low hc HG.out)
      have HD5 := Lib.hid (HD4.out.chg hc (by have := HG.out; simp; omega))
      have HR5 := Lib.hid (HR4.out.chg hc (by have := HG.out; simp; omega))
      have HC5 := Lib.hid (HC4.out.trans hc)
      clear HO4 HD4 HR4 HC4 HA4
      have HA5 := Lib.hid hs
      clear hc hs
      cases bl
      · have HPe := Lib.hid HO5.out.p
        have HBe := Lib.hid HO5.out.b
        have HUe := Lib.hid HO5.out.a
        have HRe := HR5
        have HDe := HD5
        have HCe := HC5
        have HAe := HA5
        have HIe := HI3
        clear HO5 HR5 HD5 HC5 HA5
        have z0 : w5.cell? ⟨w.heap.size + 1 + 1, 0, none⟩ = some (.slice (some ⟨bP, oP, none⟩) d.pairs.length pc) := HDe.out.cell 0
        have z1 : w5.cell? ⟨w.heap.size + 1 + 1, 1, none⟩ = some (.slice ba d.box.length bc) := HDe.out.cell 1
        have z2 : w5.cell? ⟨w.heap.size + 1 + 1, 2, none⟩ = some (.slice aa d.audit.length ac) := HDe.out.cell 2
        have z3 : w5.cell? ⟨w.heap.size + 1 + 1, 3, none⟩ = some (.int .i64 d.used) := HDe.out.cell 3
        have z4 : w5.cell? ⟨w.heap.size + 1 + 1, 4, none⟩ = some (.int .i64 d.now) := HDe.out.cell 4
        have zo := HDe.out.old
        have y0 : w5.cell? ⟨w.heap.size, 0, none⟩ = some (.slice none 0 0) := HRe.out.cell 0
        have y1 : w5.cell? ⟨w.heap.size, 1, none⟩ = some (.slice none 0 0) := HRe.out.cell 1
        have y2 : w5.cell? ⟨w.heap.size, 2, none⟩ = some (.slice none 0 0) := HRe.out.cell 2
        have y3 : w5.cell? ⟨w.heap.size, 3, none⟩ = some (.int .i64 0) := HRe.out.cell 3
        have y4 : w5.cell? ⟨w.heap.size, 4, none⟩ = some (.int .i64 0) := HRe.out.cell 4
        have yo := HRe.out.old
        have yf := HRe.out.fz
        go_wp2
        exact bodyPost_ret (v := .agg #[.slice (some ⟨bP, oP, none⟩) d.pairs.length pc, .slice ba d.box.length bc, .slice aa d.audit.length ac, (.int .i64 d.used), (.int .i64 d.now)]) (by simp [results, Try.results40, go_sem, y0, y1, y2, y3, y4]) rfl ⟨d, _, _, _, rfl, HCe.out.past (set5_chg _ _ _ _ _ _ _) (by simp), HAe.out.chg HS.out (set5_chg _ _ _ _ _ _ _) (by simp), HPe.out.off HRe.out (by decide) (set5_chg _ _ _ _ _ _ _), HBe.out.off HRe.out (by decide) (set5_chg _ _ _ _ _ _ _), HUe.out.off HRe.out (by decide) (set5_chg _ _ _ _ _ _ _), HIe.out⟩
      · go_wp2_with fail
        refine (srcN' g 4 _ cv l HA5.out H4.out).mono ?_
        rintro e w6 ⟨n, rfl, hb, hc, hs⟩
        have hn : (n : Int) = 0 ∨ (n : Int) = 1 ∨ (n : Int) = 2 ∨ (n : Int) = 3 := by omega
        have HO6 := Lib.hid (HO5.out.low hc HG.out)
        have HD6 := Lib.hid (HD5.out.chg hc (by have := HG.out; simp; omega))
        have HR6 := Lib.hid (HR5.out.chg hc (by have := HG.out; simp; omega))
        have HC6 := Lib.hid (HC5.out.trans hc)
        clear HO5 HD5 HR5 HC5 HA5
        have HA6 := Lib.hid hs
        clear hc hs hb
        generalize (n : Int) = z at hn ⊢
        have hg1 : g < w6.heap.size := HA6.out.old
        have hd1 : w.heap.size + 1 + 1 < w6.heap.size := HD6.out.old
        rcases hn with rfl | rfl | rfl | rfl
        · go_wp2_with fail
          refine (srcN' g 4 _ cv l HA6.out H4.out).mono ?_
          rintro e w7 ⟨m, rfl, hb, hc, hs⟩
          have hm : m < 4 := by omega
          have HO7 := Lib.hid (HO6.out.low hc HG.out)
          have HD7 := Lib.hid (HD6.out.chg hc (by have := HG.out; simp; omega))
          have HR7 := Lib.hid (HR6.out.chg hc (by have := HG.out; simp; omega))
          have HC7 := Lib.hid (HC6.out.trans hc)
          clear HO6 HD6 HR6 HC6 HA6
          have HA7 := Lib.hid hs
          clear hc hs hb
          have d3 : w7.cell? ⟨w.heap.size + 1 + 1, 3, none⟩ = some (.int .i64 d.used) := HD7.out.cell 3
          have doo := HD7.out.old
          have dof := HD7.out.fz
          go_upto_region 20 with fail
          refine gen_world (fun w8 hW => ?_)
          have hch : Chg [w.heap.size + 1 + 1] w7 w8 := by rw [hW]; exact (Chg.refl _ _).setCell (.inl (by simp)) _
          have HDe := Lib.hid (show Blk w8 (w.heap.size + 1 + 1) [.slice (some ⟨bP, oP, none⟩) d.pairs.length pc, .slice ba d.box.length bc, .slice aa d.audit.length ac, (.int .i64 (m : Int)), (.int .i64 d.now)] 25 by rw [hW]; exact HD7.out.set 3 _)
          have HOe := Lib.hid (HO7.out.off HD7.out (by decide) hch)
          have HRe := Lib.hid (HR7.out.chg hch (by simp; omega))
          have HCe := Lib.hid (HC7.out.past hch (by simp; omega))
          have HAe := Lib.hid (HA7.out.chg HS.out hch (by simp; omega))
          have HPe := Lib.hid HOe.out.p
          have HBe := Lib.hid HOe.out.b
          have HUe := Lib.hid HOe.out.a
          have HIe : Hid (DkI 3 ⟨d.pairs, d.box, d.audit, (m : Int), d.now⟩) := Lib.hid ⟨HI3.out.pairs, HI3.out.box, HI3.out.audit, by show 0 ≤ (m : Int) ∧ (m : Int) ≤ 3; omega, HI3.out.now, HI3.out.op, HI3.out.ob, HI3.out.oa⟩
          clear hW hch d3 doo dof HOe HO7 HD7 HR7 HC7 HA7
          have z0 : w8.cell? ⟨w.heap.size + 1 + 1, 0, none⟩ = some (.slice (some ⟨bP, oP, none⟩) d.pairs.length pc) := HDe.out.cell 0
          have z1 : w8.cell? ⟨w.heap.size + 1 + 1, 1, none⟩ = some (.slice ba d.box.length bc) := HDe.out.cell 1
          have z2 : w8.cell? ⟨w.heap.size + 1 + 1, 2, none⟩ = some (.slice aa d.audit.length ac) := HDe.out.cell 2
          have z3 : w8.cell? ⟨w.heap.size + 1 + 1, 3, none⟩ = some (.int .i64 (m : Int)) := HDe.out.cell 3
          have z4 : w8.cell? ⟨w.heap.size + 1 + 1, 4, none⟩ = some (.int .i64 d.now) := HDe.out.cell 4
          have zo := HDe.out.old
          have y0 : w8.cell? ⟨w.heap.size, 0, none⟩ = some (.slice none 0 0) := HRe.out.cell 0
          have y1 : w8.cell? ⟨w.heap.size, 1, none⟩ = some (.slice none 0 0) := HRe.out.cell 1
          have y2 : w8.cell? ⟨w.heap.size, 2, none⟩ = some (.slice none 0 0) := HRe.out.cell 2
          have y3 : w8.cell? ⟨w.heap.size, 3, none⟩ = some (.int .i64 0) := HRe.out.cell 3
          have y4 : w8.cell? ⟨w.heap.size, 4, none⟩ = some (.int .i64 0) := HRe.out.cell 4
          have yo := HRe.out.old
          have yf := HRe.out.fz
          go_wp2
          exact bodyPost_ret (v := .agg #[.slice (some ⟨bP, oP, none⟩) d.pairs.length pc, .slice ba d.box.length bc, .slice aa d.audit.length ac, (.int .i64 (m : Int)), (.int .i64 d.now)]) (by simp [results, Try.results40, go_sem, y0, y1, y2, y3, y4]) rfl ⟨⟨d.pairs, d.box, d.audit, (m : Int), d.now⟩, _, _, _, rfl, HCe.out.past (set5_chg _ _ _ _ _ _ _) (by simp), HAe.out.chg HS.out (set5_chg _ _ _ _ _ _ _) (by simp), HPe.out.off HRe.out (by decide) (set5_chg _ _ _ _ _ _ _), HBe.out.off HRe.out (by decide) (set5_chg _ _ _ _ _ _ _), HUe.out.off HRe.out (by decide) (set5_chg _ _ _ _ _ _ _), HIe.out⟩
        · go_upto_region 17 with fail
          have hgd := HG.out
          (refine wp_region_l (R := SrcR g cv l) (SrcR.trans) 7 [(fun u _ => u = (.pointer (some ⟨w.heap.size + 1 + 1, 4, none⟩))), (fun u _ => u = (.int .i64 d.now)), (fun u _ => u = (.pointer (some ⟨g, 0, none⟩))), kLt 3, kNow 0 1000022, kNow (-1) 1000021, (fun u _ => u = (.pointer (some ⟨w.heap.size + 1 + 1, 4, none⟩)))] (by kernel_rfl) (by kernel_rfl) (by kernel_rfl) rfl ?_ (by repeat' (first | exact trivial | exact XReg.GoodKL.same _ _ default | exact kI64_good | exact kLt_good (by decide) | exact kArr_good | exact kPt_good (by decide) | exact kNow_good (by decide) | refine And.intro ?_ ?_)) (SrcR.ext (Ext.refl _).drew))
          (apply LReg.val (.pointer (some ⟨w.heap.size + 1 + 1, 4, none⟩)); (case h => (intro w' hw' hF'; have HW' := Lib.hid hw'; clear hF' hw'; go_wp2_with fail; exact ⟨rfl, SrcR.ext (by repeat (first | exact Ext.refl _ | apply Ext.plus | apply Ext.alloc | apply Ext.drew))⟩)); (case hv => kernel_rfl))
          apply LReg.val (.int .i64 d.now)
          case h =>
            intro w' hw' hF'
            have hB := HD6.out.chg hw'.1 (by have := HG.out; simp; omega)
            have e0 : w'.cell? ⟨w.heap.size + 1 + 1, 4, none⟩ = some (.int .i64 d.now) := hB.cell 4
            have eo := hB.old
            clear hF' hw' hB
            go_wp2_with fail
            exact ⟨rfl, SrcR.ext (by repeat (first | exact Ext.refl _ | apply Ext.plus | apply Ext.alloc | apply Ext.drew))⟩
          case hv => kernel_rfl
          (apply LReg.val (.pointer (some ⟨g, 0, none⟩)); (case h => (intro w' hw' hF'; have HW' := Lib.hid hw'; clear hF' hw'; go_wp2_with fail; exact ⟨rfl, SrcR.ext (by repeat (first | exact Ext.refl _ | apply Ext.plus | apply Ext.alloc | apply Ext.drew))⟩)); (case hv => kernel_rfl))
          refine LReg.kind (fun w' hw' hF' => ?_) (fun v w1 hK => ?_)
          · have HW' := Lib.hid (hw'.2 HA6.out)
            clear hF' hw'
            go_wp2_with fail
            refine (srcN' g 3 _ cv l (HW'.out.ext (by repeat (first | exact Ext.refl _ | apply Ext.plus | apply Ext.alloc | apply Ext.drew))) H3.out).mono ?_
            rintro e w8 ⟨n, rfl, hb, hc, hs⟩
            have HR8 := Lib.hid (SrcR.of (w := w') (by repeat (first | exact Ext.refl _ | apply Ext.plus | apply Ext.alloc | apply Ext.drew)) hc hs)
            have hn : n < 3 := by omega
            clear hc hs hb
            go_wp2
            exact ⟨HR8.out, _, rfl, hn⟩
          obtain ⟨kn, rfl, hkn⟩ := hK
          clear w1
          have hnow := HI4.out.now
          refine LReg.kind (fun w' hw' hF' => ?_) (fun v w1 hK => ?_)
          · clear hw' hF'
            have hin : wrap64 (d.now + (kn : Int)) = d.now + kn := by unfold wrap64; omega
            go_wp2
            exact ⟨SrcR.ext (by repeat (first | exact Ext.refl _ | apply Ext.plus | apply Ext.alloc | apply Ext.drew)), _, rfl, by first | omega | (rw [hin]; omega)⟩
          obtain ⟨na, rfl, hna⟩ := hK
          clear w1
          refine LReg.kind (fun w' hw' hF' => ?_) (fun v w1 hK => ?_)
          · clear hw' hF'
            have hin : wrap64 (na - 1) = na - 1 := by unfold wrap64; omega
            go_wp2
            exact ⟨SrcR.ext (by repeat (first | exact Ext.refl _ | apply Ext.plus | apply Ext.alloc | apply Ext.drew)), _, rfl, by first | omega | (rw [hin]; omega)⟩
          obtain ⟨nb, rfl, hnb⟩ := hK
          clear w1
          (apply LReg.val (.pointer (some ⟨w.heap.size + 1 + 1, 4, none⟩)); (case h => (intro w' hw' hF'; have HW' := Lib.hid hw'; clear hF' hw'; go_wp2_with fail; exact ⟨rfl, SrcR.ext (by repeat (first | exact Ext.refl _ | apply Ext.plus | apply Ext.alloc | apply Ext.drew))⟩)); (case hv => kernel_rfl))
          refine LReg.done (fun w7 hw9 hF => ?_)
          have HA7 := Lib.hid (hw9.2 HA6.out)
          have hc := hw9.1
          have HO7 := Lib.hid (HO6.out.low hc HG.out)
          have HD7 := Lib.hid (HD6.out.chg hc (by have := HG.out; simp; omega))
          have HR7 := Lib.hid (HR6.out.chg hc (by have := HG.out; simp; omega))
          have HC7 := Lib.hid (HC6.out.trans hc)
          clear HO6 HD6 HR6 HC6 HA6
          clear hF hw9 hc
          have d3 : w7.cell? ⟨w.heap.size + 1 + 1, 4, none⟩ = some (.int .i64 d.now) := HD7.out.cell 4
          have doo := HD7.out.old
          have dof := HD7.out.fz
          have hd7 : w.heap.size + 1 + 1 < w7.heap.size := HD7.out.old
          go_upto_region 20 with fail
          refine gen_world (fun w8 hW => ?_)
          have hch : Chg [w.heap.size + 1 + 1] w7 w8 := by rw [hW]; exact (Chg.refl _ _).setCell (.inl (by simp)) _
          have HDe := Lib.hid (show Blk w8 (w.heap.size + 1 + 1) [.slice (some ⟨bP, oP, none⟩) d.pairs.length pc, .slice ba d.box.length bc, .slice aa d.audit.length ac, (.int .i64 d.used), (.int .i64 nb)] 25 by rw [hW]; exact HD7.out.set 4 _)
          have HOe := Lib.hid (HO7.out.off HD7.out (by decide) hch)
          have HRe := Lib.hid (HR7.out.chg hch (by simp; omega))
          have HCe := Lib.hid (HC7.out.past hch (by simp; omega))
          have HAe := Lib.hid (HA7.out.chg HS.out hch (by simp; omega))
          have HPe := Lib.hid HOe.out.p
          have HBe := Lib.hid HOe.out.b
          have HUe := Lib.hid HOe.out.a
          have HIe : Hid (DkI 3 ⟨d.pairs, d.box, d.audit, d.used, nb⟩) := Lib.hid ⟨HI3.out.pairs, HI3.out.box, HI3.out.audit, HI3.out.used, by show 2 - ((3 : Nat) : Int) ≤ nb ∧ nb ≤ 1000000 + 10 * ((3 : Nat) : Int); omega, HI3.out.op, HI3.out.ob, HI3.out.oa⟩
          clear hW hch d3 doo dof HOe HO7 HD7 HR7 HC7 HA7
          have z0 : w8.cell? ⟨w.heap.size + 1 + 1, 0, none⟩ = some (.slice (some ⟨bP, oP, none⟩) d.pairs.length pc) := HDe.out.cell 0
          have z1 : w8.cell? ⟨w.heap.size + 1 + 1, 1, none⟩ = some (.slice ba d.box.length bc) := HDe.out.cell 1
          have z2 : w8.cell? ⟨w.heap.size + 1 + 1, 2, none⟩ = some (.slice aa d.audit.length ac) := HDe.out.cell 2
          have z3 : w8.cell? ⟨w.heap.size + 1 + 1, 3, none⟩ = some (.int .i64 d.used) := HDe.out.cell 3
          have z4 : w8.cell? ⟨w.heap.size + 1 + 1, 4, none⟩ = some (.int .i64 nb) := HDe.out.cell 4
          have zo := HDe.out.old
          have y0 : w8.cell? ⟨w.heap.size, 0, none⟩ = some (.slice none 0 0) := HRe.out.cell 0
          have y1 : w8.cell? ⟨w.heap.size, 1, none⟩ = some (.slice none 0 0) := HRe.out.cell 1
          have y2 : w8.cell? ⟨w.heap.size, 2, none⟩ = some (.slice none 0 0) := HRe.out.cell 2
          have y3 : w8.cell? ⟨w.heap.size, 3, none⟩ = some (.int .i64 0) := HRe.out.cell 3
          have y4 : w8.cell? ⟨w.heap.size, 4, none⟩ = some (.int .i64 0) := HRe.out.cell 4
          have yo := HRe.out.old
          have yf := HRe.out.fz
          go_wp2
          exact bodyPost_ret (v := .agg #[.slice (some ⟨bP, oP, none⟩) d.pairs.length pc, .slice ba d.box.length bc, .slice aa d.audit.length ac, (.int .i64 d.used), (.int .i64 nb)]) (by simp [results, Try.results40, go_sem, y0, y1, y2, y3, y4]) rfl ⟨⟨d.pairs, d.box, d.audit, d.used, nb⟩, _, _, _, rfl, HCe.out.past (set5_chg _ _ _ _ _ _ _) (by simp), HAe.out.chg HS.out (set5_chg _ _ _ _ _ _ _) (by simp), HPe.out.off HRe.out (by decide) (set5_chg _ _ _ _ _ _ _), HBe.out.off HRe.out (by decide) (set5_chg _ _ _ _ _ _ _), HUe.out.off HRe.out (by decide) (set5_chg _ _ _ _ _ _ _), HIe.out⟩
        · have hβ1 : ∀ x ∈ blkL (.slice ba d.box.length bc), w.heap.size ≤ x ∧ x < w6.heap.size ∧ x ≠ w.heap.size + 1 + 1 ∧ x ≠ w.heap.size ∧ x ≠ g := fun x hx => by
            have h1 := HO6.out.blk x (by simp [hx])
            have h2 := HO6.out.nd HD6.out (by decide)
            have h3 := HO6.out.nd HR6.out (by decide)
            have h4 := HG.out
            refine ⟨h1.1, h1.2.1, fun e => h2 (by rw [← e]; simp [hx]), fun e => h3 (by rw [← e]; simp [hx]), by omega⟩
          have hPB := HO6.out.pb
          have hBA := HO6.out.ba
          generalize hβ : blkL (.slice ba d.box.length bc) = β at hβ1 hPB hBA
          have Hβ := Lib.hid hβ
          have HB1 := Lib.hid hβ1
          have HPB := Lib.hid hPB
          have HBA := Lib.hid hBA
          have hbl : d.box.length + 1 ≤ maxLen := by have := HI3.out.box; unfold maxLen; omega
          have hdβ : w.heap.size + 1 + 1 ∉ [g] ++ β := fun hm => by
            have := HG.out
            rcases List.mem_append.1 hm with hm | hm
            · simp at hm; omega
            · exact (HB1.out _ hm).2.2.1 rfl
          have hrβ : w.heap.size ∉ [g] ++ β := fun hm => by
            have := HG.out
            rcases List.mem_append.1 hm with hm | hm
            · simp at hm; omega
            · exact (HB1.out _ hm).2.2.2.1 rfl
          have HDβ := Lib.hid hdβ
          have HRβ := Lib.hid hrβ
          clear hβ hβ1 hPB hBA hdβ hrβ
          go_upto_region 19 with fail
          refine wp_region_z ([g] ++ β) [.V (.pointer (some ⟨w.heap.size + 1 + 1, 1, none⟩)), .A (fun _ u _ => u = (.slice ba d.box.length bc)) [] ([g] ++ β) ([g] ++ β), .V (.pointer (some ⟨g, 0, none⟩)), .A (kSrcN g cv l 3) [g] β β, .A kLtX [] ([g] ++ β) ([g] ++ β), .A (kOneX w6.heap.size) [] ([g] ++ β) β, .A (kRowX w.heap.size d.box) β [g] [], .V (.pointer (some ⟨w.heap.size + 1 + 1, 1, none⟩)), .T] [_] (by kernel_rfl) (by kernel_rfl) (by kernel_rfl) (by kernel_rfl) rfl ?_ (by repeat' (first | exact trivial | exact XReg.ZOp.good_is _ _ _ _ | exact XReg.ZOp.good_v _ | exact XReg.ZOp.good_t | exact kSrcN_good HS.out HA6.out (by decide) (fun b hb => (HB1.out b hb).1) | exact kLtX_good | exact kOneX_good (fun b hb => (HB1.out b hb).2.1) | exact kRowX_good hbl | refine And.intro ?_ ?_)) (by repeat' (first | exact trivial | exact XReg.subL_nil _ | exact XReg.subL_refl _ | exact subL_l _ _ | exact subL_r _ _ | exact Or.inr (XReg.subL_nil _) | exact Or.inr (XReg.subL_refl _) | exact Or.inr (subL_l _ _) | exact Or.inr (subL_r _ _) | exact Or.inl (by kernel_rfl) | refine And.intro ?_ ?_))
          clear hbl
          (apply ZReg.val (.pointer (some ⟨w.heap.size + 1 + 1, 1, none⟩)); (case h => (intro w'; go_wp2_with (fail); first | exact ⟨rfl, rfl⟩ | exact rfl)); (case hv => kernel_rfl))
          apply ZReg.setU (.slice ba d.box.length bc)
          case h =>
            intro w' hw' hF'
            have hB := HD6.out.chg hw' HDβ.out
            have e1 : w'.cell? ⟨w.heap.size + 1 + 1, 1, none⟩ = some (.slice ba d.box.length bc) := hB.cell 1
            have eo := hB.old
            clear hF' hw' hB
            go_wp2_with fail
            exact ⟨rfl, (by repeat (first | exact Ext.refl _ | apply Ext.plus | apply Ext.alloc | apply Ext.drew))⟩
          case hv => kernel_rfl
          intro _
          (apply ZReg.val (.pointer (some ⟨g, 0, none⟩)); (case h => (intro w'; go_wp2_with (fail); first | exact ⟨rfl, rfl⟩ | exact rfl)); (case hv => kernel_rfl))
          refine ZReg.kind (fun w' hw' hF' => ?_) (fun v w1 x1 hK => ?_)
          · have HW' := Lib.hid (HA6.out.chg HS.out hw' (fun b hb => (HB1.out b hb).1))
            clear hw' hF'
            go_wp2_with fail
            refine (srcN' g 3 _ cv l HW'.out H3.out).mono ?_
            rintro e w8 ⟨n, rfl, hb, hc, hs⟩
            have hn : n < 3 := by omega
            have HC8 := Lib.hid hc
            have HS8 := Lib.hid hs
            clear hc hs hb
            go_wp2
            exact ⟨HC8.out, _, hn, rfl, HS8.out⟩
          obtain ⟨kn, hkn, rfl, -⟩ := hK
          clear w1
          refine ZReg.kind (fun w' hw' hF' => ?_) (fun v w1 x2 hK => ?_)
          · clear hw' hF'
            go_wp2
            exact ⟨Ext.chg (by repeat (first | exact Ext.refl _ | apply Ext.plus | apply Ext.alloc | apply Ext.drew)) _, ⟨⟨0, 0⟩, ⟨0, 0⟩, (kn : Int), 0⟩, ⟨ltr0_ok.1, ltr0_ok.2.1, by show I64 (kn : Int); unfold I64; omega, ltr0_ok.2.2.2⟩, rfl⟩
          obtain ⟨y, hy, rfl⟩ := hK
          clear w1
          refine ZReg.kind (fun w' hw' hF' => ?_) (fun v w1 x3 hK => ?_)
          · have hsz := hw'.size
            have H9a := Lib.hid (show kOneX w6.heap.size (0, 0) (.slice (some ⟨w'.heap.size, 0, none⟩) 1 1) (w'.alloc (.cells #[(.int .i64 y.a.lv), (.int .i64 y.a.st), (.int .i64 y.b.lv), (.int .i64 y.b.st), (.int .i64 y.p), (.int .i64 y.q)] 75)) from ⟨_, y, hy, rfl, hsz, Blk.new rfl⟩)
            clear hw' hF' hsz
            go_wp2
            exact ⟨Ext.chg (by repeat (first | exact Ext.refl _ | apply Ext.plus | apply Ext.alloc | apply Ext.drew)) _, H9a.out⟩
          obtain ⟨gb, y2, hy2, rfl, -⟩ := hK
          clear w1
          refine ZReg.kind (fun w' hw' hF' => ?_) (fun v1 w1 x4 hK => ?_)
          · obtain ⟨gb', y3, hy3, hgb, hC9, hB9⟩ := hF'.get 5 (p := (kOneX w6.heap.size x3, .slice (some ⟨gb, 0, none⟩) 1 1)) (by kernel_rfl) (by kernel_rfl)
            obtain rfl : gb = gb' := by simpa using hgb
            have HRW := Lib.hid (HO6.out.b.chg hw' (fun b hb => by have := (HB1.out b (by rw [← Hβ.out]; exact hb)).2.2.2.2; simp; omega))
            have HBW := Lib.hid hB9
            have HY := Lib.hid hy3
            have HSW : Hid (w.heap.size ≤ w'.heap.size) := Lib.hid (Nat.le_trans HC6.out.size hw'.size)
            have hbx := HI3.out.box
            clear hw' hF' hB9 hy3 hgb hC9
            go_wp2_with (at_builtin; go_must (refine Row.appC (f := Ltr.cells) el_Letter rfl _ _ rfl w.heap.size HSW.out (.slice ba d.box.length bc) d.box rfl HRW.out ⟨gb, 0, none⟩ 1 1 [y3] rfl rfl (fun _ => rfl) ?_ ?_ ?_ ?_ ?_); (exact ltr_news HBW.out); (exact ltr_one _); (unfold maxLen; simp; omega); (simp; omega); intro v' w2 hR hC; obtain ⟨a9, c9, rfl⟩ := row_shape hR; simp only [List.length_append, List.length_singleton] at hR; have HR2 := Lib.hid hR; have HC2 := Lib.hid hC; clear hR hC; simp only [List.length_append, List.length_singleton])
            exact ⟨by rw [← Hβ.out]; exact HC2.out, y3, HY.out, a9, c9, rfl, HR2.out⟩
          obtain ⟨y4, hy4, a9, c9, rfl, -⟩ := hK
          clear w1
          (apply ZReg.val (.pointer (some ⟨w.heap.size + 1 + 1, 1, none⟩)); (case h => (intro w'; go_wp2_with (fail); first | exact ⟨rfl, rfl⟩ | exact rfl)); (case hv => kernel_rfl))
          refine ZReg.T ?_
          refine ZReg.done (fun w9 hw9 hF hR => ?_)
          obtain ⟨n9, -, -, hs9⟩ := hF 3 (kSrcN g cv l 3 x1, (.int .i64 (kn : Int))) (by kernel_rfl)
          obtain ⟨y5, hy5, a5, c5, hv5, hr5⟩ := hF 6 (kRowX w.heap.size d.box x4, .slice a9 (d.box.length + 1) c9) (by kernel_rfl)
          obtain ⟨rfl, rfl⟩ : a9 = a5 ∧ c9 = c5 := by simpa using hv5
          have HA9 := Lib.hid hs9
          have HB9 := Lib.hid hr5
          have HY5 := Lib.hid hy5
          have HD9 := Lib.hid (HD6.out.chg hw9 HDβ.out)
          have HR9 := Lib.hid (HR6.out.chg hw9 HRβ.out)
          have HP9 := Lib.hid (HO6.out.p.chg hw9 (fun b hb hm => by
            have h1 := (HO6.out.p.blk b hb).1
            have := HG.out
            rcases List.mem_append.1 hm with hm | hm
            · simp at hm; omega
            · exact HPB.out b hb hm))
          have HU9 := Lib.hid (HO6.out.a.chg hw9 (fun b hb hm => by
            have h1 := (HO6.out.a.blk b hb).1
            have := HG.out
            rcases List.mem_append.1 hm with hm | hm
            · simp at hm; omega
            · exact HBA.out b hm hb))
          have HC9 := Lib.hid (HC6.out.past2 hw9 (fun b hb => (HB1.out b hb).1))
          clear hF hR hs9 hr5 hv5 hw9 hy5 hy4 HO6 HD6 HR6 HC6 HA6 HB1 HPB HBA HDβ HRβ Hβ
          have d3 : w9.cell? ⟨w.heap.size + 1 + 1, 1, none⟩ = some (.slice ba d.box.length bc) := HD9.out.cell 1
          have doo := HD9.out.old
          have dof := HD9.out.fz
          refine ZReg.run ?_
          go_wp2
          refine ZReg.endG (fun w8 hW => ?_)
          have hch : Chg [w.heap.size + 1 + 1] w9 w8 := by rw [hW]; exact (Chg.refl _ _).setCell (.inl (by simp)) _
          have HDe := Lib.hid (show Blk w8 (w.heap.size + 1 + 1) [.slice (some ⟨bP, oP, none⟩) d.pairs.length pc, .slice a9 (d.box.length + 1) c9, .slice aa d.audit.length ac, (.int .i64 d.used), (.int .i64 d.now)] 25 by rw [hW]; exact HD9.out.set 1 _)
          have HRe := Lib.hid (HR9.out.chg hch (by simp; omega))
          have HCe := Lib.hid (HC9.out.past hch (by simp; omega))
          have HAe := Lib.hid (HA9.out.chg HS.out hch (by simp; omega))
          have HPe := Lib.hid (HP9.out.off HD9.out (by decide) hch)
          have HBe := Lib.hid (HB9.out.off HD9.out (by decide) hch)
          have HUe := Lib.hid (HU9.out.off HD9.out (by decide) hch)
          have HIe : Hid (DkI 3 ⟨d.pairs, d.box ++ [y5], d.audit, d.used, d.now⟩) := Lib.hid ⟨HI3.out.pairs, by have := HI4.out.box; show (d.box ++ [y5]).length ≤ 14 + 3 * 3; simp; omega, HI3.out.audit, HI3.out.used, HI3.out.now, HI3.out.op, fun x hx => by
            rcases List.mem_append.1 hx with hx | hx
            · exact HI3.out.ob x hx
            · rw [List.mem_singleton.1 hx]; exact HY5.out, HI3.out.oa⟩
          clear hW hch d3 doo dof HD9 HR9 HC9 HA9 HP9 HB9 HU9
          have z0 : w8.cell? ⟨w.heap.size + 1 + 1, 0, none⟩ = some (.slice (some ⟨bP, oP, none⟩) d.pairs.length pc) := HDe.out.cell 0
          have z1 : w8.cell? ⟨w.heap.size + 1 + 1, 1, none⟩ = some (.slice a9 (d.box.length + 1) c9) := HDe.out.cell 1
          have z2 : w8.cell? ⟨w.heap.size + 1 + 1, 2, none⟩ = some (.slice aa d.audit.length ac) := HDe.out.cell 2
          have z3 : w8.cell? ⟨w.heap.size + 1 + 1, 3, none⟩ = some (.int .i64 d.used) := HDe.out.cell 3
          have z4 : w8.cell? ⟨w.heap.size + 1 + 1, 4, none⟩ = some (.int .i64 d.now) := HDe.out.cell 4
          have zo := HDe.out.old
          have y0 : w8.cell? ⟨w.heap.size, 0, none⟩ = some (.slice none 0 0) := HRe.out.cell 0
          have y1 : w8.cell? ⟨w.heap.size, 1, none⟩ = some (.slice none 0 0) := HRe.out.cell 1
          have y2 : w8.cell? ⟨w.heap.size, 2, none⟩ = some (.slice none 0 0) := HRe.out.cell 2
          have y3 : w8.cell? ⟨w.heap.size, 3, none⟩ = some (.int .i64 0) := HRe.out.cell 3
          have y4 : w8.cell? ⟨w.heap.size, 4, none⟩ = some (.int .i64 0) := HRe.out.cell 4
          have yo := HRe.out.old
          have yf := HRe.out.fz
          go_wp2
          exact bodyPost_ret (v := .agg #[.slice (some ⟨bP, oP, none⟩) d.pairs.length pc, .slice a9 (d.box.length + 1) c9, .slice aa d.audit.length ac, (.int .i64 d.used), (.int .i64 d.now)]) (by simp [results, Try.results40, go_sem, y0, y1, y2, y3, y4]) rfl ⟨⟨d.pairs, d.box ++ [y5], d.audit, d.used, d.now⟩, _, _, _, rfl, HCe.out.past (set5_chg _ _ _ _ _ _ _) (by simp), HAe.out.chg HS.out (set5_chg _ _ _ _ _ _ _) (by simp), HPe.out.off HRe.out (by decide) (set5_chg _ _ _ _ _ _ _), HBe.out.off HRe.out (by decide) (set5_chg _ _ _ _ _ _ _), HUe.out.off HRe.out (by decide) (set5_chg _ _ _ _ _ _ _), HIe.out⟩
        · have hβ1 : ∀ x ∈ blkL (.slice (some ⟨bP, oP, none⟩) d.pairs.length pc), w.heap.size ≤ x ∧ x < w6.heap.size ∧ x ≠ w.heap.size + 1 + 1 ∧ x ≠ w.heap.size := fun x hx => by
            have h1 := HO6.out.blk x (by simp [hx])
            have h2 := HO6.out.nd HD6.out (by decide)
            have h3 := HO6.out.nd HR6.out (by decide)
            refine ⟨h1.1, h1.2.1, fun e => h2 (by rw [← e]; simp [hx]), fun e => h3 (by rw [← e]; simp [hx])⟩
          have HB1 := Lib.hid hβ1
          clear hβ1
          have hpl := HI4.out.pairs
          obtain ⟨x0, hx0⟩ : ∃ x0 : Ltr, x0 = d.pairs[0]'(by omega) := ⟨_, rfl⟩
          have hx0o : x0.ok := by rw [hx0]; exact HI4.out.op _ (List.getElem_mem _)
          obtain ⟨ho0, hok0, l0, l1, l2, l3, l4, l5⟩ := ltr_at (row_ltr HO6.out.p HI4.out.op) (i := 0) (by omega)
          rw [← hx0] at l0 l1 l2 l3 l4 l5
          simp only [Nat.zero_mul, Nat.add_zero] at l0 l1 l2 l3 l4 l5
          have HX0 := Lib.hid hx0o
          clear hx0 hx0o hok0
          have e0 : w6.cell? ⟨w.heap.size + 1 + 1, 0, none⟩ = some (.slice (some ⟨bP, oP, none⟩) d.pairs.length pc) := HD6.out.cell 0
          have eo := HD6.out.old
          have hlp : (0 : Int) < (d.pairs.length : Int) := by omega
          clear hpl
          go_upto_region 13 with fail
          refine wp_region_i 9 (ApI w6 w.heap.size [some (.pointer (some ⟨w.heap.size + 1 + 1, 0, none⟩)), some (.slice (some ⟨bP, oP, none⟩) d.pairs.length pc), some (.pointer (some ⟨w.heap.size + 1 + 1, 0, none⟩)), some (.slice (some ⟨bP, oP, none⟩) d.pairs.length pc), some (.pointer (some ⟨bP, oP, none⟩)), some (.agg #[(.int .i64 x0.a.lv), (.int .i64 x0.a.st), (.int .i64 x0.b.lv), (.int .i64 x0.b.st), (.int .i64 x0.p), (.int .i64 x0.q)]), none, none, some (.pointer (some ⟨w.heap.size + 1 + 1, 0, none⟩))] (.slice (some ⟨bP, oP, none⟩) d.pairs.length pc) d.pairs x0) (by kernel_rfl) (by kernel_rfl) (by kernel_rfl) (fun vs => ?_) (fun vs => ApI.start (Ext.refl _).drew)
          refine IReg.step 1 rfl (fun L w' hI hL hj => ?_) ?_
          · skip
            have HI := Lib.hid hI
            clear hI hL hj
            go_wp2
            exact HI.out.set 0 _ (by repeat (first | exact Ext.refl _ | apply Ext.plus | apply Ext.alloc | apply Ext.drew)) (by decide) (by decide) (fun u hu => by simpa using hu.symm)
          refine IReg.step 2 rfl (fun L w' hI hL hj => ?_) ?_
          · (rw [hI.s 0 _ rfl (hj 0 (by decide) (by kernel_rfl))]; obtain ⟨X', rfl⟩ := hI.pre (hI.free (by decide) hL))
            have HI := Lib.hid hI
            clear hI hL hj
            go_wp2
            exact HI.out.set 1 _ (by repeat (first | exact Ext.refl _ | apply Ext.plus | apply Ext.alloc | apply Ext.drew)) (by decide) (by decide) (fun u hu => by simpa using hu.symm)
          refine IReg.step 3 rfl (fun L w' hI hL hj => ?_) ?_
          · skip
            have HI := Lib.hid hI
            clear hI hL hj
            go_wp2
            exact HI.out.set 2 _ (by repeat (first | exact Ext.refl _ | apply Ext.plus | apply Ext.alloc | apply Ext.drew)) (by decide) (by decide) (fun u hu => by simpa using hu.symm)
          refine IReg.step 4 rfl (fun L w' hI hL hj => ?_) ?_
          · (rw [hI.s 2 _ rfl (hj 2 (by decide) (by kernel_rfl))]; obtain ⟨X', rfl⟩ := hI.pre (hI.free (by decide) hL))
            have HI := Lib.hid hI
            clear hI hL hj
            go_wp2
            exact HI.out.set 3 _ (by repeat (first | exact Ext.refl _ | apply Ext.plus | apply Ext.alloc | apply Ext.drew)) (by decide) (by decide) (fun u hu => by simpa using hu.symm)
          refine IReg.step 5 rfl (fun L w' hI hL hj => ?_) ?_
          · (rw [hI.s 3 _ rfl (hj 3 (by decide) (by kernel_rfl))])
            have HI := Lib.hid hI
            clear hI hL hj
            go_wp2
            exact HI.out.set 4 _ (by repeat (first | exact Ext.refl _ | apply Ext.plus | apply Ext.alloc | apply Ext.drew)) (by decide) (by decide) (fun u hu => by simpa using hu.symm)
          refine IReg.step 6 rfl (fun L w' hI hL hj => ?_) ?_
          · (rw [hI.s 4 _ rfl (hj 4 (by decide) (by kernel_rfl))]; obtain ⟨X', rfl⟩ := hI.pre (hI.free (by decide) hL))
            have HI := Lib.hid hI
            clear hI hL hj
            go_wp2
            exact HI.out.set 5 _ (by repeat (first | exact Ext.refl _ | apply Ext.plus | apply Ext.alloc | apply Ext.drew)) (by decide) (by decide) (fun u hu => by simpa using hu.symm)
          refine IReg.step 7 rfl (fun L w' hI hL hj => ?_) ?_
          · rw [hI.s 5 _ rfl (hj 5 (by decide) (by kernel_rfl))]
            have HI := Lib.hid (hI.made hL rfl)
            clear hI hL hj e0 eo l0 l1 l2 l3 l4 l5
            go_wp2
            exact HI.out
          refine IReg.step 8 rfl (fun L w' hI hL hj => ?_) ?_
          · have hall : ∀ j, j < 7 → L j = true := fun j hj' => by
              have : j = 0 ∨ j = 1 ∨ j = 2 ∨ j = 3 ∨ j = 4 ∨ j = 5 ∨ j = 6 := by omega
              rcases this with rfl | rfl | rfl | rfl | rfl | rfl | rfl <;> exact hj _ (by decide) (by kernel_rfl)
            obtain ⟨gb, h6, hb6⟩ := hI.one hL (hall 6 (by decide))
            rw [hI.s 1 _ rfl (hall 1 (by decide)), h6]
            have hpre := hI.pre hL
            have HRW := Lib.hid (HO6.out.p.ext hpre)
            have HSW : Hid (w.heap.size ≤ w'.heap.size) := Lib.hid (Nat.le_trans HC6.out.size hpre.below.size)
            have HBW := Lib.hid hb6
            have HI := Lib.hid hI
            have HL7 := Lib.hid hL
            have HALL := Lib.hid hall
            have hbx := HI4.out.pairs
            have hbx2 : d.pairs.length + 1 ≤ 1000 := by omega
            clear hI hL hj hpre hb6 h6 hall e0 eo l0 l1 l2 l3 l4 l5 hbx
            refine Row.appC (f := Ltr.cells) el_Letter rfl _ _ rfl w.heap.size HSW.out (.slice (some ⟨bP, oP, none⟩) d.pairs.length pc) d.pairs (by kernel_rfl) HRW.out ⟨gb, 0, none⟩ 1 1 [x0] (by kernel_rfl) rfl (fun _ => rfl) ?_ ?_ ?_ ?_ ?_
            · exact ltr_news HBW.out
            · exact ltr_one _
            · unfold maxLen; simp; omega
            · simp; omega
            intro v' w2 hR hC
            obtain ⟨a9, c9, rfl⟩ := row_shape hR
            simp only [List.length_append, List.length_singleton] at hR ⊢
            have HR2 := Lib.hid hR
            have HC2 := Lib.hid hC
            clear hR hC
            go_wp2
            exact HI.out.app HL7.out HALL.out rfl HC2.out HR2.out
          refine IReg.step 9 rfl (fun L w' hI hL hj => ?_) ?_
          · skip
            have HI := Lib.hid hI
            clear hI hL hj
            go_wp2
            exact HI.out.set 8 _ (by repeat (first | exact Ext.refl _ | apply Ext.plus | apply Ext.alloc | apply Ext.drew)) (by decide) (by decide) (fun u hu => by simpa using hu.symm)
          refine IReg.done (fun L w9 hL hI => ?_)
          rw [hI.s 8 _ rfl (hL 8 (by decide))]
          obtain ⟨hc9, a9, c9, e9, hr9⟩ := hI.post (hL 7 (by decide))
          rw [e9]
          have HB9 := Lib.hid hr9
          have HD9 := Lib.hid (HD6.out.chg hc9 (fun hm => (HB1.out _ hm).2.2.1 rfl))
          have HR9 := Lib.hid (HR6.out.chg hc9 (fun hm => (HB1.out _ hm).2.2.2 rfl))
          have HP9 := Lib.hid (HO6.out.b.chg hc9 (fun b hb hm => HO6.out.pb b hm hb))
          have HU9 := Lib.hid (HO6.out.a.chg hc9 (fun b hb hm => HO6.out.pa b hm hb))
          have HC9 := Lib.hid (HC6.out.past hc9 (fun b hb => (HB1.out b hb).1))
          have HA9 := Lib.hid (HA6.out.chg HS.out hc9 (fun b hb => (HB1.out b hb).1))
          clear hI hL hc9 e9 hr9 HO6 HD6 HR6 HC6 HA6 HB1 e0 eo l0 l1 l2 l3 l4 l5 ho0 hlp hg1 hd1
          have d3 : w9.cell? ⟨w.heap.size + 1 + 1, 0, none⟩ = some (.slice (some ⟨bP, oP, none⟩) d.pairs.length pc) := HD9.out.cell 0
          have doo := HD9.out.old
          have dof := HD9.out.fz
          go_upto_region 20 with fail
          refine gen_world (fun w8 hW => ?_)
          have hch : Chg [w.heap.size + 1 + 1] w9 w8 := by rw [hW]; exact (Chg.refl _ _).setCell (.inl (by simp)) _
          have HDe := Lib.hid (show Blk w8 (w.heap.size + 1 + 1) [.slice a9 (d.pairs.length + 1) c9, .slice ba d.box.length bc, .slice aa d.audit.length ac, (.int .i64 d.used), (.int .i64 d.now)] 25 by rw [hW]; exact HD9.out.set 0 _)
          have HRe := Lib.hid (HR9.out.chg hch (by simp; omega))
          have HCe := Lib.hid (HC9.out.past hch (by simp; omega))
          have HAe := Lib.hid (HA9.out.chg HS.out hch (by simp; omega))
          have HPe := Lib.hid (HB9.out.off HD9.out (by decide) hch)
          have HBe := Lib.hid (HP9.out.off HD9.out (by decide) hch)
          have HUe := Lib.hid (HU9.out.off HD9.out (by decide) hch)
          have HIe : Hid (DkI 3 ⟨d.pairs ++ [x0], d.box, d.audit, d.used, d.now⟩) := Lib.hid ⟨by have := HI4.out.pairs; show 2 ≤ (d.pairs ++ [x0]).length ∧ (d.pairs ++ [x0]).length ≤ 3; simp; omega, HI3.out.box, HI3.out.audit, HI3.out.used, HI3.out.now, fun x hx => by
            rcases List.mem_append.1 hx with hx | hx
            · exact HI3.out.op x hx
            · rw [List.mem_singleton.1 hx]; exact HX0.out, HI3.out.ob, HI3.out.oa⟩
          clear hW hch d3 doo dof HD9 HR9 HC9 HA9 HP9 HB9 HU9
          have z0 : w8.cell? ⟨w.heap.size + 1 + 1, 0, none⟩ = some (.slice a9 (d.pairs.length + 1) c9) := HDe.out.cell 0
          have z1 : w8.cell? ⟨w.heap.size + 1 + 1, 1, none⟩ = some (.slice ba d.box.length bc) := HDe.out.cell 1
          have z2 : w8.cell? ⟨w.heap.size + 1 + 1, 2, none⟩ = some (.slice aa d.audit.length ac) := HDe.out.cell 2
          have z3 : w8.cell? ⟨w.heap.size + 1 + 1, 3, none⟩ = some (.int .i64 d.used) := HDe.out.cell 3
          have z4 : w8.cell? ⟨w.heap.size + 1 + 1, 4, none⟩ = some (.int .i64 d.now) := HDe.out.cell 4
          have zo := HDe.out.old
          have y0 : w8.cell? ⟨w.heap.size, 0, none⟩ = some (.slice none 0 0) := HRe.out.cell 0
          have y1 : w8.cell? ⟨w.heap.size, 1, none⟩ = some (.slice none 0 0) := HRe.out.cell 1
          have y2 : w8.cell? ⟨w.heap.size, 2, none⟩ = some (.slice none 0 0) := HRe.out.cell 2
          have y3 : w8.cell? ⟨w.heap.size, 3, none⟩ = some (.int .i64 0) := HRe.out.cell 3
          have y4 : w8.cell? ⟨w.heap.size, 4, none⟩ = some (.int .i64 0) := HRe.out.cell 4
          have yo := HRe.out.old
          have yf := HRe.out.fz
          go_wp2
          exact bodyPost_ret (v := .agg #[.slice a9 (d.pairs.length + 1) c9, .slice ba d.box.length bc, .slice aa d.audit.length ac, (.int .i64 d.used), (.int .i64 d.now)]) (by simp [results, Try.results40, go_sem, y0, y1, y2, y3, y4]) rfl ⟨⟨d.pairs ++ [x0], d.box, d.audit, d.used, d.now⟩, _, _, _, rfl, HCe.out.past (set5_chg _ _ _ _ _ _ _) (by simp), HAe.out.chg HS.out (set5_chg _ _ _ _ _ _ _) (by simp), HPe.out.off HRe.out (by decide) (set5_chg _ _ _ _ _ _ _), HBe.out.off HRe.out (by decide) (set5_chg _ _ _ _ _ _ _), HUe.out.off HRe.out (by decide) (set5_chg _ _ _ _ _ _ _), HIe.out⟩
end Go.Proofs.Ytocadhcggkbimaa
