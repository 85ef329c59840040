/- slices.Compact at labels: the built-in clear over a block of ours; the mathematics of the compaction. -/
import Derived.Test.YtkekfncgpbileaaCG1
import Derived.Test.YtkekfncgpbileaaT0
import Derived.Test.YtkekfncgpbileaaE5
import Derived.Lib.SliceRun
set_option maxRecDepth 100000
set_option linter.unusedVariables false
namespace Go
open Go.RowKit
/-- clear over the end of a block of ours: what lies ahead stays. -/
theorem clear_run {P : Program} {t e : TypeId} {size bytes : Nat} {W : World} (E : ElemInfo P t e size bytes) (t0 : TypeId) (g o n cap : Nat) (cur : Array Value) (ty : TypeId) (h0 : 0 < n)
    (hg : W.heap[g]? = some (.cells cur ty (0, 0))) (hfit : o + n * size ≤ cur.size) (hz1 : ∀ i z, P.info? e = some i → i.zero = some z → ∀ v ∈ (Builtin.zeroCells z.cells n).toList, v.oneCell' = true) :
    ∃ w' cur', (Builtin.clear_ #[t] t0 #[.slice (some ⟨g, o, none⟩) n cap]).run P W = .ok (.tuple #[]) w' ∧ Chg [g] W w' ∧ w'.heap[g]? = some (.cells cur' ty (0, 0)) ∧ cur'.size = cur.size ∧ cur'.toList.take o = cur.toList.take o := by
  obtain ⟨i, z, hi, hz, hsize, hby, hzs⟩ := E.info
  subst hsize
  have hlen : (Builtin.zeroCells z.cells n).toList.length = n * i.size := by rw [Array.length_toList, size_zeroCells, hzs]
  have hst := run_storeCells_at P g o ty (Builtin.zeroCells z.cells n).toList 0 cur W hg (by rw [hlen]; simpa using hfit) (hz1 i z hi hz)
  obtain ⟨m, rfl⟩ : ∃ m, n = m + 1 := ⟨n - 1, by omega⟩
  have hrun : (Builtin.clear_ #[t] t0 #[.slice (some ⟨g, o, none⟩) (m + 1) cap]).run P W = .ok (.tuple #[]) (W.setRow g (patch cur.toList o (Builtin.zeroCells z.cells (m + 1)).toList).toArray) := by
    simp [Builtin.clear_, run_underlying E.und, zeroValue, typeInfo, hi, hz, hst, patch]
  refine ⟨_, _, hrun, setRow_chg W g _, setRow_heap W g cur _ ty _ hg, ?_, ?_⟩
  · have := patch_len (l := cur.toList) (o := o) (cs := (Builtin.zeroCells z.cells (m + 1)).toList) (by rw [hlen]; simpa using hfit)
    simpa using this
  · unfold patch
    simp only [List.append_assoc]
    rw [List.take_append_of_le_length (by simp; omega), List.take_take]
    congr 1; omega
theorem Own.tailF {α : Type} {B : Nat} {w w' : World} {ty K n cap : Nat} {f : α → List Value} {fp : List Nat} {g : Nat} {xs : List α} {cur cur' : Array Value} (h : Own B w (oSl ty K (oFlat f)) fp [.slice (some ⟨g, 0, none⟩) n cap] xs) (hg : w.heap[g]? = some (.cells cur ty (0, 0))) (hg' : w'.heap[g]? = some (.cells cur' ty (0, 0))) (hs : cur'.size = cur.size)
    (ht : cur'.toList.take (xs.length * K) = cur.toList.take (xs.length * K)) : Own B w' (oSl ty K (oFlat f)) fp [.slice (some ⟨g, 0, none⟩) n cap] xs := by
  obtain ⟨⟨v', hv, h⟩, hnd, hge⟩ := h
  rcases h with ⟨rfl, _, _⟩ | ⟨g2, cap', cur2, fps, rfl, hg2, hsz, hl, hm, hf, rfl, h⟩
  · simp at hv
  · obtain ⟨rfl, rfl, rfl⟩ : g = g2 ∧ n = xs.length ∧ cap = cap' := by simpa using hv
    rw [hg] at hg2
    obtain rfl : cur = cur2 := by simpa using hg2
    refine ⟨⟨_, rfl, .inr ⟨g, cap, cur', fps, rfl, hg', by rw [hs]; exact hsz, hl, hm, hf, rfl, fun i hi fi hfi => ?_⟩⟩, hnd, hge⟩
    obtain ⟨h1, h2⟩ := h i hi fi hfi
    exact ⟨h1, by rw [← drop_take_in hi, ht, drop_take_in hi]; exact h2⟩
theorem Own.curF {α : Type} {B : Nat} {w : World} {ty K n cap : Nat} {f : α → List Value} {fp : List Nat} {g : Nat} {xs : List α} (h : Own B w (oSl ty K (oFlat f)) fp [.slice (some ⟨g, 0, none⟩) n cap] xs) : ∃ cur, w.heap[g]? = some (.cells cur ty (0, 0)) ∧ cur.size = cap * K ∧ B ≤ g := by
  obtain ⟨⟨v', hv, h⟩, hnd, hge⟩ := h
  rcases h with ⟨rfl, _, _⟩ | ⟨g2, cap', cur2, fps, rfl, hg2, hsz, hl, hm, hf, rfl, h⟩
  · simp at hv
  · obtain ⟨rfl, rfl, rfl⟩ : g = g2 ∧ n = xs.length ∧ cap = cap' := by simpa using hv
    exact ⟨cur2, hg2, hsz, hge g (by simp)⟩
theorem Own.takeF {α : Type} {B : Nat} {w : World} {ty K n cap k : Nat} {f : α → List Value} {fp : List Nat} {g : Nat} {xs : List α} (h : Own B w (oSl ty K (oFlat f)) fp [.slice (some ⟨g, 0, none⟩) n cap] xs) (hk : k ≤ xs.length) : ∃ fp', Own B w (oSl ty K (oFlat f)) fp' [.slice (some ⟨g, 0, none⟩) k cap] (xs.take k) := by
  obtain ⟨⟨v', hv, h⟩, hnd, hge⟩ := h
  rcases h with ⟨rfl, _, _⟩ | ⟨g', cap', cur, fps, rfl, hg, hsz, hl, hm, hf, rfl, h⟩
  · simp at hv
  · obtain ⟨rfl, rfl, rfl⟩ : g = g' ∧ n = xs.length ∧ cap = cap' := by simpa using hv
    have hsub : ((g :: (fps.take k).flatten)).Sublist (g :: fps.flatten) := by
      refine List.Sublist.cons_cons _ ?_
      conv => rhs; rw [← List.take_append_drop k fps, List.flatten_append]
      exact List.sublist_append_left _ _
    refine ⟨g :: (fps.take k).flatten, ⟨_, rfl, .inr ⟨g, cap, cur, fps.take k, by simp; omega, hg, hsz, by simp; omega, hm, by simp; omega, rfl, fun i hi fi hfi => ?_⟩⟩, hnd.sublist hsub, fun b hb => hge b (hsub.subset hb)⟩
    simp only [List.length_take] at hi
    rw [List.getElem_take]
    refine h i (by omega) fi ?_
    rw [List.getElem?_take, if_pos (by omega)] at hfi
    exact hfi
end Go
namespace Go.Proofs.Ytkekfncgpbileaa
open Go.RowKit Go.Fin1
theorem compN_pre {l : List Lab} : ∀ {k : Nat}, k ≤ l.length → (∀ (i : Nat) (h0 : 0 < i) (hi : i < l.length), i < k → sameL l[i] l[i - 1] = false) → compN l k = l.take k
  | 0, _, _ => rfl
  | k + 1, hk, h => by
    have ih := compN_pre (k := k) (by omega) fun i h0 hi hik => h i h0 hi (by omega)
    have hc : (decide (k = 0) || !sameL (l.getD k ⟨0, 0⟩) (l.getD (k - 1) ⟨0, 0⟩)) = true := by
      by_cases h0 : k = 0
      · simp [h0]
      · have := h k (by omega) (by omega) (by omega)
        simp [List.getD, show k < l.length by omega, show k - 1 < l.length by omega, this]
    unfold compN
    rw [if_pos hc, ih, List.take_succ_eq_append_getElem (by omega)]
    simp [List.getD, show k < l.length by omega]
theorem compN_skip {l : List Lab} {n : Nat} (h0 : 0 < n) (hn : n < l.length) (h : sameL l[n] (l[n - 1]'(by omega)) = true) : compN l (n + 1) = compN l n := by
  have hc : ¬ (decide (n = 0) || !sameL (l.getD n ⟨0, 0⟩) (l.getD (n - 1) ⟨0, 0⟩)) = true := by
    simp [List.getD, hn, show n - 1 < l.length by omega, h]; omega
  conv => lhs; unfold compN
  rw [if_neg hc]
theorem compN_keep {l : List Lab} {n : Nat} (h0 : 0 < n) (hn : n < l.length) (h : sameL l[n] (l[n - 1]'(by omega)) = false) : compN l (n + 1) = compN l n ++ [l[n]] := by
  have hc : (decide (n = 0) || !sameL (l.getD n ⟨0, 0⟩) (l.getD (n - 1) ⟨0, 0⟩)) = true := by
    simp [List.getD, hn, show n - 1 < l.length by omega, h]
  conv => lhs; unfold compN
  rw [if_pos hc]
  simp [List.getD, hn]
/-- The compaction under way: n elements looked at, k kept. -/
structure CompS (l : List Lab) (n k : Nat) (L : List Lab) : Prop where
  len : L.length = l.length
  take : L.take k = compN l n
  lt : k < n
  le : n ≤ l.length
  pos : 0 < k
  tail : ∀ j, n ≤ j + 1 → L[j]? = l[j]?
theorem CompS.start {l : List Lab} {k : Nat} (h0 : 0 < k) (hk : k < l.length) (hp : ∀ (i : Nat) (h0 : 0 < i) (hi : i < l.length), i < k → sameL l[i] l[i - 1] = false) (h : sameL l[k] (l[k - 1]'(by omega)) = true) : CompS l (k + 1) k l :=
  ⟨rfl, by rw [compN_skip h0 hk h, compN_pre (by omega) hp], Nat.lt_succ_self _, hk, h0, fun _ _ => rfl⟩
theorem CompS.at {l L : List Lab} {n k : Nat} (h : CompS l n k L) {j : Nat} (hj : n ≤ j + 1) (hl : j < l.length) : L[j]'(by rw [h.len]; exact hl) = l[j] := by
  have := h.tail j hj
  rw [List.getElem?_eq_getElem (by rw [h.len]; exact hl), List.getElem?_eq_getElem hl] at this
  exact Option.some.inj this
theorem CompS.skip {l L : List Lab} {n k : Nat} (h : CompS l n k L) (hn : n < l.length) (he : sameL l[n] (l[n - 1]'(by omega)) = true) : CompS l (n + 1) k L :=
  ⟨h.len, by rw [compN_skip (by have := h.lt; omega) hn he, h.take], by have := h.lt; omega, hn, h.pos, fun j hj => h.tail j (by omega)⟩
theorem CompS.keep {l L : List Lab} {n k : Nat} (h : CompS l n k L) (hn : n < l.length) (he : sameL l[n] (l[n - 1]'(by omega)) = false) : CompS l (n + 1) (k + 1) (L.set k l[n]) := by
  have hk : k < L.length := by have := h.lt; have := h.len; omega
  refine ⟨by rw [List.length_set]; exact h.len, ?_, by have := h.lt; omega, hn, by omega, fun j hj => ?_⟩
  · rw [compN_keep (by have := h.lt; omega) hn he, ← h.take, List.take_succ_eq_append_getElem (by simpa using hk), List.getElem_set_self, List.take_set_of_le (Nat.le_refl _)]
  · rw [List.getElem?_set_ne (by have := h.lt; omega)]
    exact h.tail j (by omega)

theorem info_LabelC : (Try.prog.info? 35).map (fun i => (i.zero, i.size, i.bytes)) = some (some (.agg #[(.int .i64 0), (.int .i64 0)]), 2, 16) := by kernel_rfl
theorem el_LabelC : ElemInfo Try.prog 90 35 2 16 := by
  obtain ⟨i, hi, hz, hs, hb⟩ := info_parts info_LabelC
  exact ⟨Try.underlying90, ⟨i, _, hi, hz, hs, hb, rfl⟩, by decide⟩
theorem oLab_at {w : World} {fp : List Nat} {g n cap : Nat} {xs : List Lab} (h : oLabelS w fp [.slice (some ⟨g, 0, none⟩) n cap] xs) (hn : fp.Nodup) {i : Nat} (hi : i < xs.length) :
    w.old g ∧ (∀ j, w.frozen? ⟨g, j, none⟩ = false) ∧ w.cell? ⟨g, i * 2, none⟩ = some (.int .i64 xs[i].lv) ∧ w.cell? ⟨g, i * 2 + 1, none⟩ = some (.int .i64 xs[i].st) ∧ g ∈ fp ∧ ∀ x', oLabelS (w.layCells g (i * 2) (Lab.cells x')) fp [.slice (some ⟨g, 0, none⟩) n cap] (xs.set i x') := by
  obtain ⟨h1, h2, h3, h4, h5⟩ := oFl_at (f := Lab.cells) (fun _ => rfl) h hn hi
  exact ⟨h1, h2, h3 0 _ rfl, h3 1 _ rfl, h4, h5⟩
theorem zero_lab (i : TypeInfo) (z : Value) (hi : Try.prog.info? 35 = some i) (hz : i.zero = some z) (n : Nat) : ∀ v ∈ (Builtin.zeroCells z.cells n).toList, v.oneCell' = true := by
  have h := info_LabelC
  rw [hi] at h
  simp at h
  rw [hz] at h
  have hz2 : z = .agg #[(.int .i64 0), (.int .i64 0)] := by simpa using h.1
  subst hz2
  intro v hv
  simp only [Builtin.zeroCells, Value.cells, Array.toList_map, List.mem_map] at hv
  obtain ⟨j, _, rfl⟩ := hv
  have hj : j % 2 = 0 ∨ j % 2 = 1 := by omega
  rcases hj with e | e <;> (simp [e]; rfl)
set_option maxHeartbeats 3200000 in
theorem compactLab_any (B g cap n : Nat) (fp : List Nat) (l : List Lab) (w : World) (h : Own B w oLabelS fp [.slice (some ⟨g, 0, none⟩) n cap] l) (h0 : 0 < l.length) :
    Calls Try.prog 157 #[.slice (some ⟨g, 0, none⟩) n cap] w fun e w' => ∃ k fp', e = .returned (.slice (some ⟨g, 0, none⟩) k cap) ∧ Chg [g] w w' ∧ Own B w' oLabelS fp' [.slice (some ⟨g, 0, none⟩) k cap] (compN l l.length) := by
  obtain ⟨a', cap', hv, hcm, hlc⟩ := oSl_shape h.1
  obtain ⟨rfl, rfl, rfl⟩ : a' = some ⟨g, 0, none⟩ ∧ n = l.length ∧ cap = cap' := by simpa [eq_comm] using hv
  have hlm : l.length ≤ 9223372036854775807 := by unfold maxLen at hcm; omega
  clear hv
  have HO := Lib.hid h
  have HCM := Lib.hid hcm
  have HLC := Lib.hid hlc
  clear h hcm hlc
  by_cases h2 : l.length < 2
  · have hb : decide ((l.length : Int) < 2) = true := decide_eq_true (by omega)
    go_enter Try.func157, Try.ntmps157
    go_wp2
    go_ret
    exact ⟨_, fp, rfl, Chg.refl _ _, by rw [compN_pre (Nat.le_refl _) (fun i h0 hi _ => by omega), List.take_length]; exact HO.out⟩
  · have hb : decide ((l.length : Int) < 2) = false := decide_eq_false (by omega)
    go_enter Try.func157, Try.ntmps157
    go_wp2
    clear hb
    go_loopw [3, 4, 5] (fun i _ _ wr => ∃ k : Nat, 1 ≤ k ∧ k ≤ l.length ∧ i = .int .i64 k ∧ Ext w wr ∧ Hid (∀ (i : Nat) (h0 : 0 < i) (hi : i < l.length), i < k → sameL l[i] l[i - 1] = false)) (fun i _ _ _ => l.length - (intOf i).toNat)
    case atStart => exact ⟨1, Nat.le_refl _, by omega, rfl, Ext.refl _, Lib.hid (fun i h0 hi hk => by omega)⟩
    case round =>
      obtain ⟨k, hk1, hk, rfl, ⟨X, rfl⟩, HH⟩ := hrel
      by_cases hlt : k < l.length
      · obtain ⟨ho, hfz, c0, c1, hgf, -⟩ := oLab_at HO.out.1 HO.out.2.1 hlt
        obtain ⟨-, -, d0, d1, -, -⟩ := oLab_at HO.out.1 HO.out.2.1 (show k - 1 < l.length by omega)
        have hin : IntKind.i64.wrap ((k : Int) - 1) = (k : Int) - 1 := IntWalk.i64_in _ (by omega)
        clear hgf
        go_upto_region 6 with fail
        cases q : sameL ⟨l[k].lv, l[k].st⟩ ⟨l[k - 1].lv, l[k - 1].st⟩
        · (refine wp_region_x 10 (by kernel_rfl) (by kernel_rfl) (by kernel_rfl) ?_; (iterate 10 (apply XReg.step; (case h => (intro w' hw'; obtain ⟨X', rfl⟩ := hw'; go_wp2_with (fail); exact ⟨rfl, (by repeat (first | exact Ext.refl _ | apply Ext.plus | apply Ext.alloc | apply Ext.drew))⟩)); (case hv => kernel_rfl))); refine XReg.doneN (fun X => ?_))
          clear hfz c0 c1 d0 d1
          go_wp2
          exact ⟨⟨k + 1, by omega, by omega, by go_num, (by repeat (first | exact Ext.refl _ | apply Ext.plus | apply Ext.alloc | apply Ext.drew)), Lib.hid (fun i h0 hi hik => by
            by_cases e : i < k
            · exact HH.out i h0 hi e
            · obtain rfl : i = k := by omega
              exact q)⟩, by simp [intOf]; omega⟩
        · (refine wp_region_x 10 (by kernel_rfl) (by kernel_rfl) (by kernel_rfl) ?_; (iterate 10 (apply XReg.step; (case h => (intro w' hw'; obtain ⟨X', rfl⟩ := hw'; go_wp2_with (fail); exact ⟨rfl, (by repeat (first | exact Ext.refl _ | apply Ext.plus | apply Ext.alloc | apply Ext.drew))⟩)); (case hv => kernel_rfl))); refine XReg.doneN (fun X => ?_))
          clear hfz c0 c1 d0 d1
          have HC := Lib.hid (CompS.start (l := l) hk1 hlt HH.out q)
          clear q HH
          clear ho hin
          go_upto_region 7 with fail
          refine gen_world (fun W hW => ?_)
          have HCW : Hid (Chg [g] w W) := Lib.hid (by rw [hW]; exact Ext.chg (by repeat (first | exact Ext.refl _ | apply Ext.plus | apply Ext.alloc | apply Ext.drew)) _)
          have HOW : Hid (Own B W oLabelS fp [.slice (some ⟨g, 0, none⟩) l.length cap] l) := Lib.hid (by rw [hW]; exact HO.out.ext (oSl_local (oFlat_local _)) (oSl_held (oFlat_held _)) (by repeat (first | exact Ext.refl _ | apply Ext.plus | apply Ext.alloc | apply Ext.drew)))
          clear hW
          have hkc : k ≤ cap := Nat.le_trans (Nat.le_of_lt hlt) HLC.out
          have hck : ¬ cap = k := by have := HLC.out; omega
          go_wp2
          obtain ⟨qn, hqn⟩ : ∃ q, q = l.length - k := ⟨_, rfl⟩
          rw [← hqn]
          have HQN := Lib.hid hqn
          clear hqn
          go_loopw [3, 5] (fun i j wr => ∃ (m kk : Nat) (L : List Lab), 1 ≤ m ∧ k + m ≤ l.length ∧ j = .int .i64 m ∧ i = .int .i64 kk ∧ Hid (Chg [g] w wr) ∧ Hid (Own B wr oLabelS fp [.slice (some ⟨g, 0, none⟩) l.length cap] L) ∧ Hid (CompS l (k + m) kk L)) (fun _ j _ => qn - (intOf j).toNat)
          case atStart => exact ⟨1, k, l, Nat.le_refl _, by omega, rfl, rfl, HCW, HOW, HC⟩
          case round =>
            clear HCW HOW HC
            obtain ⟨m, kk, L, hm1, hml, rfl, rfl, HCW, HOW, HC⟩ := hrel
            have HLL := Lib.hid HC.out.len
            have HKK := Lib.hid (And.intro HC.out.pos HC.out.lt)
            by_cases hlt2 : k + m < l.length
            · obtain ⟨ho, hfz, c0, c1, -, -⟩ := oLab_at HOW.out.1 HOW.out.2.1 (show k + m < L.length by rw [HLL.out]; exact hlt2)
              obtain ⟨-, -, d0, d1, -, -⟩ := oLab_at HOW.out.1 HOW.out.2.1 (show k + m - 1 < L.length by rw [HLL.out]; omega)
              obtain ⟨-, -, e0, e1, -, hset⟩ := oLab_at HOW.out.1 HOW.out.2.1 (show kk < L.length by have := HKK.out; have := HLL.out; omega)
              rw [HC.out.at (by omega) hlt2, Nat.add_mul] at c0 c1
              rw [HC.out.at (by omega) (show k + m - 1 < l.length by omega), show (k + m - 1) * 2 = k * 2 + (m - 1) * 2 by omega] at d0 d1
              have hin : IntKind.i64.wrap ((m : Int) - 1) = (m : Int) - 1 := IntWalk.i64_in _ (by omega)
              have hkl : kk < l.length := by have := HKK.out; omega
              have hmq : m < qn := by have := HQN.out; omega
              have hbt : decide (m < qn) = true := decide_eq_true hmq
              have HST := Lib.hid (hset l[k + m])
              clear hset
              go_upto_region 11 with fail
              cases q : sameL ⟨l[k + m].lv, l[k + m].st⟩ ⟨l[k + m - 1].lv, l[k + m - 1].st⟩
              · (refine wp_region_x 10 (by kernel_rfl) (by kernel_rfl) (by kernel_rfl) ?_; (iterate 10 (apply XReg.step; (case h => (intro w' hw'; obtain ⟨X', rfl⟩ := hw'; go_wp2_with (fail); exact ⟨rfl, (by repeat (first | exact Ext.refl _ | apply Ext.plus | apply Ext.alloc | apply Ext.drew))⟩)); (case hv => kernel_rfl))); refine XReg.doneN (fun X => ?_))
                have HC9 := Lib.hid (HC.out.keep hlt2 q)
                go_wp2
                refine ⟨⟨m + 1, kk + 1, L.set kk l[k + m], by omega, by omega, by go_num, by go_num, Lib.hid ?_, Lib.hid ?_, HC9⟩, by simp [intOf]; omega⟩
                · exact ((HCW.out.setCell (.inl (by simp)) _).setCell (.inl (by simp)) _).plus _
                · exact (show Own B (wr.layCells g (kk * 2) (Lab.cells l[k + m])) oLabelS fp _ _ from ⟨HST.out, HOW.out.2⟩).ext (oSl_local (oFlat_local _)) (oSl_held (oFlat_held _)) ((Ext.refl _).plus _)
              · (refine wp_region_x 10 (by kernel_rfl) (by kernel_rfl) (by kernel_rfl) ?_; (iterate 10 (apply XReg.step; (case h => (intro w' hw'; obtain ⟨X', rfl⟩ := hw'; go_wp2_with (fail); exact ⟨rfl, (by repeat (first | exact Ext.refl _ | apply Ext.plus | apply Ext.alloc | apply Ext.drew))⟩)); (case hv => kernel_rfl))); refine XReg.doneN (fun X => ?_))
                have HC9 := Lib.hid (HC.out.skip hlt2 q)
                go_wp2
                exact ⟨⟨m + 1, kk, L, by omega, by omega, by go_num, rfl, Lib.hid (HCW.out.plus _), Lib.hid (HOW.out.ext (oSl_local (oFlat_local _)) (oSl_held (oFlat_held _)) ((Ext.refl _).plus _)), HC9⟩, by simp [intOf]; omega⟩
            · have hkm : k + m = l.length := by omega
              have hmq : ¬ m < qn := by have := HQN.out; omega
              have hb9 : decide (m < qn) = false := decide_eq_false hmq
              obtain ⟨cur, hg, hsz, hBg⟩ := HOW.out.curF
              have HG := Lib.hid hg
              have HSZ := Lib.hid hsz
              have hkl : kk < l.length := by have := HKK.out; omega
              have hkc2 : kk ≤ cap := Nat.le_trans (Nat.le_of_lt hkl) HLC.out
              clear hg hsz
              have hck2 : ¬ cap = kk := by have := HLC.out; omega
              obtain ⟨w2, cur', hrun, hc, hg', hs', ht'⟩ := clear_run el_LabelC 0 g (kk * 2) (l.length - kk) (cap - kk) cur 35 (by omega) HG.out (by have := HSZ.out; have := HLC.out; omega) (fun i z hi hz => zero_lab i z hi hz _)
              have HC1 := Lib.hid hc
              have HG1 := Lib.hid hg'
              have HS1 := Lib.hid hs'
              have HT1 := Lib.hid ht'
              clear hc hg' hs' ht'
              go_wp2
              go_ret
              obtain ⟨fp', hO'⟩ := Own.takeF HOW.out (show kk ≤ L.length by have := HLL.out; omega)
              have hlen : (L.take kk).length = kk := by rw [List.length_take]; have := HLL.out; omega
              have hO2 := hO'.tailF HG.out HG1.out HS1.out (by rw [hlen]; exact HT1.out)
              refine ⟨kk, fp', rfl, HCW.out.trans HC1.out, ?_⟩
              rw [← hkm, ← HC.out.take]
              exact hO2
      · have HE := Lib.hid (compN_pre (l := l) (k := l.length) (Nat.le_refl _) (fun i h0 hi hik => HH.out i h0 hi (by omega)))
        go_wp2
        go_ret
        exact ⟨_, fp, rfl, Ext.chg (by repeat (first | exact Ext.refl _ | apply Ext.plus | apply Ext.alloc | apply Ext.drew)) _, by rw [HE.out, List.take_length]; exact HO.out.ext (oSl_local (oFlat_local _)) (oSl_held (oFlat_held _)) (by repeat (first | exact Ext.refl _ | apply Ext.plus | apply Ext.alloc | apply Ext.drew))⟩
end Go.Proofs.Ytkekfncgpbileaa
