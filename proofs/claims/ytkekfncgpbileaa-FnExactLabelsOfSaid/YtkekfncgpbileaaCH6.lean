/- The laws' mark over configurations. -/
import Derived.Test.YtkekfncgpbileaaCH3
import Derived.Test.YtkekfncgpbileaaE2
set_option maxRecDepth 100000
set_option linter.unusedVariables false
namespace Go.Proofs.Ytkekfncgpbileaa
open Go.RowKit Go.Fin1
def mkPrr (k : Nat) (_ : Prr) : Prr := ⟨⟨k, (k : Int) + 1⟩, ⟨(k : Int) + 1 + 1, (k : Int) + 1 + 1 + 1⟩, (k : Int) + 1 + 1 + 1 + 1⟩
abbrev mkPrrs : Nat → List Prr → List Prr := mkL mkPrr (fun _ => 5)
set_option maxHeartbeats 3200000 in
theorem markPairS_any (v : Value) (l : List Prr) (k0 : Nat) (fp : List Nat) (w : World) (h : oSl 142 5 (oFlat Prr.cells) w fp [v] l) (hn : fp.Nodup) (hb : k0 + wL (fun _ : Prr => 5) l ≤ 4611686018427387904) :
    Calls Try.prog 129 #[v, (.int .i64 (k0 : Int))] w fun e w' => e = .returned (.int .i64 ((k0 + wL (fun _ : Prr => 5) l : Nat) : Int)) ∧ Chg fp w w' ∧ oSl 142 5 (oFlat Prr.cells) w' fp [v] (mkPrrs k0 l) := by
  obtain ⟨a, cap, rfl, hcm, hlc⟩ := oSl_shape h
  have hlm : l.length ≤ 9223372036854775807 := by unfold maxLen at hcm; omega
  clear hcm hlc
  have HN := Lib.hid hn
  have HS := Lib.hid h
  clear h hn
  go_enter Try.func129, Try.ntmps129
  go_wp2
  go_loopw [1, 5] (fun q i wr => ∃ n : Nat, n ≤ l.length ∧ i = .int .i64 n ∧ q = (.int .i64 ((k0 + wL (fun _ : Prr => 5) (l.take n) : Nat) : Int)) ∧ Chg fp w wr ∧ Hid (oSl 142 5 (oFlat Prr.cells) wr fp [.slice a l.length cap] (mkN mkPrr (fun _ => 5) k0 l n))) (fun _ i _ => l.length - (intOf i).toNat)
  case atStart => exact ⟨0, Nat.zero_le _, rfl, rfl, Chg.refl _ _, Lib.hid (by rw [mkN_zero]; exact HS.out)⟩
  case round =>
    obtain ⟨n, hle, rfl, rfl, HC, HO⟩ := hrel
    by_cases hlt : n < l.length
    · have hlt' : n < (mkN mkPrr (fun _ => 5) k0 l n).length := by rw [mkN_len]; exact hlt
      obtain ⟨g, cap', hv⟩ := oSl_slice HO.out hlt'
      obtain ⟨rfl, hx1, rfl⟩ : a = some ⟨g, 0, none⟩ ∧ l.length = (mkN mkPrr (fun _ => 5) k0 l n).length ∧ cap = cap' := by simpa using hv
      clear hv hx1
      obtain ⟨hog, hfz, hc, hg, HU⟩ := oFl_at (f := Prr.cells) (fun _ => rfl) HO.out HN.out hlt'
      rw [mkN_at mkPrr _ k0 hlt] at hc
      have d0 := hc 0 _ rfl
      have d1 := hc 1 _ rfl
      have d2 := hc 2 _ rfl
      have d3 := hc 3 _ rfl
      have d4 := hc 4 _ rfl
      rw [Nat.add_zero] at d0
      have hU := HU (mkPrr (k0 + wL (fun _ : Prr => 5) (l.take n)) l[n])
      rw [mkN_set _ _ _ hlt] at hU
      have HU2 := Lib.hid hU
      clear hU
      have hw := wL_lt (fun _ : Prr => 5) hlt
      have hw2 := Lib.hid (wL_step (fun _ : Prr => 5) hlt)
      clear HU hc hlt'
      generalize wL (fun _ : Prr => 5) (l.take n) = s at hw hw2 HU2 ⊢
      go_wp2
      refine ⟨⟨n + 1, by omega, by go_num, (by rw [hw2.out]; go_num), (by repeat (first | exact HC | (with_reducible refine Chg.setCell ?_ (.inl hg) _))), Lib.hid (by have h := HU2.out; simp only [World.layCells, Prr.cells, mkPrr] at h; push_cast at h; simp only [Nat.add_assoc, Nat.reduceAdd] at h; exact h)⟩, by simp [intOf]; omega⟩
    · go_wp2
      obtain rfl : n = l.length := by omega
      have hO := HO.out
      rw [mkN_all] at hO
      go_ret
      exact ⟨ret_int (by rw [List.take_length]), HC, hO⟩

def mkQuo (k : Nat) (_ : Quo) : Quo := ⟨⟨k, (k : Int) + 1⟩, (k : Int) + 1 + 1⟩
abbrev mkQuos : Nat → List Quo → List Quo := mkL mkQuo (fun _ => 3)
set_option maxHeartbeats 3200000 in
theorem markQuotaS_any (v : Value) (l : List Quo) (k0 : Nat) (fp : List Nat) (w : World) (h : oSl 146 3 (oFlat Quo.cells) w fp [v] l) (hn : fp.Nodup) (hb : k0 + wL (fun _ : Quo => 3) l ≤ 4611686018427387904) :
    Calls Try.prog 130 #[v, (.int .i64 (k0 : Int))] w fun e w' => e = .returned (.int .i64 ((k0 + wL (fun _ : Quo => 3) l : Nat) : Int)) ∧ Chg fp w w' ∧ oSl 146 3 (oFlat Quo.cells) w' fp [v] (mkQuos k0 l) := by
  obtain ⟨a, cap, rfl, hcm, hlc⟩ := oSl_shape h
  have hlm : l.length ≤ 9223372036854775807 := by unfold maxLen at hcm; omega
  clear hcm hlc
  have HN := Lib.hid hn
  have HS := Lib.hid h
  clear h hn
  go_enter Try.func130, Try.ntmps130
  go_wp2
  go_loopw [1, 5] (fun q i wr => ∃ n : Nat, n ≤ l.length ∧ i = .int .i64 n ∧ q = (.int .i64 ((k0 + wL (fun _ : Quo => 3) (l.take n) : Nat) : Int)) ∧ Chg fp w wr ∧ Hid (oSl 146 3 (oFlat Quo.cells) wr fp [.slice a l.length cap] (mkN mkQuo (fun _ => 3) k0 l n))) (fun _ i _ => l.length - (intOf i).toNat)
  case atStart => exact ⟨0, Nat.zero_le _, rfl, rfl, Chg.refl _ _, Lib.hid (by rw [mkN_zero]; exact HS.out)⟩
  case round =>
    obtain ⟨n, hle, rfl, rfl, HC, HO⟩ := hrel
    by_cases hlt : n < l.length
    · have hlt' : n < (mkN mkQuo (fun _ => 3) k0 l n).length := by rw [mkN_len]; exact hlt
      obtain ⟨g, cap', hv⟩ := oSl_slice HO.out hlt'
      obtain ⟨rfl, hx1, rfl⟩ : a = some ⟨g, 0, none⟩ ∧ l.length = (mkN mkQuo (fun _ => 3) k0 l n).length ∧ cap = cap' := by simpa using hv
      clear hv hx1
      obtain ⟨hog, hfz, hc, hg, HU⟩ := oFl_at (f := Quo.cells) (fun _ => rfl) HO.out HN.out hlt'
      rw [mkN_at mkQuo _ k0 hlt] at hc
      have d0 := hc 0 _ rfl
      have d1 := hc 1 _ rfl
      have d2 := hc 2 _ rfl
      rw [Nat.add_zero] at d0
      have hU := HU (mkQuo (k0 + wL (fun _ : Quo => 3) (l.take n)) l[n])
      rw [mkN_set _ _ _ hlt] at hU
      have HU2 := Lib.hid hU
      clear hU
      have hw := wL_lt (fun _ : Quo => 3) hlt
      have hw2 := Lib.hid (wL_step (fun _ : Quo => 3) hlt)
      clear HU hc hlt'
      generalize wL (fun _ : Quo => 3) (l.take n) = s at hw hw2 HU2 ⊢
      go_wp2
      refine ⟨⟨n + 1, by omega, by go_num, (by rw [hw2.out]; go_num), (by repeat (first | exact HC | (with_reducible refine Chg.setCell ?_ (.inl hg) _))), Lib.hid (by have h := HU2.out; simp only [World.layCells, Quo.cells, mkQuo] at h; push_cast at h; simp only [Nat.add_assoc, Nat.reduceAdd] at h; exact h)⟩, by simp [intOf]; omega⟩
    · go_wp2
      obtain rfl : n = l.length := by omega
      have hO := HO.out
      rw [mkN_all] at hO
      go_ret
      exact ⟨ret_int (by rw [List.take_length]), HC, hO⟩

def wCfg (c : Cfg) : Nat := wL (wL (fun _ : Lab => 2)) c.nodes + wL (fun _ : Prr => 5) c.pairs + wL (fun _ : Quo => 3) c.quotas
theorem wCfg_le {c : Cfg} (h : c.fits 1048576) : wCfg c ≤ 64 * 1048576 := by
  have e1 := wL_spans h.1
  have e2 : c.pairs.length ≤ 1048576 := Nat.le_trans h.2.1 (Nat.sub_le _ _)
  have e3 : c.quotas.length ≤ 1048576 := Nat.le_trans h.2.2 (Nat.le_trans (Nat.sub_le _ _) (Nat.sub_le _ _))
  unfold wCfg
  rw [wL_const, wL_const]
  omega
theorem OwnC.low {B : Nat} {w : World} {f1 f2 f3 : List Nat} {n p q : Value} {c : Cfg} (h : OwnC B w f1 f2 f3 n p q c) : ∀ b ∈ f1 ++ (f2 ++ f3), B ≤ b := fun b hb => by
  rcases List.mem_append.1 hb with hb | hb
  · exact h.n.2.2 b hb
  rcases List.mem_append.1 hb with hb | hb
  · exact h.p.2.2 b hb
  · exact h.q.2.2 b hb
theorem OwnC.high {B : Nat} {w : World} {f1 f2 f3 : List Nat} {n p q : Value} {c : Cfg} (h : OwnC B w f1 f2 f3 n p q c) : ∀ b ∈ f1 ++ (f2 ++ f3), b < w.heap.size := fun b hb => by
  rcases List.mem_append.1 hb with hb | hb
  · exact oLabelSS_held _ _ _ _ h.n.1 b hb
  rcases List.mem_append.1 hb with hb | hb
  · exact oPairS_held _ _ _ _ h.p.1 b hb
  · exact oQuotaS_held _ _ _ _ h.q.1 b hb
set_option maxHeartbeats 800000 in
theorem markConfig_any (c : Cfg) (n p q : Value) (k0 B : Nat) (f1 f2 f3 : List Nat) (w : World) (h : OwnC B w f1 f2 f3 n p q c) (hb : k0 + wCfg c ≤ 4611686018427387904) :
    Calls Try.prog 59 #[c.val n p q, (.int .i64 (k0 : Int))] w fun e w' => e = .returned (.int .i64 ((k0 + wCfg c : Nat) : Int)) ∧ Chg (f1 ++ (f2 ++ f3)) w w' := by
  have HS := Lib.hid h
  have HB := Lib.hid hb
  unfold wCfg at HB
  obtain ⟨a1, c1, rfl⟩ := h.n.shape
  obtain ⟨a2, c2, rfl⟩ := h.p.shape
  obtain ⟨a3, c3, rfl⟩ := h.q.shape
  clear h hb
  unfold Cfg.val
  go_enter Try.func59, Try.ntmps59
  go_wp2_with fail
  refine (markLabelSS_any _ c.nodes k0 f1 _ (oLabelSS_local.ext oLabelSS_held (by repeat (first | exact Ext.refl _ | apply Ext.plus | apply Ext.alloc | apply Ext.drew)) HS.out.n.1) HS.out.n.2.1 (by have := HB.out; omega)).mono ?_
  rintro e w2 ⟨rfl, hx, ho⟩
  have HX := Lib.hid hx
  have HP := Lib.hid (oPairS_local.chg oPairS_held hx (fun b hb hb2 => HS.out.np b hb2 hb) (oPairS_local.ext oPairS_held (by repeat (first | exact Ext.refl _ | apply Ext.plus | apply Ext.alloc | apply Ext.drew)) HS.out.p.1))
  have HQ := Lib.hid (oQuotaS_local.chg oQuotaS_held hx (fun b hb hb2 => HS.out.nq b hb2 hb) (oQuotaS_local.ext oQuotaS_held (by repeat (first | exact Ext.refl _ | apply Ext.plus | apply Ext.alloc | apply Ext.drew)) HS.out.q.1))
  have hbx : w.heap.size ∉ f1 := fun hb => by have := oLabelSS_held _ _ _ _ HS.out.n.1 _ hb; omega
  have g1 := cell_chg (i := 1) (u := .slice a2 c.pairs.length c2) hx (by simp [go_sem]) hbx
  have g2 := cell_chg (i := 2) (u := .slice a3 c.quotas.length c3) hx (by simp [go_sem]) hbx
  have ho1 := World.old_of_cell g1
  clear hx ho hbx
  go_wp2_with fail
  refine (markPairS_any _ c.pairs (k0 + wL (wL (fun _ : Lab => 2)) c.nodes) f2 _ HP.out HS.out.p.2.1 (by have := HB.out; omega)).mono ?_
  rintro e w3 ⟨rfl, hx, ho⟩
  have HX2 := Lib.hid hx
  have HQ2 := Lib.hid (oQuotaS_local.chg oQuotaS_held hx (fun b hb hb2 => HS.out.pq b hb2 hb) HQ.out)
  have hbx : w.heap.size ∉ f2 := fun hb => by have := oPairS_held _ _ _ _ HS.out.p.1 _ hb; omega
  have g3 := cell_chg (i := 2) (u := .slice a3 c.quotas.length c3) hx g2 hbx
  have ho2 := World.old_of_cell g3
  clear hx ho hbx g1 g2 ho1
  go_wp2_with fail
  refine (markQuotaS_any _ c.quotas (k0 + wL (wL (fun _ : Lab => 2)) c.nodes + wL (fun _ : Prr => 5) c.pairs) f3 _ HQ2.out HS.out.q.2.1 (by have := HB.out; omega)).mono ?_
  rintro e w4 ⟨rfl, hx, ho⟩
  have HX3 := Lib.hid hx
  clear hx ho
  go_wp2
  go_ret
  exact ⟨ret_int (by unfold wCfg; omega), (((Ext.chg (by repeat (first | exact Ext.refl _ | apply Ext.plus | apply Ext.alloc | apply Ext.drew)) _).trans (HX.out.mono (fun b hb => List.mem_append_left _ hb))).trans (HX2.out.mono (fun b hb => List.mem_append_right _ (List.mem_append_left _ hb)))).trans (HX3.out.mono (fun b hb => List.mem_append_right _ (List.mem_append_right _ hb)))⟩
end Go.Proofs.Ytkekfncgpbileaa
