/- The laws' mark and held over flat lists. -/
import Derived.Test.YtagdkpcdagknlaaGreatKBA
import Derived.Test.YtagdkpcdagknlaaGreatKJA1
import Derived.Test.YtagdkpcdagknlaaGreatKQJ
import Derived.Test.YtagdkpcdagknlaaGreatKBG
import Derived.Lib.SliceRun
set_option maxRecDepth 100000
set_option linter.unusedVariables false
namespace Go.Proofs.YtagdkpcdagknlaaGreat
open Go.RowKit Go.Fin1

def mkLab (k : Nat) (_ : Lab) : Lab := ⟨k, ((k + 1 : Nat) : Int)⟩
abbrev mkLabs : Nat → List Lab → List Lab := mkL mkLab (fun _ => 2)
set_option maxHeartbeats 3200000 in
theorem markLabelS_any (v : Value) (l : List Lab) (k0 : Nat) (fp : List Nat) (w : World) (h : oSl 32 2 (oFlat Lab.cells) w fp [v] l) (hn : fp.Nodup) (hb : k0 + wL (fun _ : Lab => 2) l ≤ 4611686018427387904) :
    Calls Tryz.prog 127 #[v, (.int .i64 (k0 : Int))] w fun e w' => e = .returned (.int .i64 ((k0 + wL (fun _ : Lab => 2) l : Nat) : Int)) ∧ Chg fp w w' ∧ oSl 32 2 (oFlat Lab.cells) w' fp [v] (mkLabs k0 l) := by
  obtain ⟨a, cap, rfl, hcm, hlc⟩ := oSl_shape h
  have hlm : l.length ≤ 9223372036854775807 := by unfold maxLen at hcm; omega
  clear hcm hlc
  have HN := Lib.hid hn
  have HS := Lib.hid h
  clear h hn
  go_enter Tryz.func127, Tryz.ntmps127
  go_wp2
  go_loopw [1, 5] (fun q i wr => ∃ n : Nat, n ≤ l.length ∧ i = .int .i64 n ∧ q = (.int .i64 ((k0 + wL (fun _ : Lab => 2) (l.take n) : Nat) : Int)) ∧ Chg fp w wr ∧ Hid (oSl 32 2 (oFlat Lab.cells) wr fp [.slice a l.length cap] (mkN mkLab (fun _ => 2) k0 l n))) (fun _ i _ => l.length - (intOf i).toNat)
  case atStart => exact ⟨0, Nat.zero_le _, rfl, rfl, Chg.refl _ _, Lib.hid (by rw [mkN_zero]; exact HS.out)⟩
  case round =>
    obtain ⟨n, hle, rfl, rfl, HC, HO⟩ := hrel
    by_cases hlt : n < l.length
    · have hlt' : n < (mkN mkLab (fun _ => 2) k0 l n).length := by rw [mkN_len]; exact hlt
      obtain ⟨g, cap', hv⟩ := oSl_slice HO.out hlt'
      obtain ⟨rfl, hx1, rfl⟩ : a = some ⟨g, 0, none⟩ ∧ l.length = (mkN mkLab (fun _ => 2) k0 l n).length ∧ cap = cap' := by simpa using hv
      clear hv hx1
      obtain ⟨hog, hfz, hc, hg, HU⟩ := oFl_at (f := Lab.cells) (fun _ => rfl) HO.out HN.out hlt'
      rw [mkN_at mkLab _ k0 hlt] at hc
      have d0 := hc 0 _ rfl
      have d1 := hc 1 _ rfl
      rw [Nat.add_zero] at d0
      have hU := HU (mkLab (k0 + wL (fun _ : Lab => 2) (l.take n)) l[n])
      rw [mkN_set _ _ _ hlt] at hU
      have HU2 := Lib.hid hU
      clear hU
      have hw := wL_lt (fun _ : Lab => 2) hlt
      have hw2 := Lib.hid (wL_step (fun _ : Lab => 2) hlt)
      clear HU hc hlt'
      generalize wL (fun _ : Lab => 2) (l.take n) = s at hw hw2 HU2 ⊢
      go_wp2
      refine ⟨⟨n + 1, by omega, by go_num, (by rw [hw2.out]; go_num), (by repeat (first | exact HC | (with_reducible refine Chg.setCell ?_ (.inl hg) _))), Lib.hid (by have h := HU2.out; simp only [World.layCells, Lab.cells, mkLab] at h; push_cast at h; skip; exact h)⟩, by simp [intOf]; omega⟩
    · go_wp2
      obtain rfl : n = l.length := by omega
      have hO := HO.out
      rw [mkN_all] at hO
      go_ret
      exact ⟨ret_int (by rw [List.take_length]), HC, hO⟩

set_option maxHeartbeats 3200000 in
theorem heldLabelS_any (v : Value) (l : List Lab) (k0 : Nat) (w : World) (h : SlR w 2 (rc Lab.cells) v (mkLabs k0 l)) (hb : k0 + wL (fun _ : Lab => 2) l ≤ 4611686018427387904) :
    Calls Tryz.prog 193 #[v, (.int .i64 (k0 : Int))] w fun e w' => e = .returned (.int .i64 ((k0 + wL (fun _ : Lab => 2) l : Nat) : Int)) ∧ Ext w w' := by
  obtain ⟨a, cap, rfl⟩ := h.len
  obtain ⟨_, hlc, hcm⟩ := slr_len h
  rw [mkL_len] at hlc ⊢
  have hlm : l.length ≤ 9223372036854775807 := by unfold maxLen at hcm; omega
  clear hcm hlc
  have HS := Lib.hid h
  clear h
  go_enter Tryz.func193, Tryz.ntmps193
  go_wp2
  go_loopw [1, 5] (fun q i wr => ∃ n : Nat, n ≤ l.length ∧ i = .int .i64 n ∧ q = (.int .i64 ((k0 + wL (fun _ : Lab => 2) (l.take n) : Nat) : Int)) ∧ Ext w wr) (fun _ i _ => l.length - (intOf i).toNat)
  case atStart => exact ⟨0, Nat.zero_le _, rfl, rfl, Ext.refl _⟩
  case round =>
    obtain ⟨n, hle, rfl, rfl, ⟨X, rfl⟩⟩ := hrel
    by_cases hlt : n < l.length
    · have hlt' : n < (mkLabs k0 l).length := by rw [mkL_len]; exact hlt
      have hS := HS.out
      rw [mkL_len] at hS
      obtain ⟨b, off, rfl⟩ := slr_some hS hlt'
      obtain ⟨cs, _, hc, he⟩ := slr_cells hS hlt'
      have he' : cs = Lab.cells (mkLab (k0 + wL (fun _ : Lab => 2) (l.take n)) l[n]) := by rw [← mkL_get mkLab _ l k0 n hlt]; exact he
      subst he'
      have d0 := hc 0 _ rfl
      have d1 := hc 1 _ rfl
      have ho := World.old_of_cell d0
      simp only [mkLab] at d0 d1
      rw [Nat.add_zero] at d0
      have hw := wL_lt (fun _ : Lab => 2) hlt
      have hw2 := Lib.hid (wL_step (fun _ : Lab => 2) hlt)
      clear he hS hc hlt'
      generalize wL (fun _ : Lab => 2) (l.take n) = s at *
      go_wp2
      exact ⟨⟨n + 1, by omega, by go_num, (by rw [hw2.out]; go_num), xt⟩, by simp [intOf]; omega⟩
    · go_wp2
      obtain rfl : n = l.length := by omega
      go_ret
      exact ⟨ret_int (by rw [List.take_length]), xt⟩

def mkInt (k : Nat) (_ : Int) : Int := (k : Int)
abbrev mkInts : Nat → List Int → List Int := mkL mkInt (fun _ => 1)
set_option maxHeartbeats 3200000 in
theorem markInt64S_any (v : Value) (l : List Int) (k0 : Nat) (fp : List Nat) (w : World) (h : oSl 2 1 (oFlat intCell) w fp [v] l) (hn : fp.Nodup) (hb : k0 + wL (fun _ : Int => 1) l ≤ 4611686018427387904) :
    Calls Tryz.prog 165 #[v, (.int .i64 (k0 : Int))] w fun e w' => e = .returned (.int .i64 ((k0 + wL (fun _ : Int => 1) l : Nat) : Int)) ∧ Chg fp w w' ∧ oSl 2 1 (oFlat intCell) w' fp [v] (mkInts k0 l) := by
  obtain ⟨a, cap, rfl, hcm, hlc⟩ := oSl_shape h
  have hlm : l.length ≤ 9223372036854775807 := by unfold maxLen at hcm; omega
  clear hcm hlc
  have HN := Lib.hid hn
  have HS := Lib.hid h
  clear h hn
  go_enter Tryz.func165, Tryz.ntmps165
  go_wp2
  go_loopw [1, 5] (fun q i wr => ∃ n : Nat, n ≤ l.length ∧ i = .int .i64 n ∧ q = (.int .i64 ((k0 + wL (fun _ : Int => 1) (l.take n) : Nat) : Int)) ∧ Chg fp w wr ∧ Hid (oSl 2 1 (oFlat intCell) wr fp [.slice a l.length cap] (mkN mkInt (fun _ => 1) k0 l n))) (fun _ i _ => l.length - (intOf i).toNat)
  case atStart => exact ⟨0, Nat.zero_le _, rfl, rfl, Chg.refl _ _, Lib.hid (by rw [mkN_zero]; exact HS.out)⟩
  case round =>
    obtain ⟨n, hle, rfl, rfl, HC, HO⟩ := hrel
    by_cases hlt : n < l.length
    · have hlt' : n < (mkN mkInt (fun _ => 1) k0 l n).length := by rw [mkN_len]; exact hlt
      obtain ⟨g, cap', hv⟩ := oSl_slice HO.out hlt'
      obtain ⟨rfl, hx1, rfl⟩ : a = some ⟨g, 0, none⟩ ∧ l.length = (mkN mkInt (fun _ => 1) k0 l n).length ∧ cap = cap' := by simpa using hv
      clear hv hx1
      obtain ⟨hog, hfz, hc, hg, HU⟩ := oFl_at (f := intCell) (fun _ => rfl) HO.out HN.out hlt'
      rw [mkN_at mkInt _ k0 hlt] at hc
      have d0 := hc 0 _ rfl
      rw [Nat.add_zero, Nat.mul_one] at d0
      have hU := HU (mkInt (k0 + wL (fun _ : Int => 1) (l.take n)) l[n])
      rw [mkN_set _ _ _ hlt] at hU
      have HU2 := Lib.hid hU
      clear hU
      have hw := wL_lt (fun _ : Int => 1) hlt
      have hw2 := Lib.hid (wL_step (fun _ : Int => 1) hlt)
      clear HU hc hlt'
      generalize wL (fun _ : Int => 1) (l.take n) = s at hw hw2 HU2 ⊢
      go_wp2
      refine ⟨⟨n + 1, by omega, by go_num, (by rw [hw2.out]; go_num), (by repeat (first | exact HC | (with_reducible refine Chg.setCell ?_ (.inl hg) _))), Lib.hid (by have h := HU2.out; simp only [World.layCells, intCell, mkInt] at h; push_cast at h; rw [Nat.mul_one] at h; exact h)⟩, by simp [intOf]; omega⟩
    · go_wp2
      obtain rfl : n = l.length := by omega
      have hO := HO.out
      rw [mkN_all] at hO
      go_ret
      exact ⟨ret_int (by rw [List.take_length]), HC, hO⟩

set_option maxHeartbeats 3200000 in
theorem heldInt64S_any (v : Value) (l : List Int) (k0 : Nat) (w : World) (h : SlR w 1 (rc intCell) v (mkInts k0 l)) (hb : k0 + wL (fun _ : Int => 1) l ≤ 4611686018427387904) :
    Calls Tryz.prog 194 #[v, (.int .i64 (k0 : Int))] w fun e w' => e = .returned (.int .i64 ((k0 + wL (fun _ : Int => 1) l : Nat) : Int)) ∧ Ext w w' := by
  obtain ⟨a, cap, rfl⟩ := h.len
  obtain ⟨_, hlc, hcm⟩ := slr_len h
  rw [mkL_len] at hlc ⊢
  have hlm : l.length ≤ 9223372036854775807 := by unfold maxLen at hcm; omega
  clear hcm hlc
  have HS := Lib.hid h
  clear h
  go_enter Tryz.func194, Tryz.ntmps194
  go_wp2
  go_loopw [1, 5] (fun q i wr => ∃ n : Nat, n ≤ l.length ∧ i = .int .i64 n ∧ q = (.int .i64 ((k0 + wL (fun _ : Int => 1) (l.take n) : Nat) : Int)) ∧ Ext w wr) (fun _ i _ => l.length - (intOf i).toNat)
  case atStart => exact ⟨0, Nat.zero_le _, rfl, rfl, Ext.refl _⟩
  case round =>
    obtain ⟨n, hle, rfl, rfl, ⟨X, rfl⟩⟩ := hrel
    by_cases hlt : n < l.length
    · have hlt' : n < (mkInts k0 l).length := by rw [mkL_len]; exact hlt
      have hS := HS.out
      rw [mkL_len] at hS
      obtain ⟨b, off, rfl⟩ := slr_some hS hlt'
      obtain ⟨cs, _, hc, he⟩ := slr_cells hS hlt'
      have he' : cs = intCell (mkInt (k0 + wL (fun _ : Int => 1) (l.take n)) l[n]) := by rw [← mkL_get mkInt _ l k0 n hlt]; exact he
      subst he'
      have d0 := hc 0 _ rfl
      have ho := World.old_of_cell d0
      simp only [mkInt] at d0
      rw [Nat.add_zero, Nat.mul_one] at d0
      have hw := wL_lt (fun _ : Int => 1) hlt
      have hw2 := Lib.hid (wL_step (fun _ : Int => 1) hlt)
      clear he hS hc hlt'
      generalize wL (fun _ : Int => 1) (l.take n) = s at *
      go_wp2
      exact ⟨⟨n + 1, by omega, by go_num, (by rw [hw2.out]; go_num), xt⟩, by simp [intOf]; omega⟩
    · go_wp2
      obtain rfl : n = l.length := by omega
      go_ret
      exact ⟨ret_int (by rw [List.take_length]), xt⟩

abbrev mkLabss : Nat → List (List Lab) → List (List Lab) := mkL mkLabs (wL (fun _ : Lab => 2))
set_option maxHeartbeats 800000 in
theorem markLabelSS_any (v : Value) (l : List (List Lab)) (k0 : Nat) (fp : List Nat) (w : World) (h : oSl 39 1 (oSl 32 2 (oFlat Lab.cells)) w fp [v] l) (hn : fp.Nodup) (hb : k0 + wL (wL (fun _ : Lab => 2)) l ≤ 4611686018427387904) :
    Calls Tryz.prog 62 #[v, (.int .i64 (k0 : Int))] w fun e w' => e = .returned (.int .i64 ((k0 + wL (wL (fun _ : Lab => 2)) l : Nat) : Int)) ∧ Chg fp w w' ∧ oSl 39 1 (oSl 32 2 (oFlat Lab.cells)) w' fp [v] (mkLabss k0 l) := by
  obtain ⟨a, cap, rfl, hcm, hlc⟩ := oSl_shape h
  have hlm : l.length ≤ 9223372036854775807 := by unfold maxLen at hcm; omega
  clear hcm hlc
  have HN := Lib.hid hn
  have HS := Lib.hid h
  clear h hn
  go_enter Tryz.func62, Tryz.ntmps62
  go_wp2
  go_loopw [1, 5] (fun q i wr => ∃ n : Nat, n ≤ l.length ∧ i = .int .i64 n ∧ q = (.int .i64 ((k0 + wL (wL (fun _ : Lab => 2)) (l.take n) : Nat) : Int)) ∧ Chg fp w wr ∧ Hid (oSl 39 1 (oSl 32 2 (oFlat Lab.cells)) wr fp [.slice a l.length cap] (mkN mkLabs (wL (fun _ : Lab => 2)) k0 l n))) (fun _ i _ => l.length - (intOf i).toNat)
  case atStart => exact ⟨0, Nat.zero_le _, rfl, rfl, Chg.refl _ _, Lib.hid (by rw [mkN_zero]; exact HS.out)⟩
  case round =>
    obtain ⟨n, hle, rfl, rfl, HC, HO⟩ := hrel
    by_cases hlt : n < l.length
    · have hlt' : n < (mkN mkLabs (wL (fun _ : Lab => 2)) k0 l n).length := by rw [mkN_len]; exact hlt
      obtain ⟨g, cap', hv⟩ := oSl_slice HO.out hlt'
      obtain ⟨rfl, hx1, rfl⟩ : a = some ⟨g, 0, none⟩ ∧ l.length = (mkN mkLabs (wL (fun _ : Lab => 2)) k0 l n).length ∧ cap = cap' := by simpa using hv
      clear hv hx1
      obtain ⟨fi, cs, hog, hfz, hcl, hc, hoe, hnd, hgf, hsub, hg, HU, _⟩ := oSl_at (oSl_local (oFlat_local _)) (oSl_held (oFlat_held _)) HO.out HN.out hlt'
      rw [mkN_at mkLabs (wL (fun _ : Lab => 2)) k0 hlt] at hoe
      obtain ⟨ve, rfl⟩ : ∃ ve, cs = [ve] := by obtain ⟨ve, hve, _⟩ := hoe; exact ⟨ve, hve⟩
      obtain ⟨ae, ce, rfl, _, _⟩ := oSl_shape hoe
      have d0 := hc 0 _ rfl
      rw [Nat.add_zero, Nat.mul_one] at d0
      have HU2 := Lib.hid HU
      have HE := Lib.hid hoe
      have hw := wL_lt (wL (fun _ : Lab => 2)) hlt
      have hw2 := Lib.hid (wL_step (wL (fun _ : Lab => 2)) hlt)
      have HSET := Lib.hid (mkN_set mkLabs (wL (fun _ : Lab => 2)) k0 hlt)
      clear HU hc hoe hcl
      generalize hs : wL (wL (fun _ : Lab => 2)) (l.take n) = s at hw hw2 HSET ⊢
      clear hs
      go_wp2_with fail
      refine (markLabelS_any _ l[n] (k0 + s) fi wr HE.out hnd (by have : wL (fun _ : Lab => 2) l[n] = (wL (fun _ : Lab => 2)) l[n] := rfl; omega)).mono ?_
      rintro e w2 ⟨rfl, hx, ho2⟩
      have HO2 := Lib.hid ho2
      clear ho2
      go_wp2
      refine ⟨⟨n + 1, by omega, by go_num, (by rw [hw2.out]; go_num), HC.trans (hx.mono hsub), Lib.hid (by rw [← HSET.out]; exact HU2.out w2 _ hx HO2.out)⟩, by simp [intOf]; omega⟩
    · go_wp2
      obtain rfl : n = l.length := by omega
      have hO := HO.out
      rw [mkN_all] at hO
      go_ret
      exact ⟨ret_int (by rw [List.take_length]), HC, hO⟩

set_option maxHeartbeats 800000 in
theorem heldLabelSS_any (v : Value) (l : List (List Lab)) (k0 : Nat) (w : World) (h : SlR w 1 (rSl 2 (rc Lab.cells)) v (mkLabss k0 l)) (hb : k0 + wL (wL (fun _ : Lab => 2)) l ≤ 4611686018427387904) :
    Calls Tryz.prog 166 #[v, (.int .i64 (k0 : Int))] w fun e w' => e = .returned (.int .i64 ((k0 + wL (wL (fun _ : Lab => 2)) l : Nat) : Int)) ∧ Ext w w' := by
  obtain ⟨a, cap, rfl⟩ := h.len
  obtain ⟨_, hlc, hcm⟩ := slr_len h
  rw [mkL_len] at hlc ⊢
  have hlm : l.length ≤ 9223372036854775807 := by unfold maxLen at hcm; omega
  clear hcm hlc
  have HS := Lib.hid h
  clear h
  go_enter Tryz.func166, Tryz.ntmps166
  go_wp2
  go_loopw [1, 5] (fun q i wr => ∃ n : Nat, n ≤ l.length ∧ i = .int .i64 n ∧ q = (.int .i64 ((k0 + wL (wL (fun _ : Lab => 2)) (l.take n) : Nat) : Int)) ∧ Ext w wr) (fun _ i _ => l.length - (intOf i).toNat)
  case atStart => exact ⟨0, Nat.zero_le _, rfl, rfl, Ext.refl _⟩
  case round =>
    obtain ⟨n, hle, rfl, rfl, ⟨X, rfl⟩⟩ := hrel
    by_cases hlt : n < l.length
    · have hlt' : n < (mkLabss k0 l).length := by rw [mkL_len]; exact hlt
      have hS := HS.out
      rw [mkL_len] at hS
      obtain ⟨b, off, rfl⟩ := slr_some hS hlt'
      obtain ⟨ho, ve, hse, d0⟩ := sl_at hS hlt'
      have hse' : SlR w 2 (rc Lab.cells) ve (mkLabs (k0 + wL (wL (fun _ : Lab => 2)) (l.take n)) l[n]) := by rw [← mkL_get mkLabs (wL (fun _ : Lab => 2)) l k0 n hlt]; exact hse
      obtain ⟨ae, ce, rfl⟩ := hse'.len
      have HE := Lib.hid hse'
      have hw := wL_lt (wL (fun _ : Lab => 2)) hlt
      have hw2 := Lib.hid (wL_step (wL (fun _ : Lab => 2)) hlt)
      clear hse hse' hS hlt'
      generalize hs : wL (wL (fun _ : Lab => 2)) (l.take n) = s at *
      clear hs
      go_wp2_with fail
      refine (heldLabelS_any _ l[n] (k0 + s) _ (HE.out.ext (rc_stable _) xt) (by have : wL (fun _ : Lab => 2) l[n] = (wL (fun _ : Lab => 2)) l[n] := rfl; omega)).mono ?_
      rintro e _ ⟨rfl, ⟨Y, rfl⟩⟩
      go_wp2
      exact ⟨⟨n + 1, by omega, by go_num, (by rw [hw2.out]; go_num), xt⟩, by simp [intOf]; omega⟩
    · go_wp2
      obtain rfl : n = l.length := by omega
      go_ret
      exact ⟨ret_int (by rw [List.take_length]), xt⟩

end Go.Proofs.YtagdkpcdagknlaaGreat

set_option maxRecDepth 100000
set_option linter.unusedVariables false
namespace Go
open Go.RowKit
/-- All that turned is younger: what was known stays known. -/
theorem Chg.grown {S : List Nat} {w0 w w' : World} (h : Chg S w w') (h0 : Ext w0 w) {B : Nat} (hs : ∀ b ∈ S, B ≤ b) (hB : w0.heap.size ≤ B) : Ext w0 w' := h.ext h0 fun b hb => Nat.le_trans hB (hs b hb)
end Go
namespace Go.Proofs.YtagdkpcdagknlaaGreat
open Go.RowKit Go.Fin1
theorem wL_const {α : Type} (c : Nat) (l : List α) : wL (fun _ : α => c) l = c * l.length := by
  induction l with
  | nil => rfl
  | cons x l ih => rw [wL_cons, ih, List.length_cons, Nat.mul_add]; omega
theorem wL_spans {α : Type} {l : List (List α)} (h : szL List.length l ≤ 1048576) : wL (wL (fun _ : α => 2)) l ≤ 4 * 1048576 := by
  have key : ∀ l : List (List α), wL (wL (fun _ : α => 2)) l = 2 * (l.map List.length).sum := fun l => by
    induction l with
    | nil => rfl
    | cons x l ih => rw [wL_cons, ih, wL_const, List.map_cons, List.sum_cons]; omega
  unfold szL at h
  rw [key]; omega
end Go.Proofs.YtagdkpcdagknlaaGreat

set_option maxRecDepth 100000
set_option linter.unusedVariables false
namespace Go.Proofs.YtagdkpcdagknlaaGreat
open Go.RowKit Go.Fin1

set_option maxHeartbeats 800000 in
theorem cloneInt_any (v : Value) (l : List Int) (w : World) (h : SlR w 1 (rc intCell) v l) (hl : l.length ≤ 1048576) :
    Calls Tryz.prog 157 #[v] w fun e w' => ∃ v', e = .returned v' ∧ Ext w w' ∧ Row w.heap.size w' 2 1 intCell v' l := by
  obtain ⟨ad, cap, rfl⟩ := h.len
  have q22 : ∀ (w : World) (a : Option Addr) (n c n' c' : Nat), (binOp .eql 33 (.slice a n c) (.slice none n' c')).run Tryz.prog w = .ok (.bool a.isNone) w := fun w a n c n' c' => Lib.run_eql_slice_nil w _ _ a n c n' c' (show Tryz.prog.underlying 33 = some (.slice 2) by kernel_rfl)
  have HS := Lib.hid h
  cases ad with
  | none =>
    have h0 : l = [] := by
      cases l with
      | nil => rfl
      | cons x l => obtain ⟨b, off, he⟩ := slr_some h (Nat.zero_lt_succ _); cases he
    subst h0
    clear h
    go_enter Tryz.func157, Tryz.ntmps157
    go_wp2
    go_ret
    exact ⟨_, rfl, xt, Row.nil _ _ _ _ _⟩
  | some ad =>
    have HC := Lib.hid (slr_flat (f := intCell) (K := 1) (fun _ => rfl) h)
    clear h
    go_enter Tryz.func157, Tryz.ntmps157
    go_wp2_with (at_builtin; go_must (refine Row.appS (f := intCell) el_Int rfl _ _ rfl w xt _ _ rfl (Row.made _ _ _ _) ad l.length cap l rfl rfl (fun _ => rfl) ?_ ?_ ?_ ?_ ?_); (exact fun j u hu => Ext.cellA xt (HC.out j u hu)); (intro u hu; obtain ⟨x, _, hx⟩ := List.mem_flatMap.1 hu; simp [intCell] at hx; first | (rcases hx with rfl | rfl <;> rfl) | (subst hx; rfl) | (rcases hx with rfl | rfl | rfl <;> rfl) | (rcases hx with rfl | rfl | rfl | rfl | rfl | rfl <;> rfl)); (unfold maxLen; simp; omega); (simp; omega); intro v' X' hown' hne; have HO' := Lib.hid hown'; clear hown' hne)
    go_ret
    exact ⟨_, rfl, xt, by have := HO'.out; simpa using this⟩

end Go.Proofs.YtagdkpcdagknlaaGreat
