/- The laws' mark and held over letters and desks. -/
import Derived.Test.YtkekfncgpbileaaE3
import Derived.Test.YtkekfncgpbileaaD3
set_option maxRecDepth 100000
set_option linter.unusedVariables false
namespace Go.Proofs.Ytkekfncgpbileaa
open Go.RowKit Go.Fin1

def mkLtr (k : Nat) (_ : Ltr) : Ltr := ⟨⟨k, (k : Int) + 1⟩, ⟨(k : Int) + 1 + 1, (k : Int) + 1 + 1 + 1⟩, (k : Int) + 1 + 1 + 1 + 1, (k : Int) + 1 + 1 + 1 + 1 + 1⟩
abbrev mkLtrs : Nat → List Ltr → List Ltr := mkL mkLtr (fun _ => 6)
set_option maxHeartbeats 3200000 in
theorem markLetterS_any (v : Value) (l : List Ltr) (k0 : Nat) (fp : List Nat) (w : World) (h : oSl 100 6 (oFlat Ltr.cells) w fp [v] l) (hn : fp.Nodup) (hb : k0 + wL (fun _ : Ltr => 6) l ≤ 4611686018427387904) :
    Calls Try.prog 71 #[v, (.int .i64 (k0 : Int))] w fun e w' => e = .returned (.int .i64 ((k0 + wL (fun _ : Ltr => 6) l : Nat) : Int)) ∧ Chg fp w w' ∧ oSl 100 6 (oFlat Ltr.cells) w' fp [v] (mkLtrs k0 l) := by
  obtain ⟨a, cap, rfl, hcm, hlc⟩ := oSl_shape h
  have hlm : l.length ≤ 9223372036854775807 := by unfold maxLen at hcm; omega
  clear hcm hlc
  have HN := Lib.hid hn
  have HS := Lib.hid h
  clear h hn
  go_enter Try.func71, Try.ntmps71
  go_wp2
  go_loopw [1, 5] (fun q i wr => ∃ n : Nat, n ≤ l.length ∧ i = .int .i64 n ∧ q = (.int .i64 ((k0 + wL (fun _ : Ltr => 6) (l.take n) : Nat) : Int)) ∧ Chg fp w wr ∧ Hid (oSl 100 6 (oFlat Ltr.cells) wr fp [.slice a l.length cap] (mkN mkLtr (fun _ => 6) k0 l n))) (fun _ i _ => l.length - (intOf i).toNat)
  case atStart => exact ⟨0, Nat.zero_le _, rfl, rfl, Chg.refl _ _, Lib.hid (by rw [mkN_zero]; exact HS.out)⟩
  case round =>
    obtain ⟨n, hle, rfl, rfl, HC, HO⟩ := hrel
    by_cases hlt : n < l.length
    · have hlt' : n < (mkN mkLtr (fun _ => 6) k0 l n).length := by rw [mkN_len]; exact hlt
      obtain ⟨g, cap', hv⟩ := oSl_slice HO.out hlt'
      obtain ⟨rfl, hx1, rfl⟩ : a = some ⟨g, 0, none⟩ ∧ l.length = (mkN mkLtr (fun _ => 6) k0 l n).length ∧ cap = cap' := by simpa using hv
      clear hv hx1
      obtain ⟨hog, hfz, hc, hg, HU⟩ := oFl_at (f := Ltr.cells) (fun _ => rfl) HO.out HN.out hlt'
      rw [mkN_at mkLtr _ k0 hlt] at hc
      have d0 := hc 0 _ rfl
      have d1 := hc 1 _ rfl
      have d2 := hc 2 _ rfl
      have d3 := hc 3 _ rfl
      have d4 := hc 4 _ rfl
      have d5 := hc 5 _ rfl
      rw [Nat.add_zero] at d0
      have hU := HU (mkLtr (k0 + wL (fun _ : Ltr => 6) (l.take n)) l[n])
      rw [mkN_set _ _ _ hlt] at hU
      have HU2 := Lib.hid hU
      clear hU
      have hw := wL_lt (fun _ : Ltr => 6) hlt
      have hw2 := Lib.hid (wL_step (fun _ : Ltr => 6) hlt)
      clear HU hc hlt'
      generalize wL (fun _ : Ltr => 6) (l.take n) = s at hw hw2 HU2 ⊢
      go_wp2
      refine ⟨⟨n + 1, by omega, by go_num, (by rw [hw2.out]; go_num), (by repeat (first | exact HC | (with_reducible refine Chg.setCell ?_ (.inl hg) _))), Lib.hid (by have h := HU2.out; simp only [World.layCells, Ltr.cells, mkLtr] at h; push_cast at h; simp only [Nat.add_assoc, Nat.reduceAdd] at h; exact h)⟩, by simp [intOf]; omega⟩
    · go_wp2
      obtain rfl : n = l.length := by omega
      have hO := HO.out
      rw [mkN_all] at hO
      go_ret
      exact ⟨ret_int (by rw [List.take_length]), HC, hO⟩

set_option maxHeartbeats 3200000 in
theorem heldLetterS_any (v : Value) (l : List Ltr) (k0 : Nat) (w : World) (h : SlR w 6 (rc Ltr.cells) v (mkLtrs k0 l)) (hb : k0 + wL (fun _ : Ltr => 6) l ≤ 4611686018427387904) :
    Calls Try.prog 135 #[v, (.int .i64 (k0 : Int))] w fun e w' => e = .returned (.int .i64 ((k0 + wL (fun _ : Ltr => 6) l : Nat) : Int)) ∧ Ext w w' := by
  obtain ⟨a, cap, rfl⟩ := h.len
  obtain ⟨_, hlc, hcm⟩ := slr_len h
  rw [mkL_len] at hlc ⊢
  have hlm : l.length ≤ 9223372036854775807 := by unfold maxLen at hcm; omega
  clear hcm hlc
  have HS := Lib.hid h
  clear h
  go_enter Try.func135, Try.ntmps135
  go_wp2
  go_loopw [1, 5] (fun q i wr => ∃ n : Nat, n ≤ l.length ∧ i = .int .i64 n ∧ q = (.int .i64 ((k0 + wL (fun _ : Ltr => 6) (l.take n) : Nat) : Int)) ∧ Ext w wr) (fun _ i _ => l.length - (intOf i).toNat)
  case atStart => exact ⟨0, Nat.zero_le _, rfl, rfl, Ext.refl _⟩
  case round =>
    obtain ⟨n, hle, rfl, rfl, ⟨X, rfl⟩⟩ := hrel
    by_cases hlt : n < l.length
    · have hlt' : n < (mkLtrs k0 l).length := by rw [mkL_len]; exact hlt
      have hS := HS.out
      rw [mkL_len] at hS
      obtain ⟨b, off, rfl⟩ := slr_some hS hlt'
      obtain ⟨cs, _, hc, he⟩ := slr_cells hS hlt'
      have he' : cs = Ltr.cells (mkLtr (k0 + wL (fun _ : Ltr => 6) (l.take n)) l[n]) := by rw [← mkL_get mkLtr _ l k0 n hlt]; exact he
      subst he'
      have d0 := hc 0 _ rfl
      have d1 := hc 1 _ rfl
      have d2 := hc 2 _ rfl
      have d3 := hc 3 _ rfl
      have d4 := hc 4 _ rfl
      have d5 := hc 5 _ rfl
      have ho := World.old_of_cell d0
      simp only [mkLtr] at d0 d1 d2 d3 d4 d5
      rw [Nat.add_zero] at d0
      have hw := wL_lt (fun _ : Ltr => 6) hlt
      have hw2 := Lib.hid (wL_step (fun _ : Ltr => 6) hlt)
      clear he hS hc hlt'
      generalize wL (fun _ : Ltr => 6) (l.take n) = s at *
      go_wp2
      exact ⟨⟨n + 1, by omega, by go_num, (by rw [hw2.out]; go_num), (by repeat (first | exact Ext.refl _ | apply Ext.plus | apply Ext.alloc | apply Ext.drew))⟩, by simp [intOf]; omega⟩
    · go_wp2
      obtain rfl : n = l.length := by omega
      go_ret
      exact ⟨ret_int (by rw [List.take_length]), (by repeat (first | exact Ext.refl _ | apply Ext.plus | apply Ext.alloc | apply Ext.drew))⟩

end Go.Proofs.Ytkekfncgpbileaa
