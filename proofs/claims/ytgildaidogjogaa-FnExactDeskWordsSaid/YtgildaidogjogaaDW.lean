/- Lists of strings: the laws' helpers; DeskWords and its law. -/
import Derived.Test.YtgildaidogjogaaE3
import Derived.Test.YtgildaidogjogaaO
import Derived.Test.YtgildaidogjogaaW1
set_option maxRecDepth 100000
set_option linter.unusedVariables false
namespace Go.Proofs.Ytgildaidogjogaa
open Go.RowKit Go.Fin1

def sCell (s : ByteArray) : List Value := [.string s]
theorem str_at {w : World} {b off n cap : Nat} {xs : List ByteArray} (h : SlR w 1 (rc sCell) (.slice (some ⟨b, off, none⟩) n cap) xs) {i : Nat} (hi : i < xs.length) : w.old b ∧ w.cell? ⟨b, off + i, none⟩ = some (.string xs[i]) := by
  obtain ⟨cs, _, hc, rfl⟩ := slr_cells h hi
  have h0 := hc 0 _ rfl
  rw [Nat.mul_one] at h0
  exact ⟨World.old_of_cell h0, h0⟩
/-- The digits of a number ahead of a text. -/
def mt : Nat → Nat → ByteArray → ByteArray
  | 0, _, out => out
  | f + 1, k, out => if k = 0 then out else mt f (k / 10) (strOfNums [48 + (k : Int) % 10] ++ out)
theorem mt_zero (f : Nat) (out : ByteArray) : mt f 0 out = out := by cases f <;> simp [mt]
theorem mt_step {f k : Nat} (hk : 0 < k) (hf : k ≤ f) (out : ByteArray) : ∃ g, k / 10 ≤ g ∧ mt f k out = mt g (k / 10) (strOfNums [48 + (k : Int) % 10] ++ out) := by
  cases f with
  | zero => omega
  | succ f => exact ⟨f, by omega, by rw [mt, if_neg (by omega)]⟩
@[irreducible] def mtx (k : Nat) : ByteArray := ⟨#[109]⟩ ++ mt k k ⟨#[]⟩
theorem ownsOne8 (w : World) (a : Int) : (w.alloc (.cells #[.int .u8 a] 5)).ownsRow w.heap.size 5 1 (.slice (some ⟨w.heap.size, 0, none⟩) 1 1) 1 ([a].map (Value.int .u8)) :=
  ⟨rfl, .inr ⟨w.heap.size, 1, #[.int .u8 a], rfl, Nat.le_refl _, Array.getElem?_push_size, by decide, by decide, rfl, rfl⟩⟩

set_option maxHeartbeats 800000 in
theorem markText_any (k : Nat) (w : World) (hk : 0 < k) (hb : k ≤ 4611686018427387904) :
    Calls Try.prog 157 #[(.int .i64 (k : Int))] w fun e w' => e = .returned (.string (mtx k)) ∧ Ext w w' := by
  have hd : decide ((k : Int) ≤ 0) = false := decide_eq_false (by omega)
  have hd2 : decide (k = 0) = false := decide_eq_false (by omega)
  go_enter Try.func157, Try.ntmps157
  go_wp2
  go_loopw [0, 3] (fun v o wr => ∃ (n f : Nat) (out : ByteArray), n ≤ k ∧ v = (.int .i64 (n : Int)) ∧ o = .string out ∧ n ≤ f ∧ out.size + n ≤ k ∧ Hid (mt f n out = mt k k ⟨#[]⟩) ∧ Ext w wr) (fun v _ _ => (intOf v).toNat)
  case atStart => exact ⟨k, k, ⟨#[]⟩, Nat.le_refl _, rfl, rfl, Nat.le_refl _, by simp [ByteArray.size], Lib.hid rfl, (by repeat (first | exact Ext.refl _ | apply Ext.plus | apply Ext.alloc | apply Ext.drew))⟩
  case round =>
    obtain ⟨n, f, out, hn, rfl, rfl, hf, hos, HM, ⟨X, rfl⟩⟩ := hrel
    by_cases h0 : 0 < n
    · have hd : decide ((0 : Int) < (n : Int)) = true := decide_eq_true (by omega)
      obtain ⟨g, hg, hst⟩ := mt_step h0 hf out
      have HG := Lib.hid (hst.symm.trans HM.out)
      clear hst
      have hs := run_string_own (P := Try.prog) (src := 100) (dst := 9) Try.underlying100 Try.underlying5 Try.underlying9 (ownsOne8 (w.plus X) (48 + (n : Int) % 10))
      simp only [World.size_plus] at hs
      have hz1 : (strOfNums [48 + (n : Int) % 10]).size = 1 := by simp [strOfNums, ByteArray.size]
      go_wp2
      exact ⟨⟨n / 10, g, _, by omega, by go_num, rfl, hg, (by rw [ByteArray.size_append, hz1]; omega), HG, (by repeat (first | exact Ext.refl _ | apply Ext.plus | apply Ext.alloc | apply Ext.drew))⟩, by simp [intOf]; omega⟩
    · obtain rfl : n = 0 := by omega
      have HT : Hid (mtx k = ⟨#[109]⟩ ++ out) := Lib.hid (by unfold mtx; rw [← HM.out, mt_zero])
      go_wp2
      go_ret
      exact ⟨ret_str HT.out.symm, (by repeat (first | exact Ext.refl _ | apply Ext.plus | apply Ext.alloc | apply Ext.drew))⟩

def mkS (k : Nat) (_ : ByteArray) : ByteArray := mtx k
abbrev mkSs : Nat → List ByteArray → List ByteArray := mkL mkS (fun _ => 1)
abbrev oStrS : Ow (List ByteArray) := oSl 9 1 (oFlat sCell)
theorem oStrS_local : Local oStrS := oSl_local (oFlat_local _)
theorem oStrS_held : Held oStrS := oSl_held (oFlat_held _)

set_option maxHeartbeats 1600000 in
theorem markStringS_any (v : Value) (l : List ByteArray) (k0 : Nat) (fp : List Nat) (w : World) (h : oStrS w fp [v] l) (hn : fp.Nodup) (h0 : 0 < k0) (hb : k0 + wL (fun _ : ByteArray => 1) l ≤ 4611686018427387904) :
    Calls Try.prog 66 #[v, (.int .i64 (k0 : Int))] w fun e w' => e = .returned (.int .i64 ((k0 + wL (fun _ : ByteArray => 1) l : Nat) : Int)) ∧ Chg fp w w' ∧ oStrS w' fp [v] (mkSs k0 l) := by
  obtain ⟨a, cap, rfl, hcm, hlc⟩ := oSl_shape h
  have hlm : l.length ≤ 9223372036854775807 := by unfold maxLen at hcm; omega
  clear hcm hlc
  have HN := Lib.hid hn
  have HS := Lib.hid h
  clear h hn
  go_enter Try.func66, Try.ntmps66
  go_wp2
  go_loopw [1, 5] (fun q i wr => ∃ n : Nat, n ≤ l.length ∧ i = .int .i64 n ∧ q = (.int .i64 ((k0 + wL (fun _ : ByteArray => 1) (l.take n) : Nat) : Int)) ∧ Chg fp w wr ∧ Hid (oStrS wr fp [.slice a l.length cap] (mkN mkS (fun _ => 1) k0 l n))) (fun _ i _ => l.length - (intOf i).toNat)
  case atStart => exact ⟨0, Nat.zero_le _, rfl, rfl, Chg.refl _ _, Lib.hid (by rw [mkN_zero]; exact HS.out)⟩
  case round =>
    obtain ⟨n, hle, rfl, rfl, HC, HO⟩ := hrel
    by_cases hlt : n < l.length
    · have hlt' : n < (mkN mkS (fun _ => 1) k0 l n).length := by rw [mkN_len]; exact hlt
      obtain ⟨g, cap', hv⟩ := oSl_slice HO.out hlt'
      obtain ⟨rfl, hx1, rfl⟩ : a = some ⟨g, 0, none⟩ ∧ l.length = (mkN mkS (fun _ => 1) k0 l n).length ∧ cap = cap' := by simpa using hv
      clear hv hx1
      obtain ⟨hog, hfz, hc, hg, HU⟩ := oFl_at (f := sCell) (fun _ => rfl) HO.out HN.out hlt'
      rw [mkN_at mkS _ k0 hlt] at hc
      have d0 := hc 0 _ rfl
      rw [Nat.add_zero, Nat.mul_one] at d0
      have hU := HU (mkS (k0 + wL (fun _ : ByteArray => 1) (l.take n)) l[n])
      rw [mkN_set _ _ _ hlt] at hU
      have HU2 := Lib.hid hU
      clear hU
      have hw := wL_lt (fun _ : ByteArray => 1) hlt
      have hw2 := Lib.hid (wL_step (fun _ : ByteArray => 1) hlt)
      clear HU hc hlt'
      generalize wL (fun _ : ByteArray => 1) (l.take n) = s at hw hw2 HU2 ⊢
      have HM := Lib.hid (fun w => markText_any (k0 + s) w (by omega) (by omega))
      go_wp2_with fail
      refine (HM.out _).mono ?_
      rintro e _ ⟨rfl, Y, rfl⟩
      go_wp2
      exact ⟨⟨n + 1, by omega, by go_num, (by rw [hw2.out]; go_num), (HC.setCell (.inl hg) _).plus Y, Lib.hid (by
        have h := HU2.out
        simp only [World.layCells, sCell, mkS, Nat.mul_one] at h
        exact oStrS_local.ext oStrS_held ((Ext.refl _).plus Y) h)⟩, by simp [intOf]; omega⟩
    · go_wp2
      obtain rfl : n = l.length := by omega
      have hO := HO.out
      rw [mkN_all] at hO
      go_ret
      exact ⟨ret_int (by rw [List.take_length]), HC, hO⟩

set_option maxHeartbeats 1600000 in
theorem heldStringS_any (v : Value) (l : List ByteArray) (k0 : Nat) (w : World) (h : SlR w 1 (rc sCell) v (mkSs k0 l)) (h0 : 0 < k0) (hb : k0 + wL (fun _ : ByteArray => 1) l ≤ 4611686018427387904) :
    Calls Try.prog 67 #[v, (.int .i64 (k0 : Int))] w fun e w' => e = .returned (.int .i64 ((k0 + wL (fun _ : ByteArray => 1) l : Nat) : Int)) ∧ Ext w w' := by
  obtain ⟨a, cap, rfl⟩ := h.len
  obtain ⟨_, hlc, hcm⟩ := slr_len h
  rw [mkL_len] at hlc ⊢
  have hlm : l.length ≤ 9223372036854775807 := by unfold maxLen at hcm; omega
  clear hcm hlc
  have HS := Lib.hid h
  clear h
  go_enter Try.func67, Try.ntmps67
  go_wp2
  go_loopw [1, 5] (fun q i wr => ∃ n : Nat, n ≤ l.length ∧ i = .int .i64 n ∧ q = (.int .i64 ((k0 + wL (fun _ : ByteArray => 1) (l.take n) : Nat) : Int)) ∧ Ext w wr) (fun _ i _ => l.length - (intOf i).toNat)
  case atStart => exact ⟨0, Nat.zero_le _, rfl, rfl, Ext.refl _⟩
  case round =>
    obtain ⟨n, hle, rfl, rfl, ⟨X, rfl⟩⟩ := hrel
    by_cases hlt : n < l.length
    · have hlt' : n < (mkSs k0 l).length := by rw [mkL_len]; exact hlt
      have hS := HS.out
      rw [mkL_len] at hS
      obtain ⟨b, off, rfl⟩ := slr_some hS hlt'
      obtain ⟨ho, d0⟩ := str_at hS hlt'
      rw [mkL_get mkS _ l k0 n hlt] at d0
      simp only [mkS] at d0
      have hw := wL_lt (fun _ : ByteArray => 1) hlt
      have hw2 := Lib.hid (wL_step (fun _ : ByteArray => 1) hlt)
      clear hS hlt'
      generalize wL (fun _ : ByteArray => 1) (l.take n) = s at *
      have HM := Lib.hid (fun w => markText_any (k0 + s) w (by omega) (by omega))
      go_upto_region 4 with fail
      (refine wp_region_x 7 (by kernel_rfl) (by kernel_rfl) (by kernel_rfl) ?_; (iterate 7 (apply XReg.step; (case h => (intro w' hw'; obtain ⟨X', rfl⟩ := hw'; go_wp2_with ((go_at_call 157; refine (HM.out _).mono ?_; rintro e _ ⟨rfl, X, rfl⟩)); exact ⟨rfl, (by repeat (first | exact Ext.refl _ | apply Ext.plus | apply Ext.alloc | apply Ext.drew))⟩)); (case hv => kernel_rfl))); refine XReg.doneN (fun X => ?_))
      go_wp2
      exact ⟨⟨n + 1, by omega, by go_num, (by rw [hw2.out]; go_num), (by repeat (first | exact Ext.refl _ | apply Ext.plus | apply Ext.alloc | apply Ext.drew))⟩, by simp [intOf]; omega⟩
    · go_wp2
      obtain rfl : n = l.length := by omega
      go_ret
      exact ⟨ret_int (by rw [List.take_length]), (by repeat (first | exact Ext.refl _ | apply Ext.plus | apply Ext.alloc | apply Ext.drew))⟩

set_option maxHeartbeats 800000 in
theorem eqStringS_self (v v' : Value) (l : List ByteArray) (w : World) (h : SlR w 1 (rc sCell) v l) (h' : SlR w 1 (rc sCell) v' l) :
    Calls Try.prog 65 #[v, v'] w fun e w' => e = .returned (.bool true) ∧ Ext w w' := by
  obtain ⟨ad, cap, rfl⟩ := h.len
  obtain ⟨ad', cap', rfl⟩ := h'.len
  obtain ⟨_, hlc, hcm⟩ := slr_len h
  have hlm : l.length ≤ 9223372036854775807 := by unfold maxLen at hcm; omega
  clear hcm hlc
  have HS := Lib.hid h
  have HS' := Lib.hid h'
  clear h h'
  go_enter Try.func65, Try.ntmps65
  go_wp2
  go_loopw [5] (fun i wr => ∃ k : Nat, k ≤ l.length ∧ i = .int .i64 k ∧ Ext w wr) (fun i _ => l.length - (intOf i).toNat)
  case atStart => exact ⟨0, Nat.zero_le _, rfl, (by repeat (first | exact Ext.refl _ | apply Ext.plus | apply Ext.alloc | apply Ext.drew))⟩
  case round =>
    obtain ⟨k, hk, rfl, ⟨X, rfl⟩⟩ := hrel
    by_cases hlt : k < l.length
    · obtain ⟨b, off, rfl⟩ := slr_some HS.out hlt
      obtain ⟨b', off', rfl⟩ := slr_some HS'.out hlt
      obtain ⟨ho, h0⟩ := str_at HS.out hlt
      obtain ⟨ho', h0'⟩ := str_at HS'.out hlt
      go_upto_region 6 with fail
      (refine wp_region_x 9 (by kernel_rfl) (by kernel_rfl) (by kernel_rfl) ?_; (iterate 9 (apply XReg.step; (case h => (intro w' hw'; obtain ⟨X', rfl⟩ := hw'; go_wp2_with (fail); exact ⟨rfl, (by repeat (first | exact Ext.refl _ | apply Ext.plus | apply Ext.alloc | apply Ext.drew))⟩)); (case hv => kernel_rfl))); refine XReg.doneN (fun X => ?_))
      go_wp2
      exact ⟨⟨k + 1, by omega, by go_num, (by repeat (first | exact Ext.refl _ | apply Ext.plus | apply Ext.alloc | apply Ext.drew))⟩, by simp [intOf]; omega⟩
    · go_wp2
      go_ret
      exact ⟨rfl, (by repeat (first | exact Ext.refl _ | apply Ext.plus | apply Ext.alloc | apply Ext.drew))⟩

def deskWords : List ByteArray := [⟨#[100, 111, 110, 101]⟩, ⟨#[104, 111, 108, 100]⟩, ⟨#[112, 108, 97, 110]⟩, ⟨#[115, 101, 101]⟩, ⟨#[115, 117, 98, 109, 105, 116]⟩, ⟨#[116, 105, 99, 107]⟩, ⟨#[119, 97, 105, 116]⟩]
theorem ownsWords (w : World) : ∃ fp, Own w.heap.size (w.alloc (.cells #[.string ⟨#[100, 111, 110, 101]⟩, .string ⟨#[104, 111, 108, 100]⟩, .string ⟨#[112, 108, 97, 110]⟩, .string ⟨#[115, 101, 101]⟩, .string ⟨#[115, 117, 98, 109, 105, 116]⟩, .string ⟨#[116, 105, 99, 107]⟩, .string ⟨#[119, 97, 105, 116]⟩] 9)) oStrS fp [.slice (some ⟨w.heap.size, 0, none⟩) 7 7] deskWords :=
  Row.own (f := sCell) (K := 1) (fun _ => rfl) ⟨rfl, .inr ⟨w.heap.size, 7, _, rfl, Nat.le_refl _, heap_alloc_new w _, Nat.le_refl _, (by unfold maxLen; omega), rfl, rfl⟩⟩

set_option maxHeartbeats 400000 in
theorem implDeskWords_any (w : World) :
    Calls Try.prog 64 #[] w fun e w' => ∃ v fp, e = .returned v ∧ Ext w w' ∧ Own w.heap.size w' oStrS fp [v] deskWords := by
  obtain ⟨fp, hO⟩ := ownsWords w
  have HO := Lib.hid hO
  clear hO
  go_enter Try.func64, Try.ntmps64
  go_wp2
  go_ret
  exact ⟨_, fp, rfl, (by repeat (first | exact Ext.refl _ | apply Ext.plus | apply Ext.alloc | apply Ext.drew)), HO.out⟩

set_option maxHeartbeats 400000 in
theorem specDeskWords_any (w : World) :
    Calls Try.prog 63 #[] w fun e w' => ∃ v fp, e = .returned v ∧ Ext w w' ∧ Own w.heap.size w' oStrS fp [v] deskWords := by
  obtain ⟨fp, hO⟩ := ownsWords w
  have HO := Lib.hid hO
  clear hO
  go_enter Try.func63, Try.ntmps63
  go_wp2
  go_ret
  exact ⟨_, fp, rfl, (by repeat (first | exact Ext.refl _ | apply Ext.plus | apply Ext.alloc | apply Ext.drew)), HO.out⟩

set_option maxHeartbeats 1600000 in
theorem fnDeskWords_any (w : World) :
    Calls Try.prog 12 #[] w fun e w' => e = .returned (.bool true) ∧ Ext w w' := by
  have hw7 : wL (fun _ : ByteArray => 1) deskWords = 7 := by decide
  go_enter Try.func12, Try.ntmps12
  go_wp2_with fail
  refine (specDeskWords_any _).mono ?_
  rintro e _ ⟨v0, f0, rfl, ⟨X0, rfl⟩, hO⟩
  have HW := Lib.hid (oFl_reads (f := sCell) (fun _ => rfl) hO.1)
  obtain ⟨a0, c0, rfl⟩ := hO.shape
  clear hO
  go_wp2_with fail
  refine (implDeskWords_any _).mono ?_
  rintro e _ ⟨v1, f1, rfl, ⟨X1, rfl⟩, hO⟩
  have HG := Lib.hid hO
  obtain ⟨a1, c1, rfl⟩ := hO.shape
  clear hO
  go_wp2_with fail
  refine (eqStringS_self _ _ deskWords _ (oFl_reads (f := sCell) (fun _ => rfl) HG.out.1) (HW.out.ext (rc_stable _) (by repeat (first | exact Ext.refl _ | apply Ext.plus | apply Ext.alloc | apply Ext.drew)))).mono ?_
  rintro e _ ⟨rfl, ⟨X2, rfl⟩⟩
  go_wp2_with fail
  refine (markStringS_any _ deskWords 1 f1 _ (HG.out.ext oStrS_local oStrS_held (by repeat (first | exact Ext.refl _ | apply Ext.plus | apply Ext.alloc | apply Ext.drew))).1 HG.out.2.1 (by omega) (by omega)).mono ?_
  rintro e wm ⟨rfl, hx, hmk⟩
  have hE : Ext w wm := hx.grown (by repeat (first | exact Ext.refl _ | apply Ext.plus | apply Ext.alloc | apply Ext.drew)) HG.out.2.2 (by simp)
  have HW1 := Lib.hid (HW.out.ext (rc_stable _) (show Ext _ wm from hx.grown ((Ext.refl _).plus X1 |>.plus X2) HG.out.2.2 (by simp)))
  have HM := Lib.hid (oFl_reads (f := sCell) (fun _ => rfl) hmk)
  clear hx hmk HG HW
  obtain ⟨Y, rfl⟩ := hE
  go_wp2_with fail
  refine (heldStringS_any _ deskWords 1 _ (HM.out.ext (rc_stable _) (by repeat (first | exact Ext.refl _ | apply Ext.plus | apply Ext.alloc | apply Ext.drew))) (by omega) (by omega)).mono ?_
  rintro e _ ⟨rfl, ⟨X3, rfl⟩⟩
  go_wp2_with fail
  refine (implDeskWords_any _).mono ?_
  rintro e _ ⟨v2, f2, rfl, ⟨X4, rfl⟩, hO⟩
  have HH := Lib.hid (oFl_reads (f := sCell) (fun _ => rfl) hO.1)
  obtain ⟨a2, c2, rfl⟩ := hO.shape
  clear hO
  go_wp2_with fail
  refine (eqStringS_self _ _ deskWords _ HH.out (HW1.out.ext (rc_stable _) (by repeat (first | exact Ext.refl _ | apply Ext.plus | apply Ext.alloc | apply Ext.drew)))).mono ?_
  rintro e _ ⟨rfl, ⟨X5, rfl⟩⟩
  go_wp2_with fail
  refine (heldStringS_any _ deskWords 1 _ (HM.out.ext (rc_stable _) (by repeat (first | exact Ext.refl _ | apply Ext.plus | apply Ext.alloc | apply Ext.drew))) (by omega) (by omega)).mono ?_
  rintro e _ ⟨rfl, ⟨X6, rfl⟩⟩
  go_wp2
  go_ret
  exact ⟨rfl, (by repeat (first | exact Ext.refl _ | apply Ext.plus | apply Ext.alloc | apply Ext.drew))⟩
end Go.Proofs.Ytgildaidogjogaa
