/- The laws' own helpers over slices of slices. -/
import Derived.Test.YtofpknobahccdaaP3
import Derived.Test.YtofpknobahccdaaJ2
set_option maxRecDepth 100000
set_option linter.unusedVariables false
namespace Go.Proofs.Ytofpknobahccdaa
open Go.RowKit Go.Fin1

/-- How much a list takes of the laws' bound. -/
@[irreducible] def szL {α : Type} (f : α → Nat) (l : List α) : Nat := l.length + (l.map f).sum
theorem szL_len {α : Type} (f : α → Nat) (l : List α) : l.length ≤ szL f l := by unfold szL; omega
theorem sum_take {α : Type} (f : α → Nat) {l : List α} {k : Nat} (hk : k < l.length) : ((l.take (k + 1)).map f).sum = ((l.take k).map f).sum + f l[k] := by
  rw [List.take_succ_eq_append_getElem hk]; simp only [List.map_append, List.sum_append, List.map_cons, List.map_nil, List.sum_cons, List.sum_nil, Nat.add_zero]
theorem sum_take_le {α : Type} (f : α → Nat) : ∀ (l : List α) (k : Nat), ((l.take k).map f).sum ≤ (l.map f).sum
  | [], k => by simp
  | x :: l, 0 => by simp
  | x :: l, k + 1 => by have := sum_take_le f l k; simp only [List.take_succ_cons, List.map_cons, List.sum_cons]; omega
theorem szL_take {α : Type} (f : α → Nat) {l : List α} {k : Nat} (hk : k < l.length) : ((l.take (k + 1)).map f).sum = ((l.take k).map f).sum + f l[k] := sum_take f hk
theorem szL_le {α : Type} (f : α → Nat) {l : List α} {k : Nat} (hk : k < l.length) : l.length + ((l.take k).map f).sum + f l[k] ≤ szL f l := by
  unfold szL
  have := sum_take_le f l (k + 1)
  rw [sum_take f hk] at this; omega
theorem szL_at {α : Type} (f : α → Nat) {l : List α} {k : Nat} (hk : k < l.length) : f l[k] ≤ szL f l := by have := szL_le f hk; omega

theorem toSpanS_e (v : Value) (l : List Spn) (w : World) (h : SlR w 2 rSpn v l) (hl : l.length ≤ 1048576) :
    Calls Try.prog 40 #[v] w fun e w' => ∃ v' fp, e = .returned v' ∧ Ext w w' ∧ Own w.heap.size w' oSpanS fp [v'] l := toSpanS_any v l w h hl
theorem szSpanS_e (v : Value) (l : List Spn) (n : Nat) (w : World) (h : SlR w 2 rSpn v l) (hn : n ≤ 1048576) :
    Calls Try.prog 38 #[v, (.int .i64 n)] w fun e w' => e = .returned (.int .i64 (if l.length ≤ n then ((n - l.length : Nat) : Int) else -1)) ∧ Ext w w' :=
  (szSpanS_any v l n w h hn).mono fun _ _ ⟨h1, h2⟩ => ⟨h1, h2 ▸ Ext.refl _⟩
theorem eqSpanS_e (v v' : Value) (l : List Spn) (w : World) (h : SlR w 2 rSpn v l) (h' : SlR w 2 rSpn v' l) :
    Calls Try.prog 42 #[v, v'] w fun e w' => e = .returned (.bool true) ∧ Ext w w' := eqSpanS_self v v' l w h h'
abbrev rSpnSS : World → List Value → List Spn → Prop := rSl 2 rSpn

theorem info_eSpanS : (Try.prog.info? 68).map (fun i => (i.zero, i.size, i.bytes)) = some (some (.slice none 0 0), 1, 24) := by kernel_rfl
theorem el_eSpanS : ElemInfo Try.prog 46 68 1 24 := by
  obtain ⟨i, hi, hz, hs, hb⟩ := info_parts info_eSpanS
  exact ⟨by kernel_rfl, ⟨i, _, hi, hz, hs, hb, rfl⟩, by decide⟩
abbrev oSpanSS : Ow (List (List Spn)) := oSl 68 1 oSpanS
theorem oSpanSS_local : Local oSpanSS := oSl_local (oSl_local (oFlat_local _))
theorem oSpanSS_held : Held oSpanSS := oSl_held (oSl_held (oFlat_held _))

set_option maxHeartbeats 1600000 in
theorem toSpanSS_any (v : Value) (l : List (List Spn)) (w : World) (h : SlR w 1 rSpnSS v l) (hl : szL List.length l ≤ 1048576) :
    Calls Try.prog 25 #[v] w fun e w' => ∃ v' fp, e = .returned v' ∧ Ext w w' ∧ Own w.heap.size w' oSpanSS fp [v'] l := by
  obtain ⟨ad, cap, rfl⟩ := h.len
  have hll := szL_len List.length l
  have HL := Lib.hid hl
  have HS := Lib.hid h
  clear h hl
  have hll2 : l.length ≤ 1048576 := Nat.le_trans hll HL.out
  clear hll
  go_enter Try.func25, Try.ntmps25
  go_wp2_with (at_make; refine make_n el_eSpanS rfl _ _ rfl w (Ext.refl _) l.length .i64 .i64 rfl rfl ?_ ?_ ?_; omega; (unfold maxLen; omega); intro X g cur hg hs hB; have HF := Lib.hid (Fill.start (xs := l) (o := oSpanS) hg hs hB); clear hg hs hB)
  go_loopw [4] (fun i wr => ∃ k : Nat, k ≤ l.length ∧ i = .int .i64 k ∧ Ext w wr ∧ Hid (Fill w.heap.size wr g 68 1 oSpanS l k)) (fun i _ => l.length - (intOf i).toNat)
  case atStart => exact ⟨0, Nat.zero_le _, rfl, (by repeat (first | exact Ext.refl _ | apply Ext.plus | apply Ext.alloc | apply Ext.drew)), HF⟩
  case round =>
    clear HF X
    obtain ⟨k, hk, rfl, ⟨X, rfl⟩, HF⟩ := hrel
    by_cases hlt : k < l.length
    · obtain ⟨b, off, rfl⟩ := slr_some HS.out hlt
      obtain ⟨ho, vx, hsx, h0⟩ := sl_at HS.out hlt
      obtain ⟨ax, cx, rfl⟩ := hsx.len
      have HV := Lib.hid hsx
      clear hsx
      obtain ⟨hog, hBg, hfz⟩ := HF.out.old
      obtain ⟨y0, hc0⟩ := HF.out.cell hlt (q := 0) (by decide)
      rw [Nat.add_zero, Nat.mul_one] at hc0
      have HZ := Lib.hid (szL_at List.length hlt)
      go_wp2_with fail
      refine (toSpanS_e _ l[k] _ (HV.out.ext rSpn_stable (by repeat (first | exact Ext.refl _ | apply Ext.plus | apply Ext.alloc | apply Ext.drew))) (Nat.le_trans HZ.out HL.out)).mono ?_
      rintro e _ ⟨v', fp, rfl, ⟨Y, rfl⟩, hO⟩
      obtain ⟨a', c', rfl⟩ := hO.shape
      have HO := Lib.hid hO
      clear hO
      go_wp2
      refine ⟨⟨k + 1, by omega, by go_num, (by repeat (first | (with_reducible exact Ext.refl _) | (with_reducible refine Ext.setCell ?_ hBg _) | (with_reducible refine Ext.plus ?_ _))), Lib.hid (by
        have this := Fill.step (oSl_local (oFlat_local _)) (oSl_held (oFlat_held _)) (HF.out.ext (oSl_local (oFlat_local _)) (oSl_held (oFlat_held _)) (Ext.plus (.refl _) Y)) hlt (vs := [.slice a' l[k].length c']) rfl HO.out.1 HO.out.2.1 HO.out.2.2 HF.out (Nat.le_refl _) (Ext.plus (.refl _) Y) (by simp)
        rw [layCells_plus _ _ _ _ _ hog] at this
        rw [Nat.mul_one] at this
        exact this)⟩, by simp [intOf]; omega⟩
    · go_wp2
      obtain rfl : k = l.length := by omega
      obtain ⟨fp, hf⟩ := HF.out.done (by unfold maxLen; omega)
      go_ret
      exact ⟨_, _, rfl, (by repeat (first | exact Ext.refl _ | apply Ext.plus | apply Ext.alloc | apply Ext.drew)), hf⟩

set_option maxHeartbeats 1600000 in
theorem szSpanSS_any (v : Value) (l : List (List Spn)) (n : Nat) (w : World) (h : SlR w 1 rSpnSS v l) (hn : n ≤ 1048576) :
    Calls Try.prog 23 #[v, (.int .i64 n)] w fun e w' => e = .returned (.int .i64 (if szL List.length l ≤ n then ((n - szL List.length l : Nat) : Int) else -1)) ∧ Ext w w' := by
  obtain ⟨a, cap, rfl⟩ := h.len
  obtain ⟨_, hlc, hcm⟩ := slr_len h
  have hlm : l.length ≤ 9223372036854775807 := by unfold maxLen at hcm; omega
  clear hcm hlc
  have HS := Lib.hid h
  clear h
  generalize hG : (if szL List.length l ≤ n then ((n - szL List.length l : Nat) : Int) else -1) = G
  have HG := Lib.hid hG
  clear hG
  by_cases hlt : l.length ≤ n
  · have ht : decide ((n : Int) - (l.length : Int) < 0) = false := by simp; omega
    go_enter Try.func23, Try.ntmps23
    go_wp2
    go_loopw [1, 5] (fun lf i wr => ∃ k m : Nat, k ≤ l.length ∧ i = .int .i64 k ∧ lf = .int .i64 m ∧ m ≤ n ∧ Hid (m + l.length + ((l.take k).map List.length).sum = n) ∧ Ext w wr) (fun _ i _ => l.length - (intOf i).toNat)
    case atStart => exact ⟨0, n - l.length, Nat.zero_le _, rfl, by go_num, by omega, Lib.hid (by simp; omega), (by repeat (first | exact Ext.refl _ | apply Ext.plus | apply Ext.alloc | apply Ext.drew))⟩
    case round =>
      obtain ⟨k, m, hk, rfl, rfl, hm, HM, ⟨X, rfl⟩⟩ := hrel
      by_cases hlt2 : k < l.length
      · obtain ⟨b, off, rfl⟩ := slr_some HS.out hlt2
        obtain ⟨ho, vx, hsx, h0⟩ := sl_at HS.out hlt2
        obtain ⟨ax, cx, rfl⟩ := hsx.len
        have HV := Lib.hid hsx
        clear hsx
        have HT := Lib.hid (szL_take List.length hlt2)
        by_cases hfit : List.length l[k] ≤ m
        · have ht2 : decide (((m - List.length l[k] : Nat) : Int) < 0) = false := decide_eq_false (by omega)
          go_wp2_with fail
          refine (szSpanS_e _ l[k] _ _ (HV.out.ext rSpn_stable (by repeat (first | exact Ext.refl _ | apply Ext.plus | apply Ext.alloc | apply Ext.drew))) (by omega)).mono ?_
          rintro e _ ⟨rfl, ⟨Y, rfl⟩⟩
          rw [if_pos hfit]
          go_wp2
          exact ⟨⟨k + 1, m - List.length l[k], by omega, by go_num, rfl, by omega, Lib.hid (by rw [HT.out]; have := HM.out; omega), (by repeat (first | exact Ext.refl _ | apply Ext.plus | apply Ext.alloc | apply Ext.drew))⟩, by simp [intOf]; omega⟩
        · go_wp2_with fail
          refine (szSpanS_e _ l[k] _ _ (HV.out.ext rSpn_stable (by repeat (first | exact Ext.refl _ | apply Ext.plus | apply Ext.alloc | apply Ext.drew))) (by omega)).mono ?_
          rintro e _ ⟨rfl, ⟨Y, rfl⟩⟩
          rw [if_neg hfit]
          go_wp2
          go_ret
          exact ⟨ret_int (by rw [← HG.out, if_neg (by have h1 := szL_le List.length hlt2; have h2 := HM.out; omega)]), (by repeat (first | exact Ext.refl _ | apply Ext.plus | apply Ext.alloc | apply Ext.drew))⟩
      · go_wp2
        obtain rfl : k = l.length := by omega
        go_ret
        refine ⟨ret_int ?_, (by repeat (first | exact Ext.refl _ | apply Ext.plus | apply Ext.alloc | apply Ext.drew))⟩
        have h2 := HM.out
        have h3 := HG.out
        rw [List.take_length] at h2
        unfold szL at h3
        rw [if_pos (by omega)] at h3
        omega
  · have ht : decide ((n : Int) - (l.length : Int) < 0) = true := by simp; omega
    have HN : Hid (¬ szL List.length l ≤ n) := Lib.hid (fun h => hlt (Nat.le_trans (szL_len _ _) h))
    go_enter Try.func23, Try.ntmps23
    go_wp2
    go_ret
    exact ⟨ret_int (by rw [← HG.out, if_neg HN.out]), (by repeat (first | exact Ext.refl _ | apply Ext.plus | apply Ext.alloc | apply Ext.drew))⟩

set_option maxHeartbeats 1600000 in
theorem eqSpanSS_self (v v' : Value) (l : List (List Spn)) (w : World) (h : SlR w 1 rSpnSS v l) (h' : SlR w 1 rSpnSS v' l) :
    Calls Try.prog 29 #[v, v'] w fun e w' => e = .returned (.bool true) ∧ Ext w w' := by
  obtain ⟨ad, cap, rfl⟩ := h.len
  obtain ⟨ad', cap', rfl⟩ := h'.len
  obtain ⟨_, hlc, hcm⟩ := slr_len h
  have hlm : l.length ≤ 9223372036854775807 := by unfold maxLen at hcm; omega
  clear hcm hlc
  have HS1 := Lib.hid h
  have HS2 := Lib.hid h'
  clear h h'
  go_enter Try.func29, Try.ntmps29
  go_wp2
  go_loopw [5] (fun i wr => ∃ k : Nat, k ≤ l.length ∧ i = .int .i64 k ∧ Ext w wr) (fun i _ => l.length - (intOf i).toNat)
  case atStart => exact ⟨0, Nat.zero_le _, rfl, (by repeat (first | exact Ext.refl _ | apply Ext.plus | apply Ext.alloc | apply Ext.drew))⟩
  case round =>
    obtain ⟨k, hk, rfl, ⟨X, rfl⟩⟩ := hrel
    by_cases hlt : k < l.length
    · obtain ⟨b, off, rfl⟩ := slr_some HS1.out hlt
      obtain ⟨b', off', rfl⟩ := slr_some HS2.out hlt
      have HS := HS1
      obtain ⟨ho, vx, hsx, h0⟩ := sl_at HS.out hlt
      obtain ⟨ax, cx, rfl⟩ := hsx.len
      have HV := Lib.hid hsx
      clear hsx
      have HV1 := HV
      clear HS HV
      have HS := HS2
      obtain ⟨ho, vx, hsx, h0⟩ := sl_at HS.out hlt
      obtain ⟨ax, cx, rfl⟩ := hsx.len
      have HV := Lib.hid hsx
      clear hsx
      go_wp2_with fail
      (refine wp_region_x 10 (by kernel_rfl) (by kernel_rfl) (by kernel_rfl) ?_; (iterate 10 (apply XReg.step; (case h => (intro w' hw'; obtain ⟨X', rfl⟩ := hw'; go_wp2_with ((go_at_call 42; refine (eqSpanS_e _ _ l[k] _ (HV1.out.ext rSpn_stable (by repeat (first | exact Ext.refl _ | apply Ext.plus | apply Ext.alloc | apply Ext.drew))) (HV.out.ext rSpn_stable (by repeat (first | exact Ext.refl _ | apply Ext.plus | apply Ext.alloc | apply Ext.drew)))).mono ?_; rintro e _ ⟨rfl, Y3, rfl⟩)); exact ⟨rfl, (by repeat (first | exact Ext.refl _ | apply Ext.plus | apply Ext.alloc | apply Ext.drew))⟩)); (case hv => kernel_rfl))); refine XReg.doneN (fun X => ?_))
      go_wp2
      exact ⟨⟨k + 1, by omega, by go_num, (by repeat (first | exact Ext.refl _ | apply Ext.plus | apply Ext.alloc | apply Ext.drew))⟩, by simp [intOf]; omega⟩
    · go_wp2
      go_ret
      exact ⟨rfl, (by repeat (first | exact Ext.refl _ | apply Ext.plus | apply Ext.alloc | apply Ext.drew))⟩

theorem oSpanSS_r {w : World} {fp : List Nat} {v : Value} {l : List (List Spn)} (h : oSpanSS w fp [v] l) (hok : ∀ x ∈ l, ∀ y ∈ x, y.ok) : SlR w 1 rSpnSS v l := by
  obtain ⟨v', hv, hs⟩ := oSl_reads (r := fun w cs xs => ∃ v, cs = [v] ∧ SlR w 2 (fun _ cs x => cs = x.cells) v xs) (k := 1) (fun w fp cs xs ho => by
    obtain ⟨u, hu, hs⟩ := oSl_reads (r := fun _ cs x => cs = x.cells) (k := 2) (fun _ _ _ _ ⟨_, hc⟩ => ⟨by rw [hc]; rfl, hc⟩) ho
    exact ⟨by rw [hu]; rfl, u, hu, hs⟩) h
  obtain rfl : v = v' := by simpa using hv
  refine slr_with hs fun cs x hm ⟨u, hu, hs⟩ => ⟨u, hu, slr_with hs fun cs y hy hc => ⟨hc, hok x hm y hy⟩⟩
theorem slr_spnss {w : World} {v : Value} {l : List (List Spn)} (h : SlR w 1 rSpnSS v l) : ∀ x ∈ l, ∀ y ∈ x, y.ok := fun x hx y hy => by
  obtain ⟨_, u, _, hs⟩ := slr_all h x hx
  obtain ⟨_, hr⟩ := slr_all hs y hy
  exact hr.2

end Go.Proofs.Ytofpknobahccdaa
