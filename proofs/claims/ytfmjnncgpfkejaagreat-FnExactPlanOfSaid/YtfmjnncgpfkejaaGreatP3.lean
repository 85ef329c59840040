/- The walks of the laws' own helpers over slices of spans and of labels. -/
import Derived.Test.YtfmjnncgpfkejaaGreatBA
import Derived.Test.YtfmjnncgpfkejaaGreatBG
set_option maxRecDepth 100000
namespace Go.Proofs.YtfmjnncgpfkejaaGreat
open Go.RowKit Go.Fin1

theorem Fill.flat {α : Type} {B : Nat} {w : World} {g ty K k : Nat} {f : α → List Value} {xs : List α} (h : Fill B w g ty K (oFlat f) xs k) (hk : k < xs.length) (hl : (f xs[k]).length = K) :
    Fill B (w.layCells g (k * K) (f xs[k])) g ty K (oFlat f) xs (k + 1) :=
  Fill.step (oFlat_local f) (oFlat_held f) h hk (fp := []) hl ⟨rfl, rfl⟩ List.nodup_nil (M := max w.heap.size B) (by simp) h (Nat.le_max_left _ _) (.refl _) (Nat.le_max_right _ _)

theorem slr_with {α : Type} {w : World} {k : Nat} {r r' : World → List Value → α → Prop} {v : Value} {xs : List α} (h : SlR w k r v xs) (hr : ∀ cs x, x ∈ xs → r w cs x → r' w cs x) : SlR w k r' v xs := by
  obtain ⟨a, cap, hv, h1, h2, h3⟩ := h
  refine ⟨a, cap, hv, h1, h2, fun i hi => ?_⟩
  obtain ⟨b, off, cs, ha, hk, hc, hr'⟩ := h3 i hi
  exact ⟨b, off, cs, ha, hk, hc, hr _ _ (List.getElem_mem hi) hr'⟩
theorem slr_all {α : Type} {w : World} {k : Nat} {r : World → List Value → α → Prop} {v : Value} {xs : List α} (h : SlR w k r v xs) : ∀ x ∈ xs, ∃ cs, r w cs x := by
  obtain ⟨a, cap, hv, h1, h2, h3⟩ := h
  intro x hx
  obtain ⟨i, hi, rfl⟩ := List.mem_iff_getElem.1 hx
  obtain ⟨b, off, cs, ha, hk, hc, hr'⟩ := h3 i hi
  exact ⟨cs, hr'⟩







set_option maxHeartbeats 400000 in
theorem eqLabel_self (a b : Int) (w : World) :
    Calls Tryz.prog 62 #[.agg #[(.int .i64 a), (.int .i64 b)], .agg #[(.int .i64 a), (.int .i64 b)]] w fun e w' => e = .returned (.bool true) ∧ Ext w w' := by
  go_enter Tryz.func62, Tryz.ntmps62
  go_wp2
  all_goals go_ret
  all_goals exact ⟨rfl, (by repeat (first | exact Ext.refl _ | apply Ext.plus | apply Ext.alloc | apply Ext.drew))⟩



theorem info_Label : (Tryz.prog.info? 52).map (fun i => (i.zero, i.size, i.bytes)) = some (some (.agg #[(.int .i64 0), (.int .i64 0)]), 2, 16) := by kernel_rfl
theorem el_Label : ElemInfo Tryz.prog 79 52 2 16 := by
  obtain ⟨i, hi, hz, hs, hb⟩ := info_parts info_Label
  exact ⟨Tryz.underlying79, ⟨i, _, hi, hz, hs, hb, rfl⟩, by decide⟩

/-- The owner of a list of spans. -/
abbrev oLabelS : Ow (List Lab) := oSl 52 2 (oFlat Lab.cells)

set_option maxHeartbeats 800000 in
theorem toLabelS_any (v : Value) (l : List Lab) (w : World) (h : SlR w 2 rLab v l) (hl : l.length ≤ 1048576) :
    Calls Tryz.prog 53 #[v] w fun e w' => ∃ v' fp, e = .returned v' ∧ Ext w w' ∧ Own w.heap.size w' oLabelS fp [v'] l := by
  obtain ⟨ad, cap, rfl⟩ := h.len
  obtain ⟨_, hlc, hcm⟩ := slr_len h
  clear hcm hlc
  have HS := Lib.hid h
  clear h
  go_enter Tryz.func53, Tryz.ntmps53
  go_wp2_with (at_make; refine make_n el_Label rfl _ _ rfl w (Ext.refl _) l.length .i64 .i64 rfl rfl ?_ ?_ ?_; omega; (unfold maxLen; omega); intro X g cur hg hs hB; have HF := Lib.hid (Fill.start (xs := l) (o := oFlat Lab.cells) hg hs hB); clear hg hs hB)
  go_loopw [4] (fun i wr => ∃ k : Nat, k ≤ l.length ∧ i = .int .i64 k ∧ Ext w wr ∧ Hid (Fill w.heap.size wr g 52 2 (oFlat Lab.cells) l k)) (fun i _ => l.length - (intOf i).toNat)
  case atStart => exact ⟨0, Nat.zero_le _, rfl, (by repeat (first | exact Ext.refl _ | apply Ext.plus | apply Ext.alloc | apply Ext.drew)), HF⟩
  case round =>
    clear HF X
    obtain ⟨k, hk, rfl, ⟨X, rfl⟩, HF⟩ := hrel
    by_cases hlt : k < l.length
    · obtain ⟨b, off, rfl⟩ := slr_some HS.out hlt
      obtain ⟨ho, hok, h0, h1⟩ := lab_at HS.out hlt
      obtain ⟨hog, hBg, hfz⟩ := HF.out.old
      obtain ⟨y0, hc0⟩ := HF.out.cell hlt (q := 0) (by decide)
      obtain ⟨y1, hc1⟩ := HF.out.cell hlt (q := 1) (by decide)
      rw [Nat.add_zero] at hc0
      go_wp2_with ((go_at_call 81; refine (toLabel_any _ _ _).mono ?_; rintro e _ ⟨rfl, X, rfl⟩))
      refine ⟨⟨k + 1, by omega, by go_num, .plus (.setCell (.setCell (by repeat (first | exact Ext.refl _ | apply Ext.plus | apply Ext.alloc | apply Ext.drew)) hBg _) hBg _) _, Lib.hid ((Fill.flat (hl := rfl) HF.out hlt).ext (oFlat_local _) (oFlat_held _) (Ext.plus (.refl _) _))⟩, by simp [intOf]; omega⟩
    · go_wp2
      obtain rfl : k = l.length := by omega
      obtain ⟨fp, hf⟩ := HF.out.done (by unfold maxLen; omega)
      go_ret
      exact ⟨_, _, rfl, (by repeat (first | exact Ext.refl _ | apply Ext.plus | apply Ext.alloc | apply Ext.drew)), hf⟩

/-- What toLabelS hands back reads as what it was given. -/
theorem toLabelS_r (v : Value) (l : List Lab) (w : World) (h : SlR w 2 rLab v l) (hl : l.length ≤ 1048576) :
    Calls Tryz.prog 53 #[v] w fun e w' => ∃ v', e = .returned v' ∧ Ext w w' ∧ SlR w' 2 rLab v' l := by
  refine (toLabelS_any v l w h hl).mono ?_
  rintro e w' ⟨v', fp, rfl, hx, ho⟩
  obtain ⟨v'', hv, hs⟩ := oSl_reads (r := fun _ cs x => cs = x.cells) (k := 2) (fun _ _ _ _ ⟨_, hc⟩ => ⟨by rw [hc]; rfl, hc⟩) ho.1
  obtain rfl : v' = v'' := by simpa using hv
  refine ⟨v', rfl, hx, slr_with hs fun cs x hm hc => ⟨hc, ?_⟩⟩
  obtain ⟨_, hr⟩ := slr_all h x hm
  exact hr.2

set_option maxHeartbeats 400000 in
theorem szLabelS_any (v : Value) (l : List Lab) (n : Nat) (w : World) (h : SlR w 2 rLab v l) (hn : n ≤ 1048576) :
    Calls Tryz.prog 41 #[v, (.int .i64 n)] w fun e w' => e = .returned (.int .i64 (if l.length ≤ n then ((n - l.length : Nat) : Int) else -1)) ∧ w = w' := by
  obtain ⟨a, cap, rfl⟩ := h.len
  obtain ⟨_, hlc, hcm⟩ := slr_len h
  have hlm : l.length ≤ 9223372036854775807 := by unfold maxLen at hcm; omega
  clear hcm hlc h
  by_cases hlt : l.length ≤ n
  · rw [if_pos hlt]
    have ht : decide ((n : Int) - (l.length : Int) < 0) = false := by simp; omega
    go_enter Tryz.func41, Tryz.ntmps41
    go_wp2
    go_ret
    exact ⟨ret_int (by omega), rfl⟩
  · rw [if_neg hlt]
    have ht : decide ((n : Int) - (l.length : Int) < 0) = true := by simp; omega
    go_enter Tryz.func41, Tryz.ntmps41
    go_wp2
    go_ret
    exact ⟨rfl, rfl⟩

set_option maxHeartbeats 800000 in
theorem eqLabelS_self (v v' : Value) (l : List Lab) (w : World) (h : SlR w 2 rLab v l) (h' : SlR w 2 rLab v' l) :
    Calls Tryz.prog 64 #[v, v'] w fun e w' => e = .returned (.bool true) ∧ Ext w w' := by
  obtain ⟨ad, cap, rfl⟩ := h.len
  obtain ⟨ad', cap', rfl⟩ := h'.len
  obtain ⟨_, hlc, hcm⟩ := slr_len h
  have hlm : l.length ≤ 9223372036854775807 := by unfold maxLen at hcm; omega
  clear hcm hlc
  have HS := Lib.hid h
  have HS' := Lib.hid h'
  clear h h'
  go_enter Tryz.func64, Tryz.ntmps64
  go_wp2
  go_loopw [5] (fun i wr => ∃ k : Nat, k ≤ l.length ∧ i = .int .i64 k ∧ Ext w wr) (fun i _ => l.length - (intOf i).toNat)
  case atStart => exact ⟨0, Nat.zero_le _, rfl, (by repeat (first | exact Ext.refl _ | apply Ext.plus | apply Ext.alloc | apply Ext.drew))⟩
  case round =>
    obtain ⟨k, hk, rfl, ⟨X, rfl⟩⟩ := hrel
    by_cases hlt : k < l.length
    · obtain ⟨b, off, rfl⟩ := slr_some HS.out hlt
      obtain ⟨b', off', rfl⟩ := slr_some HS'.out hlt
      obtain ⟨ho, hok, h0, h1⟩ := lab_at HS.out hlt
      obtain ⟨ho', _, h0', h1'⟩ := lab_at HS'.out hlt
      go_wp2_with fail
      (refine wp_region_x 10 (by kernel_rfl) (by kernel_rfl) (by kernel_rfl) ?_; (iterate 10 (apply XReg.step; (case h => (intro w' hw'; obtain ⟨X', rfl⟩ := hw'; go_wp2_with ((go_at_call 62; refine (eqLabel_self _ _ _).mono ?_; rintro e _ ⟨rfl, X, rfl⟩)); exact ⟨rfl, (by repeat (first | exact Ext.refl _ | apply Ext.plus | apply Ext.alloc | apply Ext.drew))⟩)); (case hv => kernel_rfl))); refine XReg.doneN (fun X => ?_))
      go_wp2
      exact ⟨⟨k + 1, by omega, by go_num, (by repeat (first | exact Ext.refl _ | apply Ext.plus | apply Ext.alloc | apply Ext.drew))⟩, by simp [intOf]; omega⟩
    · go_wp2
      go_ret
      exact ⟨rfl, (by repeat (first | exact Ext.refl _ | apply Ext.plus | apply Ext.alloc | apply Ext.drew))⟩

end Go.Proofs.YtfmjnncgpfkejaaGreat
