/- The walks of the laws' own helpers over lists of integers and over jobs. -/
import Derived.Test.YtfmjnncgpfkejaaGreatJ1
import Derived.Test.YtfmjnncgpfkejaaGreatBA
set_option maxRecDepth 100000
set_option linter.unusedVariables false
namespace Go.Proofs.YtfmjnncgpfkejaaGreat
open Go.RowKit Go.Fin1

theorem info_Int : (Tryz.prog.info? 2).map (fun i => (i.zero, i.size, i.bytes)) = some (some (.int .i64 0), 1, 8) := by kernel_rfl
theorem el_Int : ElemInfo Tryz.prog 53 2 1 8 := by
  obtain ⟨i, hi, hz, hs, hb⟩ := info_parts info_Int
  exact ⟨Tryz.underlying53, ⟨i, _, hi, hz, hs, hb, rfl⟩, by decide⟩
def intCell (n : Int) : List Value := [(.int .i64 n)]
/-- The owner of a list of integers. -/
abbrev oIntS : Ow (List Int) := oSl 2 1 (oFlat intCell)
theorem oIntS_local : Local oIntS := oSl_local (oFlat_local _)
theorem oIntS_held : Held oIntS := oSl_held (oFlat_held _)
theorem oIntS_r {w : World} {fp : List Nat} {v : Value} {l : List Int} (h : oIntS w fp [v] l) (hl : ∀ x ∈ l, I64 x) : SlR w 1 rInt v l := by
  obtain ⟨v', hv, hs⟩ := oSl_reads (r := fun _ cs x => cs = [(.int .i64 x)]) (k := 1) (fun _ _ _ _ ⟨_, hc⟩ => ⟨by rw [hc]; rfl, hc⟩) h
  obtain rfl : v = v' := by simpa using hv
  exact slr_with hs fun cs x hm hc => ⟨hc, hl x hm⟩

set_option maxHeartbeats 800000 in
theorem toInt64S_any (v : Value) (l : List Int) (w : World) (h : SlR w 1 rInt v l) (hl : l.length ≤ 1048576) :
    Calls Tryz.prog 82 #[v] w fun e w' => ∃ v' fp, e = .returned v' ∧ Ext w w' ∧ Own w.heap.size w' oIntS fp [v'] l := by
  obtain ⟨ad, cap, rfl⟩ := h.len
  obtain ⟨_, hlc, hcm⟩ := slr_len h
  clear hcm hlc
  have HS := Lib.hid h
  clear h
  go_enter Tryz.func82, Tryz.ntmps82
  go_wp2_with (at_make; refine make_n el_Int rfl _ _ rfl w (Ext.refl _) l.length .i64 .i64 rfl rfl ?_ ?_ ?_; omega; (unfold maxLen; omega); intro X g cur hg hs hB; have HF := Lib.hid (Fill.start (xs := l) (o := oFlat intCell) hg hs hB); clear hg hs hB)
  go_loopw [4] (fun i wr => ∃ k : Nat, k ≤ l.length ∧ i = .int .i64 k ∧ Ext w wr ∧ Hid (Fill w.heap.size wr g 2 1 (oFlat intCell) l k)) (fun i _ => l.length - (intOf i).toNat)
  case atStart => exact ⟨0, Nat.zero_le _, rfl, (by repeat (first | exact Ext.refl _ | apply Ext.plus | apply Ext.alloc | apply Ext.drew)), HF⟩
  case round =>
    clear HF X
    obtain ⟨k, hk, rfl, ⟨X, rfl⟩, HF⟩ := hrel
    by_cases hlt : k < l.length
    · obtain ⟨b, off, rfl⟩ := slr_some HS.out hlt
      obtain ⟨ho, hok, h0⟩ := int_at HS.out hlt
      obtain ⟨hog, hBg, hfz⟩ := HF.out.old
      obtain ⟨y0, hc0⟩ := HF.out.cell hlt (q := 0) (by decide)
      rw [Nat.add_zero, Nat.mul_one] at hc0
      go_wp2
      refine ⟨⟨k + 1, by omega, by go_num, .setCell (by repeat (first | exact Ext.refl _ | apply Ext.plus | apply Ext.alloc | apply Ext.drew)) hBg _, Lib.hid (by have := Fill.flat (hl := rfl) HF.out hlt; rw [Nat.mul_one] at this; exact this)⟩, by simp [intOf]; omega⟩
    · go_wp2
      obtain rfl : k = l.length := by omega
      obtain ⟨fp, hf⟩ := HF.out.done (by unfold maxLen; omega)
      go_ret
      exact ⟨_, _, rfl, (by repeat (first | exact Ext.refl _ | apply Ext.plus | apply Ext.alloc | apply Ext.drew)), hf⟩

set_option maxHeartbeats 400000 in
theorem szInt64S_any (v : Value) (l : List Int) (n : Nat) (w : World) (h : SlR w 1 rInt v l) (hn : n ≤ 1048576) :
    Calls Tryz.prog 74 #[v, (.int .i64 n)] w fun e w' => e = .returned (.int .i64 (if l.length ≤ n then ((n - l.length : Nat) : Int) else -1)) ∧ w = w' := by
  obtain ⟨a, cap, rfl⟩ := h.len
  obtain ⟨_, hlc, hcm⟩ := slr_len h
  have hlm : l.length ≤ 9223372036854775807 := by unfold maxLen at hcm; omega
  clear hcm hlc h
  by_cases hlt : l.length ≤ n
  · rw [if_pos hlt]
    have ht : decide ((n : Int) - (l.length : Int) < 0) = false := by simp; omega
    go_enter Tryz.func74, Tryz.ntmps74
    go_wp2
    go_ret
    exact ⟨ret_int (by omega), rfl⟩
  · rw [if_neg hlt]
    have ht : decide ((n : Int) - (l.length : Int) < 0) = true := by simp; omega
    go_enter Tryz.func74, Tryz.ntmps74
    go_wp2
    go_ret
    exact ⟨rfl, rfl⟩

set_option maxHeartbeats 800000 in
theorem eqInt64S_self (v v' : Value) (l : List Int) (w : World) (h : SlR w 1 rInt v l) (h' : SlR w 1 rInt v' l) :
    Calls Tryz.prog 63 #[v, v'] w fun e w' => e = .returned (.bool true) ∧ Ext w w' := by
  obtain ⟨ad, cap, rfl⟩ := h.len
  obtain ⟨ad', cap', rfl⟩ := h'.len
  obtain ⟨_, hlc, hcm⟩ := slr_len h
  have hlm : l.length ≤ 9223372036854775807 := by unfold maxLen at hcm; omega
  clear hcm hlc
  have HS := Lib.hid h
  have HS' := Lib.hid h'
  clear h h'
  go_enter Tryz.func63, Tryz.ntmps63
  go_wp2
  go_loopw [5] (fun i wr => ∃ k : Nat, k ≤ l.length ∧ i = .int .i64 k ∧ Ext w wr) (fun i _ => l.length - (intOf i).toNat)
  case atStart => exact ⟨0, Nat.zero_le _, rfl, (by repeat (first | exact Ext.refl _ | apply Ext.plus | apply Ext.alloc | apply Ext.drew))⟩
  case round =>
    obtain ⟨k, hk, rfl, ⟨X, rfl⟩⟩ := hrel
    by_cases hlt : k < l.length
    · obtain ⟨b, off, rfl⟩ := slr_some HS.out hlt
      obtain ⟨b', off', rfl⟩ := slr_some HS'.out hlt
      obtain ⟨ho, hok, h0⟩ := int_at HS.out hlt
      obtain ⟨ho', _, h0'⟩ := int_at HS'.out hlt
      go_wp2_with fail
      (refine wp_region_x 9 (by kernel_rfl) (by kernel_rfl) (by kernel_rfl) ?_; (iterate 9 (apply XReg.step; (case h => (intro w' hw'; obtain ⟨X', rfl⟩ := hw'; go_wp2_with (fail); exact ⟨rfl, (by repeat (first | exact Ext.refl _ | apply Ext.plus | apply Ext.alloc | apply Ext.drew))⟩)); (case hv => kernel_rfl))); refine XReg.doneN (fun X => ?_))
      go_wp2
      exact ⟨⟨k + 1, by omega, by go_num, (by repeat (first | exact Ext.refl _ | apply Ext.plus | apply Ext.alloc | apply Ext.drew))⟩, by simp [intOf]; omega⟩
    · go_wp2
      go_ret
      exact ⟨rfl, (by repeat (first | exact Ext.refl _ | apply Ext.plus | apply Ext.alloc | apply Ext.drew))⟩

/-- The owner of a job. -/
def oJob : Ow Jb := fun w fp cs j => ∃ v, cs = j.cells v ∧ oIntS w fp [v] j.nodes
theorem oJob_local : Local oJob := fun w w' fp cs j hb ⟨v, hv, h⟩ => ⟨v, hv, oIntS_local w w' fp _ _ hb h⟩
theorem oJob_held : Held oJob := fun w fp cs j ⟨v, hv, h⟩ => oIntS_held w fp _ _ h
theorem oJob_r {w : World} {fp : List Nat} {cs : List Value} {j : Jb} (h : oJob w fp cs j) (hok : j.ok) (hn : ∀ x ∈ j.nodes, I64 x) : rJob w cs j := by
  obtain ⟨v, hv, h⟩ := h
  exact ⟨v, hv, hok, oIntS_r h hn⟩
def Jb.fit (j : Jb) : Prop := j.ok ∧ ∀ x ∈ j.nodes, I64 x

set_option maxHeartbeats 1600000 in
theorem toJob_any (j : Jb) (nv : Value) (w : World) (h : SlR w 1 rInt nv j.nodes) (hl : j.nodes.length ≤ 1048576) :
    Calls Tryz.prog 54 #[j.val nv] w fun e w' => ∃ v' fp, e = .returned (j.val v') ∧ Ext w w' ∧ Own w.heap.size w' oIntS fp [v'] j.nodes := by
  obtain ⟨⟨lv, st⟩, id, need, long, prio, state, start, nodes⟩ := j
  have HS := Lib.hid h
  clear h
  unfold Jb.val
  simp only at hl HS ⊢
  go_enter Tryz.func54, Tryz.ntmps54
  go_wp2_with ((go_at_call 81; refine (toLabel_any _ _ _).mono ?_; rintro e _ ⟨rfl, X, rfl⟩))
  refine (toInt64S_any _ nodes _ (HS.out.ext rInt_stable (by repeat (first | exact Ext.refl _ | apply Ext.plus | apply Ext.alloc | apply Ext.drew))) hl).mono ?_
  rintro e _ ⟨v', fp, rfl, ⟨Y, rfl⟩, hO⟩
  obtain ⟨a', cap', rfl⟩ := hO.shape
  have HO := Lib.hid hO
  clear hO
  go_wp2
  exact bodyPost_ret (v := .agg #[(.int .i64 lv), (.int .i64 st), (.int .i64 id), (.int .i64 need), (.int .i64 long), (.int .i64 prio), (.int .i64 state), (.int .i64 start), .slice a' nodes.length cap']) (by simp [results, Tryz.results54, go_sem]) rfl ⟨_, _, rfl, (by repeat (first | exact Ext.refl _ | apply Ext.plus | apply Ext.alloc | apply Ext.drew)), (HO.out.swap oIntS_local (Nat.le_refl _) (by simp)).mono (by simp; omega)⟩
end Go.Proofs.YtfmjnncgpfkejaaGreat
