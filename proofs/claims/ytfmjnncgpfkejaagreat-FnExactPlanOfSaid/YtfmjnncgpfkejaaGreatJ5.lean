/- The walks of JobsRight and its law. -/
import Derived.Test.YtfmjnncgpfkejaaGreatJ4
set_option maxRecDepth 100000
set_option linter.unusedVariables false
namespace Go.Proofs.YtfmjnncgpfkejaaGreat
open Go.ChangeShapes Go.WideShapes Go.ChangeAt Go.RowKit Go.Fin1

section
variable {H : Type} {enc : TypeId × Value → H} {w : World} {base : Nat} {spare : Nat → Bool} {held : Bool} {fuel : Nat} {cs : List Value} {x : DataW H × List MemPlace} {r : Reach} {b0 : Nat} {v : Value} {d : DataW H} {ps : List MemPlace}
theorem b_jobs (h : DataW.trod enc Tryz.prog w base spare held fuel 23 cs = some x) : ∃ v xs, cs = [v] ∧ SlR w 9 rJob v xs :=
  b_slice Tryz.underlying23 (by kernel_rfl) (by decide) (fun _ _ _ h => b_job h) h
theorem open_jobs (hv : Value.okWide Tryz.prog w r b0 23 v) (h : DataW.Trod enc Tryz.prog w base spare held 23 v d ps) : ∃ a : Arg (List Jb), v = a.v ∧ SlR w 9 rJob a.v a.x := slice_arg Tryz.underlying23 hv (fun _ _ _ h => b_jobs h) h
end

theorem SlR.take {α : Type} {w : World} {K n cap k : Nat} {r : World → List Value → α → Prop} {a : Option Addr} {xs : List α} (h : SlR w K r (.slice a n cap) xs) (hk : k ≤ xs.length) : SlR w K r (.slice a k cap) (xs.take k) := by
  obtain ⟨a', cap', hv, h1, h2, h3⟩ := h
  obtain ⟨rfl, rfl, rfl⟩ : a = a' ∧ n = xs.length ∧ cap = cap' := by simpa using hv
  refine ⟨a, cap, by simp [Nat.min_eq_left hk], by simp; omega, h2, fun i hi => ?_⟩
  have hi' : i < xs.length := by simp at hi; omega
  obtain ⟨b, off, cs, ha, hl, hc, hr⟩ := h3 i hi'
  exact ⟨b, off, cs, ha, hl, hc, by simpa using hr⟩

/-- How many jobs bear a label. -/
@[irreducible] def cntL (l : List Jb) (x : Lab) : Nat := (l.filter (fun j => sameL j.l x)).length
theorem cntL_step {l : List Jb} {x : Lab} {k : Nat} (hk : k < l.length) : cntL (l.take (k + 1)) x = cntL (l.take k) x + if sameL l[k].l x then 1 else 0 := by
  unfold cntL
  rw [List.take_succ_eq_append_getElem hk, List.filter_append, List.length_append]
  congr 1
  by_cases h : sameL l[k].l x <;> simp [h]
theorem cntL_le (l : List Jb) (x : Lab) : cntL l x ≤ l.length := by unfold cntL; exact List.length_filter_le _ _
theorem sameL_self (a : Lab) : sameL a a = true := by simp [sameL]

set_option maxHeartbeats 800000 in
theorem countOf_any (v : Value) (l : List Jb) (x : Lab) (w : World) (h : SlR w 9 rJob v l) :
    Calls Tryz.prog 88 #[v, .agg #[(.int .i64 x.lv), (.int .i64 x.st)]] w fun e w' => e = .returned (.int .i64 (cntL l x : Int)) ∧ Ext w w' := by
  obtain ⟨a, cap, rfl⟩ := h.len
  obtain ⟨_, hlc, hcm⟩ := slr_len h
  have hlm : l.length ≤ 9223372036854775807 := by unfold maxLen at hcm; omega
  clear hcm hlc
  have HS := Lib.hid h
  clear h
  go_enter Tryz.func88, Tryz.ntmps88
  go_wp2
  go_loopw [10, 5, 7] (fun i m _ wr => ∃ k : Nat, k ≤ l.length ∧ i = .int .i64 k ∧ m = .int .i64 (cntL (l.take k) x : Int) ∧ Ext (w.alloc (.cells #[(.int .i64 x.lv), (.int .i64 x.st)] 52)) wr) (fun i _ _ _ => l.length - (intOf i).toNat)
  case atStart => exact ⟨0, Nat.zero_le _, rfl, by rw [show cntL (l.take 0) x = 0 by unfold cntL; rfl]; rfl, (by repeat (first | exact Ext.refl _ | apply Ext.plus | apply Ext.alloc | apply Ext.drew))⟩
  case round =>
    obtain ⟨k, hk, rfl, rfl, ⟨X, rfl⟩⟩ := hrel
    by_cases hlt : k < l.length
    · obtain ⟨b, off, rfl⟩ := slr_some HS.out hlt
      obtain ⟨ho, an, cn, hok, hsn, c0, c1, c2, c3, c4, c5, c6, c7, c8⟩ := job_at HS.out hlt
      have HV : Hid (eJob w (l[k].val (.slice an l[k].nodes.length cn)) l[k]) := Lib.hid ⟨an, cn, rfl, hok, hsn⟩
      clear hsn
      have hc := cntL_le (l.take k) x
      have hc2 : (l.take k).length ≤ k := by simp; omega
      have HC := Lib.hid (cntL_step (x := x) hlt)
      cases hs : sameL ⟨l[k].l.lv, l[k].l.st⟩ ⟨x.lv, x.st⟩
      · have hs' : sameL l[k].l x = false := hs
        go_wp2
        exact ⟨⟨k + 1, by omega, by go_num, by rw [HC.out, hs']; rfl, (by repeat (first | exact Ext.refl _ | apply Ext.plus | apply Ext.alloc | apply Ext.drew))⟩, by simp [intOf]; omega⟩
      · have hs' : sameL l[k].l x = true := hs
        go_wp2
        exact ⟨⟨k + 1, by omega, by go_num, by rw [HC.out, hs']; go_num, (by repeat (first | exact Ext.refl _ | apply Ext.plus | apply Ext.alloc | apply Ext.drew))⟩, by simp [intOf]; omega⟩
    · go_wp2
      go_ret
      exact ⟨ret_int (by rw [show k = l.length by omega, List.take_length]), (by repeat (first | exact Ext.refl _ | apply Ext.plus | apply Ext.alloc | apply Ext.drew))⟩

set_option maxHeartbeats 800000 in
theorem l04Many_any (v : Value) (l : List Jb) (x : Lab) (w : World) (h : SlR w 9 rJob v l) :
    Calls Tryz.prog 77 #[v, .agg #[(.int .i64 x.lv), (.int .i64 x.st)]] w fun e w' => e = .returned (.int .i64 (cntL l x : Int)) ∧ Ext w w' := by
  obtain ⟨a, cap, rfl⟩ := h.len
  obtain ⟨_, hlc, hcm⟩ := slr_len h
  have hlm : l.length ≤ 9223372036854775807 := by unfold maxLen at hcm; omega
  clear hcm hlc
  have HS := Lib.hid h
  clear h
  go_enter Tryz.func77, Tryz.ntmps77
  go_wp2
  go_loopw [6, 5] (fun i m wr => ∃ k : Nat, k ≤ l.length ∧ i = .int .i64 k ∧ m = .int .i64 (cntL (l.take k) x : Int) ∧ Ext (w.alloc (.cells #[(.int .i64 x.lv), (.int .i64 x.st)] 52)) wr) (fun i _ _ => l.length - (intOf i).toNat)
  case atStart => exact ⟨0, Nat.zero_le _, rfl, by rw [show cntL (l.take 0) x = 0 by unfold cntL; rfl]; rfl, (by repeat (first | exact Ext.refl _ | apply Ext.plus | apply Ext.alloc | apply Ext.drew))⟩
  case round =>
    obtain ⟨k, hk, rfl, rfl, ⟨X, rfl⟩⟩ := hrel
    by_cases hlt : k < l.length
    · obtain ⟨b, off, rfl⟩ := slr_some HS.out hlt
      obtain ⟨ho, an, cn, hok, hsn, c0, c1, c2, c3, c4, c5, c6, c7, c8⟩ := job_at HS.out hlt
      have HV : Hid (eJob w (l[k].val (.slice an l[k].nodes.length cn)) l[k]) := Lib.hid ⟨an, cn, rfl, hok, hsn⟩
      clear hsn
      have hc := cntL_le (l.take k) x
      have hc2 : (l.take k).length ≤ k := by simp; omega
      have HC := Lib.hid (cntL_step (x := x) hlt)
      go_upto_region 5 with fail
      cases hs : sameL ⟨l[k].l.lv, l[k].l.st⟩ ⟨x.lv, x.st⟩
      all_goals (refine wp_region_x 7 (by kernel_rfl) (by kernel_rfl) (by kernel_rfl) ?_; (iterate 7 (apply XReg.step; (case h => (intro w' hw'; obtain ⟨X', rfl⟩ := hw'; go_wp2_with (fail); exact ⟨rfl, (by repeat (first | exact Ext.refl _ | apply Ext.plus | apply Ext.alloc | apply Ext.drew))⟩)); (case hv => kernel_rfl))); refine XReg.doneN (fun X => ?_))
      · have hs' : sameL l[k].l x = false := hs
        go_wp2
        exact ⟨⟨k + 1, by omega, by go_num, by rw [HC.out, hs']; rfl, (by repeat (first | exact Ext.refl _ | apply Ext.plus | apply Ext.alloc | apply Ext.drew))⟩, by simp [intOf]; omega⟩
      · have hs' : sameL l[k].l x = true := hs
        go_wp2
        exact ⟨⟨k + 1, by omega, by go_num, by rw [HC.out, hs']; go_num, (by repeat (first | exact Ext.refl _ | apply Ext.plus | apply Ext.alloc | apply Ext.drew))⟩, by simp [intOf]; omega⟩
    · go_wp2
      go_ret
      exact ⟨ret_int (by rw [show k = l.length by omega, List.take_length]), (by repeat (first | exact Ext.refl _ | apply Ext.plus | apply Ext.alloc | apply Ext.drew))⟩
end Go.Proofs.YtfmjnncgpfkejaaGreat
