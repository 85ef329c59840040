/- Letters: how one reads as plain words; the laws' own helpers over lists of letters. -/
import Derived.Test.YtkekfncgpbileaaJ4
set_option maxRecDepth 100000
set_option linter.unusedVariables false
namespace Go.Proofs.Ytkekfncgpbileaa
open Go.ChangeShapes Go.WideShapes Go.ChangeAt Go.RowKit Go.Fin1

/-- A letter: two labels and two whole numbers. -/
structure Ltr where
  a : Lab
  b : Lab
  p : Int
  q : Int
def Ltr.ok (x : Ltr) : Prop := x.a.ok ∧ x.b.ok ∧ I64 x.p ∧ I64 x.q
def Ltr.cells (x : Ltr) : List Value := [(.int .i64 x.a.lv), (.int .i64 x.a.st), (.int .i64 x.b.lv), (.int .i64 x.b.st), (.int .i64 x.p), (.int .i64 x.q)]
def Ltr.val (x : Ltr) : Value := .agg #[(.int .i64 x.a.lv), (.int .i64 x.a.st), (.int .i64 x.b.lv), (.int .i64 x.b.st), (.int .i64 x.p), (.int .i64 x.q)]
def rLtr : World → List Value → Ltr → Prop := fun _ cs x => cs = x.cells ∧ x.ok
theorem rLtr_stable : Stable rLtr := fun _ _ _ _ _ h => h
theorem ltr_at {w : World} {b off n cap : Nat} {xs : List Ltr} (h : SlR w 6 rLtr (.slice (some ⟨b, off, none⟩) n cap) xs) {i : Nat} (hi : i < xs.length) :
    w.old b ∧ xs[i].ok ∧ w.cell? ⟨b, off + i * 6, none⟩ = some (.int .i64 xs[i].a.lv) ∧ w.cell? ⟨b, off + i * 6 + 1, none⟩ = some (.int .i64 xs[i].a.st) ∧ w.cell? ⟨b, off + i * 6 + 2, none⟩ = some (.int .i64 xs[i].b.lv) ∧ w.cell? ⟨b, off + i * 6 + 3, none⟩ = some (.int .i64 xs[i].b.st) ∧ w.cell? ⟨b, off + i * 6 + 4, none⟩ = some (.int .i64 xs[i].p) ∧ w.cell? ⟨b, off + i * 6 + 5, none⟩ = some (.int .i64 xs[i].q) := by
  obtain ⟨cs, _, hc, rfl, hok⟩ := slr_cells h hi
  have h0 := hc 0 _ rfl
  exact ⟨World.old_of_cell h0, hok, h0, hc 1 _ rfl, hc 2 _ rfl, hc 3 _ rfl, hc 4 _ rfl, hc 5 _ rfl⟩

section
variable {H : Type} {enc : TypeId × Value → H} {w : World} {base : Nat} {spare : Nat → Bool} {held : Bool} {fuel : Nat} {cs : List Value} {x : DataW H × List MemPlace}
theorem lenL6 {α : Type} {l : List α} (h : l.length = 6) : ∃ a b c d e f, l = [a, b, c, d, e, f] := by match l, h with | [a, b, c, d, e, f], _ => exact ⟨a, b, c, d, e, f, rfl⟩
theorem lenL4 {α : Type} {l : List α} (h : l.length = 4) : ∃ a b c d, l = [a, b, c, d] := by match l, h with | [a, b, c, d], _ => exact ⟨a, b, c, d, rfl⟩
theorem b_ltr (h : DataW.trod enc Try.prog w base spare held fuel 153 cs = some x) : ∃ a : Ltr, rLtr w cs a := by
  obtain ⟨xs, n, _, _, hl, hx, hf⟩ := DataW.trod_struct Try.underlying153 h
  obtain ⟨c0, c1, c2, c3, c4, c5, rfl⟩ := lenL6 (hl.trans (by kernel_rfl))
  obtain ⟨y0, y1, y2, y3, rfl⟩ := lenL4 hx
  obtain ⟨a0, h0, i0⟩ := b_lab (hf 0 _ rfl)
  obtain ⟨a1, h1, i1⟩ := b_lab (hf 1 _ rfl)
  obtain ⟨a2, h2, i2⟩ := b_int (hf 2 _ rfl)
  obtain ⟨a3, h3, i3⟩ := b_int (hf 3 _ rfl)
  have e : Try.prog.cellsOf 2 = 1 := by kernel_rfl
  have e' : Try.prog.cellsOf 26 = 2 := by kernel_rfl
  simp [e, e', Lab.cells] at h0 h1 h2 h3
  exact ⟨⟨a0, a1, a2, a3⟩, by simp [Ltr.cells, h0, h1, h2, h3], i0, i1, i2, i3⟩
theorem b_ltrs (h : DataW.trod enc Try.prog w base spare held fuel 22 cs = some x) : ∃ v xs, cs = [v] ∧ SlR w 6 rLtr v xs :=
  b_slice Try.underlying22 (by kernel_rfl) (by decide) (fun _ _ _ h => b_ltr h) h
end

set_option maxHeartbeats 800000 in
theorem toLetter_any (x : Ltr) (w : World) :
    Calls Try.prog 131 #[x.val] w fun e w' => e = .returned x.val ∧ Ext w w' := by
  unfold Ltr.val
  go_enter Try.func131, Try.ntmps131
  go_wp2_with ((go_at_call 13; refine (toLabel_any _ _ _).mono ?_; rintro e _ ⟨rfl, X, rfl⟩))
  exact bodyPost_ret (v := .agg #[(.int .i64 x.a.lv), (.int .i64 x.a.st), (.int .i64 x.b.lv), (.int .i64 x.b.st), (.int .i64 x.p), (.int .i64 x.q)]) (by simp [results, Try.results131, go_sem]) rfl ⟨rfl, (by repeat' (first | exact Ext.refl _ | exact Nat.le_refl _ | (dsimp only; omega) | apply Ext.setCell | apply Ext.plus | apply Ext.alloc | apply Ext.drew))⟩

set_option maxHeartbeats 800000 in
theorem eqLetter_self (x : Ltr) (w : World) :
    Calls Try.prog 134 #[x.val, x.val] w fun e w' => e = .returned (.bool true) ∧ Ext w w' := by
  unfold Ltr.val
  go_enter Try.func134, Try.ntmps134
  go_wp2_with ((go_at_call 127; refine (eqLabel_self _ _ _).mono ?_; rintro e _ ⟨rfl, X, rfl⟩))
  all_goals go_ret
  all_goals exact ⟨rfl, (by repeat (first | exact Ext.refl _ | apply Ext.plus | apply Ext.alloc | apply Ext.drew))⟩
theorem info_Letter : (Try.prog.info? 100).map (fun i => (i.zero, i.size, i.bytes)) = some (some (.agg #[(.int .i64 0), (.int .i64 0), (.int .i64 0), (.int .i64 0), (.int .i64 0), (.int .i64 0)]), 6, 48) := by kernel_rfl
theorem el_Letter : ElemInfo Try.prog 28 100 6 48 := by
  obtain ⟨i, hi, hz, hs, hb⟩ := info_parts info_Letter
  exact ⟨Try.underlying28, ⟨i, _, hi, hz, hs, hb, rfl⟩, by decide⟩
/-- The owner of a list of letters. -/
abbrev oLetterS : Ow (List Ltr) := oSl 100 6 (oFlat Ltr.cells)

set_option maxHeartbeats 1600000 in
theorem toLetterS_any (v : Value) (l : List Ltr) (w : World) (h : SlR w 6 rLtr v l) (hl : l.length ≤ 1048576) :
    Calls Try.prog 66 #[v] w fun e w' => ∃ v' fp, e = .returned v' ∧ Ext w w' ∧ Own w.heap.size w' oLetterS fp [v'] l := by
  obtain ⟨ad, cap, rfl⟩ := h.len
  obtain ⟨_, hlc, hcm⟩ := slr_len h
  clear hcm hlc
  have HS := Lib.hid h
  clear h
  go_enter Try.func66, Try.ntmps66
  go_wp2_with (at_make; refine make_n el_Letter rfl _ _ rfl w (Ext.refl _) l.length .i64 .i64 rfl rfl ?_ ?_ ?_; omega; (unfold maxLen; omega); intro X g cur hg hs hB; have HF := Lib.hid (Fill.start (xs := l) (o := oFlat Ltr.cells) hg hs hB); clear hg hs hB)
  go_loopw [4] (fun i wr => ∃ k : Nat, k ≤ l.length ∧ i = .int .i64 k ∧ Ext w wr ∧ Hid (Fill w.heap.size wr g 100 6 (oFlat Ltr.cells) l k)) (fun i _ => l.length - (intOf i).toNat)
  case atStart => exact ⟨0, Nat.zero_le _, rfl, (by repeat (first | exact Ext.refl _ | apply Ext.plus | apply Ext.alloc | apply Ext.drew)), HF⟩
  case round =>
    clear HF X
    obtain ⟨k, hk, rfl, ⟨X, rfl⟩, HF⟩ := hrel
    by_cases hlt : k < l.length
    · obtain ⟨b, off, rfl⟩ := slr_some HS.out hlt
      obtain ⟨ho, hok, h0, h1, h2, h3, h4, h5⟩ := ltr_at HS.out hlt
      obtain ⟨hog, hBg, hfz⟩ := HF.out.old
      obtain ⟨y0, d0⟩ := HF.out.cell hlt (q := 0) (by decide)
      obtain ⟨y1, d1⟩ := HF.out.cell hlt (q := 1) (by decide)
      obtain ⟨y2, d2⟩ := HF.out.cell hlt (q := 2) (by decide)
      obtain ⟨y3, d3⟩ := HF.out.cell hlt (q := 3) (by decide)
      obtain ⟨y4, d4⟩ := HF.out.cell hlt (q := 4) (by decide)
      obtain ⟨y5, d5⟩ := HF.out.cell hlt (q := 5) (by decide)
      rw [Nat.add_zero] at d0
      go_wp2_with fail
      refine (toLetter_any l[k] _).mono ?_
      rintro e _ ⟨rfl, Y, rfl⟩
      unfold Ltr.val
      go_wp2
      refine ⟨⟨k + 1, by omega, by go_num, (by repeat (first | (with_reducible exact Ext.refl _) | (with_reducible refine Ext.setCell ?_ hBg _) | (with_reducible refine Ext.plus ?_ _))), Lib.hid (by
        have this := (Fill.flat (hl := rfl) HF.out hlt).ext (oFlat_local _) (oFlat_held _) (Ext.plus (.refl _) Y)
        simp only [Ltr.cells, World.layCells, Nat.add_assoc, Nat.reduceAdd] at this
        exact this)⟩, by simp [intOf]; omega⟩
    · go_wp2
      obtain rfl : k = l.length := by omega
      obtain ⟨fp, hf⟩ := HF.out.done (by unfold maxLen; omega)
      go_ret
      exact ⟨_, _, rfl, (by repeat (first | exact Ext.refl _ | apply Ext.plus | apply Ext.alloc | apply Ext.drew)), hf⟩

/-- What it hands back reads as what it was given. -/
theorem oLetterS_r {w : World} {fp : List Nat} {v : Value} {l : List Ltr} (h : oLetterS w fp [v] l) (hok : ∀ x ∈ l, x.ok) : SlR w 6 rLtr v l := by
  obtain ⟨v'', hv, hs⟩ := oSl_reads (r := fun _ cs x => cs = x.cells) (k := 6) (fun _ _ _ _ ⟨_, hc⟩ => ⟨by rw [hc]; rfl, hc⟩) h
  obtain rfl : v = v'' := by simpa using hv
  exact slr_with hs fun cs x hm hc => ⟨hc, hok x hm⟩
theorem slr_ltrs {w : World} {v : Value} {l : List Ltr} (h : SlR w 6 rLtr v l) : ∀ x ∈ l, x.ok := fun x hx => by
  obtain ⟨_, hr⟩ := slr_all h x hx
  exact hr.2

set_option maxHeartbeats 400000 in
theorem szLetterS_any (v : Value) (l : List Ltr) (n : Nat) (w : World) (h : SlR w 6 rLtr v l) (hn : n ≤ 1048576) :
    Calls Try.prog 62 #[v, (.int .i64 n)] w fun e w' => e = .returned (.int .i64 (if l.length ≤ n then ((n - l.length : Nat) : Int) else -1)) ∧ w = w' := by
  obtain ⟨a, cap, rfl⟩ := h.len
  obtain ⟨_, hlc, hcm⟩ := slr_len h
  have hlm : l.length ≤ 9223372036854775807 := by unfold maxLen at hcm; omega
  clear hcm hlc h
  by_cases hlt : l.length ≤ n
  · rw [if_pos hlt]
    have ht : decide ((n : Int) - (l.length : Int) < 0) = false := by simp; omega
    go_enter Try.func62, Try.ntmps62
    go_wp2
    go_ret
    exact ⟨ret_int (by omega), rfl⟩
  · rw [if_neg hlt]
    have ht : decide ((n : Int) - (l.length : Int) < 0) = true := by simp; omega
    go_enter Try.func62, Try.ntmps62
    go_wp2
    go_ret
    exact ⟨rfl, rfl⟩

set_option maxHeartbeats 800000 in
theorem eqLetterS_self (v v' : Value) (l : List Ltr) (w : World) (h : SlR w 6 rLtr v l) (h' : SlR w 6 rLtr v' l) :
    Calls Try.prog 70 #[v, v'] w fun e w' => e = .returned (.bool true) ∧ Ext w w' := by
  obtain ⟨ad, cap, rfl⟩ := h.len
  obtain ⟨ad', cap', rfl⟩ := h'.len
  obtain ⟨_, hlc, hcm⟩ := slr_len h
  have hlm : l.length ≤ 9223372036854775807 := by unfold maxLen at hcm; omega
  clear hcm hlc
  have HS := Lib.hid h
  have HS' := Lib.hid h'
  clear h h'
  go_enter Try.func70, Try.ntmps70
  go_wp2
  go_loopw [5] (fun i wr => ∃ k : Nat, k ≤ l.length ∧ i = .int .i64 k ∧ Ext w wr) (fun i _ => l.length - (intOf i).toNat)
  case atStart => exact ⟨0, Nat.zero_le _, rfl, (by repeat (first | exact Ext.refl _ | apply Ext.plus | apply Ext.alloc | apply Ext.drew))⟩
  case round =>
    obtain ⟨k, hk, rfl, ⟨X, rfl⟩⟩ := hrel
    by_cases hlt : k < l.length
    · obtain ⟨b, off, rfl⟩ := slr_some HS.out hlt
      obtain ⟨b', off', rfl⟩ := slr_some HS'.out hlt
      obtain ⟨ho, hok, h0, h1, h2, h3, h4, h5⟩ := ltr_at HS.out hlt
      obtain ⟨ho', _, h0', h1', h2', h3', h4', h5'⟩ := ltr_at HS'.out hlt
      go_upto_region 6 with fail
      (refine wp_region_x 10 (by kernel_rfl) (by kernel_rfl) (by kernel_rfl) ?_; (iterate 10 (apply XReg.step; (case h => (intro w' hw'; obtain ⟨X', rfl⟩ := hw'; go_wp2_with ((go_at_call 134; refine (eqLetter_self l[k] _).mono ?_; rintro e _ ⟨rfl, Y, rfl⟩)); exact ⟨rfl, (by repeat (first | exact Ext.refl _ | apply Ext.plus | apply Ext.alloc | apply Ext.drew))⟩)); (case hv => kernel_rfl))); refine XReg.doneN (fun X => ?_))
      go_wp2
      exact ⟨⟨k + 1, by omega, by go_num, (by repeat (first | exact Ext.refl _ | apply Ext.plus | apply Ext.alloc | apply Ext.drew))⟩, by simp [intOf]; omega⟩
    · go_wp2
      go_ret
      exact ⟨rfl, (by repeat (first | exact Ext.refl _ | apply Ext.plus | apply Ext.alloc | apply Ext.drew))⟩
end Go.Proofs.Ytkekfncgpbileaa
