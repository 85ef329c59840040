/- Pairs, quotas and configurations: how one reads; the laws' own helpers over them. -/
import Derived.Test.YtkekfncgpbileaaCG1
import Derived.Test.YtkekfncgpbileaaJ4
set_option maxRecDepth 100000
set_option linter.unusedVariables false
namespace Go.Proofs.Ytkekfncgpbileaa
open Go.ChangeShapes Go.WideShapes Go.ChangeAt Go.RowKit Go.Fin1

def Prr.ok (x : Prr) : Prop := x.a.ok ∧ x.b.ok ∧ I64 x.rate
def Prr.cells (x : Prr) : List Value := [(.int .i64 x.a.lv), (.int .i64 x.a.st), (.int .i64 x.b.lv), (.int .i64 x.b.st), (.int .i64 x.rate)]
def Prr.val (x : Prr) : Value := .agg #[(.int .i64 x.a.lv), (.int .i64 x.a.st), (.int .i64 x.b.lv), (.int .i64 x.b.st), (.int .i64 x.rate)]
def rPrr : World → List Value → Prr → Prop := fun _ cs x => cs = x.cells ∧ x.ok
theorem rPrr_stable : Stable rPrr := fun _ _ _ _ _ h => h
theorem prr_at {w : World} {b off n cap : Nat} {xs : List Prr} (h : SlR w 5 rPrr (.slice (some ⟨b, off, none⟩) n cap) xs) {i : Nat} (hi : i < xs.length) :
    w.old b ∧ xs[i].ok ∧ w.cell? ⟨b, off + i * 5, none⟩ = some (.int .i64 xs[i].a.lv) ∧ w.cell? ⟨b, off + i * 5 + 1, none⟩ = some (.int .i64 xs[i].a.st) ∧ w.cell? ⟨b, off + i * 5 + 2, none⟩ = some (.int .i64 xs[i].b.lv) ∧ w.cell? ⟨b, off + i * 5 + 3, none⟩ = some (.int .i64 xs[i].b.st) ∧ w.cell? ⟨b, off + i * 5 + 4, none⟩ = some (.int .i64 xs[i].rate) := by
  obtain ⟨cs, _, hc, rfl, hok⟩ := slr_cells h hi
  have h0 := hc 0 _ rfl
  exact ⟨World.old_of_cell h0, hok, h0, hc 1 _ rfl, hc 2 _ rfl, hc 3 _ rfl, hc 4 _ rfl⟩

section
variable {H : Type} {enc : TypeId × Value → H} {w : World} {base : Nat} {spare : Nat → Bool} {held : Bool} {fuel : Nat} {cs : List Value} {x : DataW H × List MemPlace}
theorem len3' {α : Type} {l : List α} (h : l.length = 3) : ∃ a b c, l = [a, b, c] := by match l, h with | [a, b, c], _ => exact ⟨a, b, c, rfl⟩
theorem len2' {α : Type} {l : List α} (h : l.length = 2) : ∃ a b, l = [a, b] := by match l, h with | [a, b], _ => exact ⟨a, b, rfl⟩
theorem len4' {α : Type} {l : List α} (h : l.length = 4) : ∃ a b c d, l = [a, b, c, d] := by match l, h with | [a, b, c, d], _ => exact ⟨a, b, c, d, rfl⟩
theorem len5' {α : Type} {l : List α} (h : l.length = 5) : ∃ a b c d e, l = [a, b, c, d, e] := by match l, h with | [a, b, c, d, e], _ => exact ⟨a, b, c, d, e, rfl⟩
theorem b_prr (h : DataW.trod enc Try.prog w base spare held fuel 171 cs = some x) : ∃ a : Prr, rPrr w cs a := by
  obtain ⟨xs, n, _, _, hl, hx, hf⟩ := DataW.trod_struct Try.underlying171 h
  obtain ⟨c0, c1, c2, c3, c4, rfl⟩ := len5' (hl.trans (by kernel_rfl))
  obtain ⟨y0, y1, y2, rfl⟩ := len3' hx
  obtain ⟨a0, h0, i0⟩ := b_lab (hf 0 _ rfl)
  obtain ⟨a1, h1, i1⟩ := b_lab (hf 1 _ rfl)
  obtain ⟨a2, h2, i2⟩ := b_int (hf 2 _ rfl)
  have e : Try.prog.cellsOf 2 = 1 := by kernel_rfl
  have e' : Try.prog.cellsOf 26 = 2 := by kernel_rfl
  simp [e, e', Lab.cells] at h0 h1 h2
  exact ⟨⟨a0, a1, a2⟩, by simp [Prr.cells, h0, h1, h2], i0, i1, i2⟩
theorem b_prrs (h : DataW.trod enc Try.prog w base spare held fuel 72 cs = some x) : ∃ v xs, cs = [v] ∧ SlR w 5 rPrr v xs :=
  b_slice Try.underlying72 (by kernel_rfl) (by decide) (fun _ _ _ h => b_prr h) h
end

set_option maxHeartbeats 800000 in
theorem toPair_any (x : Prr) (w : World) :
    Calls Try.prog 149 #[x.val] w fun e w' => e = .returned x.val ∧ Ext w w' := by
  unfold Prr.val
  go_enter Try.func149, Try.ntmps149
  go_wp2_with ((go_at_call 13; refine (toLabel_any _ _ _).mono ?_; rintro e _ ⟨rfl, X, rfl⟩))
  exact bodyPost_ret (v := .agg #[(.int .i64 x.a.lv), (.int .i64 x.a.st), (.int .i64 x.b.lv), (.int .i64 x.b.st), (.int .i64 x.rate)]) (by simp [results, Try.results149, go_sem]) rfl ⟨rfl, (by repeat' (first | exact Ext.refl _ | exact Nat.le_refl _ | (dsimp only; omega) | apply Ext.setCell | apply Ext.plus | apply Ext.alloc | apply Ext.drew))⟩

set_option maxHeartbeats 800000 in
theorem eqPair_self (x : Prr) (w : World) :
    Calls Try.prog 161 #[x.val, x.val] w fun e w' => e = .returned (.bool true) ∧ Ext w w' := by
  unfold Prr.val
  go_enter Try.func161, Try.ntmps161
  go_wp2_with ((go_at_call 127; refine (eqLabel_self _ _ _).mono ?_; rintro e _ ⟨rfl, X, rfl⟩))
  all_goals go_ret
  all_goals exact ⟨rfl, (by repeat (first | exact Ext.refl _ | apply Ext.plus | apply Ext.alloc | apply Ext.drew))⟩
theorem info_Pair : (Try.prog.info? 142).map (fun i => (i.zero, i.size, i.bytes)) = some (some (.agg #[(.int .i64 0), (.int .i64 0), (.int .i64 0), (.int .i64 0), (.int .i64 0)]), 5, 40) := by kernel_rfl
theorem el_Pair : ElemInfo Try.prog 79 142  5 40 := by
  obtain ⟨i, hi, hz, hs, hb⟩ := info_parts info_Pair
  exact ⟨Try.underlying79, ⟨i, _, hi, hz, hs, hb, rfl⟩, by decide⟩
/-- The owner of a list of letters. -/
abbrev oPairS : Ow (List Prr) := oSl 142 5 (oFlat Prr.cells)

set_option maxHeartbeats 1600000 in
theorem toPairS_any (v : Value) (l : List Prr) (w : World) (h : SlR w 5 rPrr v l) (hl : l.length ≤ 1048576) :
    Calls Try.prog 115 #[v] w fun e w' => ∃ v' fp, e = .returned v' ∧ Ext w w' ∧ Own w.heap.size w' oPairS fp [v'] l := by
  obtain ⟨ad, cap, rfl⟩ := h.len
  obtain ⟨_, hlc, hcm⟩ := slr_len h
  clear hcm hlc
  have HS := Lib.hid h
  clear h
  go_enter Try.func115, Try.ntmps115
  go_wp2_with (at_make; refine make_n el_Pair rfl _ _ rfl w (Ext.refl _) l.length .i64 .i64 rfl rfl ?_ ?_ ?_; omega; (unfold maxLen; omega); intro X g cur hg hs hB; have HF := Lib.hid (Fill.start (xs := l) (o := oFlat Prr.cells) hg hs hB); clear hg hs hB)
  go_loopw [4] (fun i wr => ∃ k : Nat, k ≤ l.length ∧ i = .int .i64 k ∧ Ext w wr ∧ Hid (Fill w.heap.size wr g 142 5 (oFlat Prr.cells) l k)) (fun i _ => l.length - (intOf i).toNat)
  case atStart => exact ⟨0, Nat.zero_le _, rfl, (by repeat (first | exact Ext.refl _ | apply Ext.plus | apply Ext.alloc | apply Ext.drew)), HF⟩
  case round =>
    clear HF X
    obtain ⟨k, hk, rfl, ⟨X, rfl⟩, HF⟩ := hrel
    by_cases hlt : k < l.length
    · obtain ⟨b, off, rfl⟩ := slr_some HS.out hlt
      obtain ⟨ho, hok, h0, h1, h2, h3, h4⟩ := prr_at HS.out hlt
      obtain ⟨hog, hBg, hfz⟩ := HF.out.old
      obtain ⟨y0, d0⟩ := HF.out.cell hlt (q := 0) (by decide)
      obtain ⟨y1, d1⟩ := HF.out.cell hlt (q := 1) (by decide)
      obtain ⟨y2, d2⟩ := HF.out.cell hlt (q := 2) (by decide)
      obtain ⟨y3, d3⟩ := HF.out.cell hlt (q := 3) (by decide)
      obtain ⟨y4, d4⟩ := HF.out.cell hlt (q := 4) (by decide)
      rw [Nat.add_zero] at d0
      go_wp2_with fail
      refine (toPair_any l[k] _).mono ?_
      rintro e _ ⟨rfl, Y, rfl⟩
      unfold Prr.val
      go_wp2
      refine ⟨⟨k + 1, by omega, by go_num, (by repeat (first | (with_reducible exact Ext.refl _) | (with_reducible refine Ext.setCell ?_ hBg _) | (with_reducible refine Ext.plus ?_ _))), Lib.hid (by
        have this := (Fill.flat (hl := rfl) HF.out hlt).ext (oFlat_local _) (oFlat_held _) (Ext.plus (.refl _) Y)
        simp only [Prr.cells, World.layCells, Nat.add_assoc, Nat.reduceAdd] at this
        exact this)⟩, by simp [intOf]; omega⟩
    · go_wp2
      obtain rfl : k = l.length := by omega
      obtain ⟨fp, hf⟩ := HF.out.done (by unfold maxLen; omega)
      go_ret
      exact ⟨_, _, rfl, (by repeat (first | exact Ext.refl _ | apply Ext.plus | apply Ext.alloc | apply Ext.drew)), hf⟩

/-- What it hands back reads as what it was given. -/
theorem oPairS_r {w : World} {fp : List Nat} {v : Value} {l : List Prr} (h : oPairS w fp [v] l) (hok : ∀ x ∈ l, x.ok) : SlR w 5 rPrr v l := by
  obtain ⟨v'', hv, hs⟩ := oSl_reads (r := fun _ cs x => cs = x.cells) (k := 5) (fun _ _ _ _ ⟨_, hc⟩ => ⟨by rw [hc]; rfl, hc⟩) h
  obtain rfl : v = v'' := by simpa using hv
  exact slr_with hs fun cs x hm hc => ⟨hc, hok x hm⟩
theorem slr_prrs {w : World} {v : Value} {l : List Prr} (h : SlR w 5 rPrr v l) : ∀ x ∈ l, x.ok := fun x hx => by
  obtain ⟨_, hr⟩ := slr_all h x hx
  exact hr.2

set_option maxHeartbeats 400000 in
theorem szPairS_any (v : Value) (l : List Prr) (n : Nat) (w : World) (h : SlR w 5 rPrr v l) (hn : n ≤ 1048576) :
    Calls Try.prog 108 #[v, (.int .i64 n)] w fun e w' => e = .returned (.int .i64 (if l.length ≤ n then ((n - l.length : Nat) : Int) else -1)) ∧ w = w' := by
  obtain ⟨a, cap, rfl⟩ := h.len
  obtain ⟨_, hlc, hcm⟩ := slr_len h
  have hlm : l.length ≤ 9223372036854775807 := by unfold maxLen at hcm; omega
  clear hcm hlc h
  by_cases hlt : l.length ≤ n
  · rw [if_pos hlt]
    have ht : decide ((n : Int) - (l.length : Int) < 0) = false := by simp; omega
    go_enter Try.func108, Try.ntmps108
    go_wp2
    go_ret
    exact ⟨ret_int (by omega), rfl⟩
  · rw [if_neg hlt]
    have ht : decide ((n : Int) - (l.length : Int) < 0) = true := by simp; omega
    go_enter Try.func108, Try.ntmps108
    go_wp2
    go_ret
    exact ⟨rfl, rfl⟩

set_option maxHeartbeats 800000 in
theorem eqPairS_self (v v' : Value) (l : List Prr) (w : World) (h : SlR w 5 rPrr v l) (h' : SlR w 5 rPrr v' l) :
    Calls Try.prog 122 #[v, v'] w fun e w' => e = .returned (.bool true) ∧ Ext w w' := by
  obtain ⟨ad, cap, rfl⟩ := h.len
  obtain ⟨ad', cap', rfl⟩ := h'.len
  obtain ⟨_, hlc, hcm⟩ := slr_len h
  have hlm : l.length ≤ 9223372036854775807 := by unfold maxLen at hcm; omega
  clear hcm hlc
  have HS := Lib.hid h
  have HS' := Lib.hid h'
  clear h h'
  go_enter Try.func122, Try.ntmps122
  go_wp2
  go_loopw [5] (fun i wr => ∃ k : Nat, k ≤ l.length ∧ i = .int .i64 k ∧ Ext w wr) (fun i _ => l.length - (intOf i).toNat)
  case atStart => exact ⟨0, Nat.zero_le _, rfl, (by repeat (first | exact Ext.refl _ | apply Ext.plus | apply Ext.alloc | apply Ext.drew))⟩
  case round =>
    obtain ⟨k, hk, rfl, ⟨X, rfl⟩⟩ := hrel
    by_cases hlt : k < l.length
    · obtain ⟨b, off, rfl⟩ := slr_some HS.out hlt
      obtain ⟨b', off', rfl⟩ := slr_some HS'.out hlt
      obtain ⟨ho, hok, h0, h1, h2, h3, h4⟩ := prr_at HS.out hlt
      obtain ⟨ho', _, h0', h1', h2', h3', h4'⟩ := prr_at HS'.out hlt
      go_upto_region 6 with fail
      (refine wp_region_x 10 (by kernel_rfl) (by kernel_rfl) (by kernel_rfl) ?_; (iterate 10 (apply XReg.step; (case h => (intro w' hw'; obtain ⟨X', rfl⟩ := hw'; go_wp2_with ((go_at_call 161; refine (eqPair_self l[k] _).mono ?_; rintro e _ ⟨rfl, Y, rfl⟩)); exact ⟨rfl, (by repeat (first | exact Ext.refl _ | apply Ext.plus | apply Ext.alloc | apply Ext.drew))⟩)); (case hv => kernel_rfl))); refine XReg.doneN (fun X => ?_))
      go_wp2
      exact ⟨⟨k + 1, by omega, by go_num, (by repeat (first | exact Ext.refl _ | apply Ext.plus | apply Ext.alloc | apply Ext.drew))⟩, by simp [intOf]; omega⟩
    · go_wp2
      go_ret
      exact ⟨rfl, (by repeat (first | exact Ext.refl _ | apply Ext.plus | apply Ext.alloc | apply Ext.drew))⟩

def Quo.ok (x : Quo) : Prop := x.l.ok ∧ I64 x.most
def Quo.cells (x : Quo) : List Value := [(.int .i64 x.l.lv), (.int .i64 x.l.st), (.int .i64 x.most)]
def Quo.val (x : Quo) : Value := .agg #[(.int .i64 x.l.lv), (.int .i64 x.l.st), (.int .i64 x.most)]
def rQuo : World → List Value → Quo → Prop := fun _ cs x => cs = x.cells ∧ x.ok
theorem rQuo_stable : Stable rQuo := fun _ _ _ _ _ h => h
theorem quo_at {w : World} {b off n cap : Nat} {xs : List Quo} (h : SlR w 3 rQuo (.slice (some ⟨b, off, none⟩) n cap) xs) {i : Nat} (hi : i < xs.length) :
    w.old b ∧ xs[i].ok ∧ w.cell? ⟨b, off + i * 3, none⟩ = some (.int .i64 xs[i].l.lv) ∧ w.cell? ⟨b, off + i * 3 + 1, none⟩ = some (.int .i64 xs[i].l.st) ∧ w.cell? ⟨b, off + i * 3 + 2, none⟩ = some (.int .i64 xs[i].most) := by
  obtain ⟨cs, _, hc, rfl, hok⟩ := slr_cells h hi
  have h0 := hc 0 _ rfl
  exact ⟨World.old_of_cell h0, hok, h0, hc 1 _ rfl, hc 2 _ rfl⟩

section
variable {H : Type} {enc : TypeId × Value → H} {w : World} {base : Nat} {spare : Nat → Bool} {held : Bool} {fuel : Nat} {cs : List Value} {x : DataW H × List MemPlace}
theorem b_quo (h : DataW.trod enc Try.prog w base spare held fuel 174 cs = some x) : ∃ a : Quo, rQuo w cs a := by
  obtain ⟨xs, n, _, _, hl, hx, hf⟩ := DataW.trod_struct Try.underlying174 h
  obtain ⟨c0, c1, c2, rfl⟩ := len3' (hl.trans (by kernel_rfl))
  obtain ⟨y0, y1, rfl⟩ := len2' hx
  obtain ⟨a0, h0, i0⟩ := b_lab (hf 0 _ rfl)
  obtain ⟨a1, h1, i1⟩ := b_int (hf 1 _ rfl)
  have e : Try.prog.cellsOf 2 = 1 := by kernel_rfl
  have e' : Try.prog.cellsOf 26 = 2 := by kernel_rfl
  simp [e, e', Lab.cells] at h0 h1
  exact ⟨⟨a0, a1⟩, by simp [Quo.cells, h0, h1], i0, i1⟩
theorem b_quos (h : DataW.trod enc Try.prog w base spare held fuel 73 cs = some x) : ∃ v xs, cs = [v] ∧ SlR w 3 rQuo v xs :=
  b_slice Try.underlying73 (by kernel_rfl) (by decide) (fun _ _ _ h => b_quo h) h
end

set_option maxHeartbeats 800000 in
theorem toQuota_any (x : Quo) (w : World) :
    Calls Try.prog 150 #[x.val] w fun e w' => e = .returned x.val ∧ Ext w w' := by
  unfold Quo.val
  go_enter Try.func150, Try.ntmps150
  go_wp2_with ((go_at_call 13; refine (toLabel_any _ _ _).mono ?_; rintro e _ ⟨rfl, X, rfl⟩))
  exact bodyPost_ret (v := .agg #[(.int .i64 x.l.lv), (.int .i64 x.l.st), (.int .i64 x.most)]) (by simp [results, Try.results150, go_sem]) rfl ⟨rfl, (by repeat' (first | exact Ext.refl _ | exact Nat.le_refl _ | (dsimp only; omega) | apply Ext.setCell | apply Ext.plus | apply Ext.alloc | apply Ext.drew))⟩

set_option maxHeartbeats 800000 in
theorem eqQuota_self (x : Quo) (w : World) :
    Calls Try.prog 162 #[x.val, x.val] w fun e w' => e = .returned (.bool true) ∧ Ext w w' := by
  unfold Quo.val
  go_enter Try.func162, Try.ntmps162
  go_wp2_with ((go_at_call 127; refine (eqLabel_self _ _ _).mono ?_; rintro e _ ⟨rfl, X, rfl⟩))
  all_goals go_ret
  all_goals exact ⟨rfl, (by repeat (first | exact Ext.refl _ | apply Ext.plus | apply Ext.alloc | apply Ext.drew))⟩
theorem info_Quota : (Try.prog.info? 146).map (fun i => (i.zero, i.size, i.bytes)) = some (some (.agg #[(.int .i64 0), (.int .i64 0), (.int .i64 0)]), 3, 24) := by kernel_rfl
theorem el_Quota : ElemInfo Try.prog 80 146  3 24 := by
  obtain ⟨i, hi, hz, hs, hb⟩ := info_parts info_Quota
  exact ⟨Try.underlying80, ⟨i, _, hi, hz, hs, hb, rfl⟩, by decide⟩
/-- The owner of a list of letters. -/
abbrev oQuotaS : Ow (List Quo) := oSl 146 3 (oFlat Quo.cells)

set_option maxHeartbeats 1600000 in
theorem toQuotaS_any (v : Value) (l : List Quo) (w : World) (h : SlR w 3 rQuo v l) (hl : l.length ≤ 1048576) :
    Calls Try.prog 116 #[v] w fun e w' => ∃ v' fp, e = .returned v' ∧ Ext w w' ∧ Own w.heap.size w' oQuotaS fp [v'] l := by
  obtain ⟨ad, cap, rfl⟩ := h.len
  obtain ⟨_, hlc, hcm⟩ := slr_len h
  clear hcm hlc
  have HS := Lib.hid h
  clear h
  go_enter Try.func116, Try.ntmps116
  go_wp2_with (at_make; refine make_n el_Quota rfl _ _ rfl w (Ext.refl _) l.length .i64 .i64 rfl rfl ?_ ?_ ?_; omega; (unfold maxLen; omega); intro X g cur hg hs hB; have HF := Lib.hid (Fill.start (xs := l) (o := oFlat Quo.cells) hg hs hB); clear hg hs hB)
  go_loopw [4] (fun i wr => ∃ k : Nat, k ≤ l.length ∧ i = .int .i64 k ∧ Ext w wr ∧ Hid (Fill w.heap.size wr g 146 3 (oFlat Quo.cells) l k)) (fun i _ => l.length - (intOf i).toNat)
  case atStart => exact ⟨0, Nat.zero_le _, rfl, (by repeat (first | exact Ext.refl _ | apply Ext.plus | apply Ext.alloc | apply Ext.drew)), HF⟩
  case round =>
    clear HF X
    obtain ⟨k, hk, rfl, ⟨X, rfl⟩, HF⟩ := hrel
    by_cases hlt : k < l.length
    · obtain ⟨b, off, rfl⟩ := slr_some HS.out hlt
      obtain ⟨ho, hok, h0, h1, h2⟩ := quo_at HS.out hlt
      obtain ⟨hog, hBg, hfz⟩ := HF.out.old
      obtain ⟨y0, d0⟩ := HF.out.cell hlt (q := 0) (by decide)
      obtain ⟨y1, d1⟩ := HF.out.cell hlt (q := 1) (by decide)
      obtain ⟨y2, d2⟩ := HF.out.cell hlt (q := 2) (by decide)
      rw [Nat.add_zero] at d0
      go_wp2_with fail
      refine (toQuota_any l[k] _).mono ?_
      rintro e _ ⟨rfl, Y, rfl⟩
      unfold Quo.val
      go_wp2
      refine ⟨⟨k + 1, by omega, by go_num, (by repeat (first | (with_reducible exact Ext.refl _) | (with_reducible refine Ext.setCell ?_ hBg _) | (with_reducible refine Ext.plus ?_ _))), Lib.hid (by
        have this := (Fill.flat (hl := rfl) HF.out hlt).ext (oFlat_local _) (oFlat_held _) (Ext.plus (.refl _) Y)
        simp only [Quo.cells, World.layCells, Nat.add_assoc, Nat.reduceAdd] at this
        exact this)⟩, by simp [intOf]; omega⟩
    · go_wp2
      obtain rfl : k = l.length := by omega
      obtain ⟨fp, hf⟩ := HF.out.done (by unfold maxLen; omega)
      go_ret
      exact ⟨_, _, rfl, (by repeat (first | exact Ext.refl _ | apply Ext.plus | apply Ext.alloc | apply Ext.drew)), hf⟩

/-- What it hands back reads as what it was given. -/
theorem oQuotaS_r {w : World} {fp : List Nat} {v : Value} {l : List Quo} (h : oQuotaS w fp [v] l) (hok : ∀ x ∈ l, x.ok) : SlR w 3 rQuo v l := by
  obtain ⟨v'', hv, hs⟩ := oSl_reads (r := fun _ cs x => cs = x.cells) (k := 3) (fun _ _ _ _ ⟨_, hc⟩ => ⟨by rw [hc]; rfl, hc⟩) h
  obtain rfl : v = v'' := by simpa using hv
  exact slr_with hs fun cs x hm hc => ⟨hc, hok x hm⟩
theorem slr_quos {w : World} {v : Value} {l : List Quo} (h : SlR w 3 rQuo v l) : ∀ x ∈ l, x.ok := fun x hx => by
  obtain ⟨_, hr⟩ := slr_all h x hx
  exact hr.2

set_option maxHeartbeats 400000 in
theorem szQuotaS_any (v : Value) (l : List Quo) (n : Nat) (w : World) (h : SlR w 3 rQuo v l) (hn : n ≤ 1048576) :
    Calls Try.prog 109 #[v, (.int .i64 n)] w fun e w' => e = .returned (.int .i64 (if l.length ≤ n then ((n - l.length : Nat) : Int) else -1)) ∧ w = w' := by
  obtain ⟨a, cap, rfl⟩ := h.len
  obtain ⟨_, hlc, hcm⟩ := slr_len h
  have hlm : l.length ≤ 9223372036854775807 := by unfold maxLen at hcm; omega
  clear hcm hlc h
  by_cases hlt : l.length ≤ n
  · rw [if_pos hlt]
    have ht : decide ((n : Int) - (l.length : Int) < 0) = false := by simp; omega
    go_enter Try.func109, Try.ntmps109
    go_wp2
    go_ret
    exact ⟨ret_int (by omega), rfl⟩
  · rw [if_neg hlt]
    have ht : decide ((n : Int) - (l.length : Int) < 0) = true := by simp; omega
    go_enter Try.func109, Try.ntmps109
    go_wp2
    go_ret
    exact ⟨rfl, rfl⟩

set_option maxHeartbeats 800000 in
theorem eqQuotaS_self (v v' : Value) (l : List Quo) (w : World) (h : SlR w 3 rQuo v l) (h' : SlR w 3 rQuo v' l) :
    Calls Try.prog 123 #[v, v'] w fun e w' => e = .returned (.bool true) ∧ Ext w w' := by
  obtain ⟨ad, cap, rfl⟩ := h.len
  obtain ⟨ad', cap', rfl⟩ := h'.len
  obtain ⟨_, hlc, hcm⟩ := slr_len h
  have hlm : l.length ≤ 9223372036854775807 := by unfold maxLen at hcm; omega
  clear hcm hlc
  have HS := Lib.hid h
  have HS' := Lib.hid h'
  clear h h'
  go_enter Try.func123, Try.ntmps123
  go_wp2
  go_loopw [5] (fun i wr => ∃ k : Nat, k ≤ l.length ∧ i = .int .i64 k ∧ Ext w wr) (fun i _ => l.length - (intOf i).toNat)
  case atStart => exact ⟨0, Nat.zero_le _, rfl, (by repeat (first | exact Ext.refl _ | apply Ext.plus | apply Ext.alloc | apply Ext.drew))⟩
  case round =>
    obtain ⟨k, hk, rfl, ⟨X, rfl⟩⟩ := hrel
    by_cases hlt : k < l.length
    · obtain ⟨b, off, rfl⟩ := slr_some HS.out hlt
      obtain ⟨b', off', rfl⟩ := slr_some HS'.out hlt
      obtain ⟨ho, hok, h0, h1, h2⟩ := quo_at HS.out hlt
      obtain ⟨ho', _, h0', h1', h2'⟩ := quo_at HS'.out hlt
      go_upto_region 6 with fail
      (refine wp_region_x 10 (by kernel_rfl) (by kernel_rfl) (by kernel_rfl) ?_; (iterate 10 (apply XReg.step; (case h => (intro w' hw'; obtain ⟨X', rfl⟩ := hw'; go_wp2_with ((go_at_call 162; refine (eqQuota_self l[k] _).mono ?_; rintro e _ ⟨rfl, Y, rfl⟩)); exact ⟨rfl, (by repeat (first | exact Ext.refl _ | apply Ext.plus | apply Ext.alloc | apply Ext.drew))⟩)); (case hv => kernel_rfl))); refine XReg.doneN (fun X => ?_))
      go_wp2
      exact ⟨⟨k + 1, by omega, by go_num, (by repeat (first | exact Ext.refl _ | apply Ext.plus | apply Ext.alloc | apply Ext.drew))⟩, by simp [intOf]; omega⟩
    · go_wp2
      go_ret
      exact ⟨rfl, (by repeat (first | exact Ext.refl _ | apply Ext.plus | apply Ext.alloc | apply Ext.drew))⟩

def Cfg.val (c : Cfg) (n p q : Value) : Value := .agg #[n, p, q, (.int .i64 c.half)]
/-- A value that is a configuration. -/
def eCfg (w : World) (v : Value) (c : Cfg) : Prop := ∃ a1 c1 a2 c2 a3 c3, v = c.val (.slice a1 c.nodes.length c1) (.slice a2 c.pairs.length c2) (.slice a3 c.quotas.length c3) ∧ I64 c.half ∧ SlR w 1 rLabS (.slice a1 c.nodes.length c1) c.nodes ∧ SlR w 5 rPrr (.slice a2 c.pairs.length c2) c.pairs ∧ SlR w 3 rQuo (.slice a3 c.quotas.length c3) c.quotas
theorem eCfg.ext {w w' : World} {v : Value} {c : Cfg} (h : eCfg w v c) (hx : Ext w w') : eCfg w' v c := by
  obtain ⟨a1, c1, a2, c2, a3, c3, hv, h0, h1, h2, h3⟩ := h
  exact ⟨a1, c1, a2, c2, a3, c3, hv, h0, h1.ext rLabS_stable hx, h2.ext rPrr_stable hx, h3.ext rQuo_stable hx⟩

section
variable {H : Type} {enc : TypeId × Value → H} {w : World} {base : Nat} {spare : Nat → Bool} {held : Bool} {fuel : Nat} {cs : List Value} {x : DataW H × List MemPlace}
theorem b_config (h : DataW.trod enc Try.prog w base spare held fuel 75 cs = some x) : ∃ c : Cfg, ∃ n p q, cs = [n, p, q, (.int .i64 c.half)] ∧ I64 c.half ∧ SlR w 1 rLabS n c.nodes ∧ SlR w 5 rPrr p c.pairs ∧ SlR w 3 rQuo q c.quotas := by
  obtain ⟨xs, n, _, _, hl, hx, hf⟩ := DataW.trod_struct Try.underlying75 h
  obtain ⟨c0, c1, c2, c3, rfl⟩ := len4' (hl.trans (by kernel_rfl))
  obtain ⟨y0, y1, y2, y3, rfl⟩ := len4' hx
  obtain ⟨v0, a0, h0, i0⟩ := b_labss (hf 0 _ rfl)
  obtain ⟨v1, a1, h1, i1⟩ := b_prrs (hf 1 _ rfl)
  obtain ⟨v2, a2, h2, i2⟩ := b_quos (hf 2 _ rfl)
  obtain ⟨a3, h3, i3⟩ := b_int (hf 3 _ rfl)
  have e : Try.prog.cellsOf 2 = 1 := by kernel_rfl
  have e1 : Try.prog.cellsOf 71 = 1 := by kernel_rfl
  have e2 : Try.prog.cellsOf 72 = 1 := by kernel_rfl
  have e3 : Try.prog.cellsOf 73 = 1 := by kernel_rfl
  simp [e, e1, e2, e3] at h0 h1 h2 h3
  exact ⟨⟨a0, a1, a2, a3⟩, v0, v1, v2, by simp [h0, h1, h2, h3], i3, i0, i1, i2⟩
end
section
variable {H : Type} {enc : TypeId × Value → H} {w : World} {base : Nat} {spare : Nat → Bool} {held : Bool} {r : Reach} {b0 : Nat} {v : Value} {d : DataW H} {ps : List MemPlace}
theorem open_config (hv : Value.okWide Try.prog w r b0 75 v) (h : DataW.Trod enc Try.prog w base spare held 75 v d ps) : ∃ a : Arg Cfg, v = a.v ∧ eCfg w a.v a.x := by
  obtain ⟨cs, rfl, _⟩ := okWide_struct Try.underlying75 hv
  obtain ⟨m, hm⟩ := h
  obtain ⟨c, n, p, q, ha, h0, h1, h2, h3⟩ := b_config hm
  obtain ⟨a1, c1, rfl⟩ := h1.len
  obtain ⟨a2, c2, rfl⟩ := h2.len
  obtain ⟨a3, c3, rfl⟩ := h3.len
  exact ⟨⟨_, c⟩, rfl, a1, c1, a2, c2, a3, c3, agg_of_list ha, h0, h1, h2, h3⟩
end

/-- How much a configuration takes of the laws' bound. -/
def Cfg.fits (c : Cfg) (n : Nat) : Prop := szL List.length c.nodes ≤ n ∧ c.pairs.length ≤ n - szL List.length c.nodes ∧ c.quotas.length ≤ n - szL List.length c.nodes - c.pairs.length
instance (c : Cfg) (n : Nat) : Decidable (c.fits n) := by unfold Cfg.fits; exact inferInstance
@[irreducible] def Cfg.left (c : Cfg) (n : Nat) : Int := if c.fits n then ((n - szL List.length c.nodes - c.pairs.length - c.quotas.length : Nat) : Int) else -1
theorem Cfg.left_no {c : Cfg} {n : Nat} (h : ¬ c.fits n) : c.left n = -1 := by unfold Cfg.left; rw [if_neg h]
theorem Cfg.left_yes {c : Cfg} {n : Nat} (h : c.fits n) : c.left n = ((n - szL List.length c.nodes - c.pairs.length - c.quotas.length : Nat) : Int) := by unfold Cfg.left; rw [if_pos h]

set_option maxHeartbeats 800000 in
theorem szConfig_any (c : Cfg) (v : Value) (n : Nat) (w : World) (h : eCfg w v c) (hn : n ≤ 1048576) :
    Calls Try.prog 47 #[v, (.int .i64 n)] w fun e w' => e = .returned (.int .i64 (c.left n)) ∧ Ext w w' := by
  obtain ⟨a1, c1, a2, c2, a3, c3, rfl, _, h1, h2, h3⟩ := h
  have H1 := Lib.hid h1
  have H2 := Lib.hid h2
  have H3 := Lib.hid h3
  clear h1 h2 h3
  by_cases h1 : szL List.length c.nodes ≤ n
  · have t1 : decide (((n - szL List.length c.nodes : Nat) : Int) < 0) = false := decide_eq_false (by omega)
    by_cases h2 : c.pairs.length ≤ n - szL List.length c.nodes
    · have t2 : decide (((n - szL List.length c.nodes - c.pairs.length : Nat) : Int) < 0) = false := decide_eq_false (by omega)
      by_cases h3 : c.quotas.length ≤ n - szL List.length c.nodes - c.pairs.length
      · have t3 : decide (((n - szL List.length c.nodes - c.pairs.length - c.quotas.length : Nat) : Int) < 0) = false := decide_eq_false (by omega)
        go_enter Try.func47, Try.ntmps47
        unfold Cfg.val
        go_wp2_with fail
        refine (szLabelSS_any _ c.nodes n _ (H1.out.ext rLabS_stable (by repeat (first | exact Ext.refl _ | apply Ext.plus | apply Ext.alloc | apply Ext.drew))) hn).mono ?_
        rintro e _ ⟨rfl, ⟨X, rfl⟩⟩
        rw [if_pos h1]
        go_wp2_with fail
        refine (szPairS_any _ c.pairs _ _ (H2.out.ext rPrr_stable (by repeat (first | exact Ext.refl _ | apply Ext.plus | apply Ext.alloc | apply Ext.drew))) (by omega)).mono ?_
        rintro e _ ⟨rfl, rfl⟩
        rw [if_pos h2]
        go_wp2_with fail
        refine (szQuotaS_any _ c.quotas _ _ (H3.out.ext rQuo_stable (by repeat (first | exact Ext.refl _ | apply Ext.plus | apply Ext.alloc | apply Ext.drew))) (by omega)).mono ?_
        rintro e _ ⟨rfl, rfl⟩
        rw [if_pos h3]
        go_wp2
        go_ret
        exact ⟨ret_int (by rw [Cfg.left_yes ⟨h1, h2, h3⟩]), (by repeat (first | exact Ext.refl _ | apply Ext.plus | apply Ext.alloc | apply Ext.drew))⟩
      · skip
        go_enter Try.func47, Try.ntmps47
        unfold Cfg.val
        go_wp2_with fail
        refine (szLabelSS_any _ c.nodes n _ (H1.out.ext rLabS_stable (by repeat (first | exact Ext.refl _ | apply Ext.plus | apply Ext.alloc | apply Ext.drew))) hn).mono ?_
        rintro e _ ⟨rfl, ⟨X, rfl⟩⟩
        rw [if_pos h1]
        go_wp2_with fail
        refine (szPairS_any _ c.pairs _ _ (H2.out.ext rPrr_stable (by repeat (first | exact Ext.refl _ | apply Ext.plus | apply Ext.alloc | apply Ext.drew))) (by omega)).mono ?_
        rintro e _ ⟨rfl, rfl⟩
        rw [if_pos h2]
        go_wp2_with fail
        refine (szQuotaS_any _ c.quotas _ _ (H3.out.ext rQuo_stable (by repeat (first | exact Ext.refl _ | apply Ext.plus | apply Ext.alloc | apply Ext.drew))) (by omega)).mono ?_
        rintro e _ ⟨rfl, rfl⟩
        rw [if_neg h3]
        go_wp2
        go_ret
        exact ⟨ret_int (by rw [Cfg.left_no (fun h => h3 h.2.2)]), (by repeat (first | exact Ext.refl _ | apply Ext.plus | apply Ext.alloc | apply Ext.drew))⟩
    · skip
      go_enter Try.func47, Try.ntmps47
      unfold Cfg.val
      go_wp2_with fail
      refine (szLabelSS_any _ c.nodes n _ (H1.out.ext rLabS_stable (by repeat (first | exact Ext.refl _ | apply Ext.plus | apply Ext.alloc | apply Ext.drew))) hn).mono ?_
      rintro e _ ⟨rfl, ⟨X, rfl⟩⟩
      rw [if_pos h1]
      go_wp2_with fail
      refine (szPairS_any _ c.pairs _ _ (H2.out.ext rPrr_stable (by repeat (first | exact Ext.refl _ | apply Ext.plus | apply Ext.alloc | apply Ext.drew))) (by omega)).mono ?_
      rintro e _ ⟨rfl, rfl⟩
      rw [if_neg h2]
      go_wp2
      go_ret
      exact ⟨ret_int (by rw [Cfg.left_no (fun h => h2 h.2.1)]), (by repeat (first | exact Ext.refl _ | apply Ext.plus | apply Ext.alloc | apply Ext.drew))⟩
  · skip
    go_enter Try.func47, Try.ntmps47
    unfold Cfg.val
    go_wp2_with fail
    refine (szLabelSS_any _ c.nodes n _ (H1.out.ext rLabS_stable (by repeat (first | exact Ext.refl _ | apply Ext.plus | apply Ext.alloc | apply Ext.drew))) hn).mono ?_
    rintro e _ ⟨rfl, ⟨X, rfl⟩⟩
    rw [if_neg h1]
    go_wp2
    go_ret
    exact ⟨ret_int (by rw [Cfg.left_no (fun h => h1 h.1)]), (by repeat (first | exact Ext.refl _ | apply Ext.plus | apply Ext.alloc | apply Ext.drew))⟩

/-- The owner of a configuration's three lists. -/
structure OwnC (B : Nat) (w : World) (f1 f2 f3 : List Nat) (n p q : Value) (c : Cfg) : Prop where
  n : Own B w oLabelSS f1 [n] c.nodes
  p : Own B w oPairS f2 [p] c.pairs
  q : Own B w oQuotaS f3 [q] c.quotas
  np : ∀ x ∈ f1, x ∉ f2
  nq : ∀ x ∈ f1, x ∉ f3
  pq : ∀ x ∈ f2, x ∉ f3
theorem oPairS_local : Local oPairS := oSl_local (oFlat_local _)
theorem oPairS_held : Held oPairS := oSl_held (oFlat_held _)
theorem oQuotaS_local : Local oQuotaS := oSl_local (oFlat_local _)
theorem oQuotaS_held : Held oQuotaS := oSl_held (oFlat_held _)
theorem OwnC.ext {B : Nat} {w w' : World} {f1 f2 f3 : List Nat} {n p q : Value} {c : Cfg} (h : OwnC B w f1 f2 f3 n p q c) (hx : Ext w w') : OwnC B w' f1 f2 f3 n p q c :=
  ⟨h.n.ext oLabelSS_local oLabelSS_held hx, h.p.ext oPairS_local oPairS_held hx, h.q.ext oQuotaS_local oQuotaS_held hx, h.np, h.nq, h.pq⟩
/-- What the fields of a configuration may be. -/
def Cfg.okC (c : Cfg) : Prop := I64 c.half ∧ (∀ x ∈ c.nodes, ∀ y ∈ x, y.ok) ∧ (∀ x ∈ c.pairs, x.ok) ∧ ∀ x ∈ c.quotas, x.ok
theorem eCfg.okC {w : World} {v : Value} {c : Cfg} (h : eCfg w v c) : c.okC := by
  obtain ⟨a1, c1, a2, c2, a3, c3, rfl, h0, h1, h2, h3⟩ := h
  exact ⟨h0, slr_labss h1, slr_prrs h2, slr_quos h3⟩
theorem OwnC.e {B : Nat} {w : World} {f1 f2 f3 : List Nat} {n p q : Value} {c : Cfg} (h : OwnC B w f1 f2 f3 n p q c) (hc : c.okC) : eCfg w (c.val n p q) c := by
  obtain ⟨a1, c1, rfl⟩ := h.n.shape
  obtain ⟨a2, c2, rfl⟩ := h.p.shape
  obtain ⟨a3, c3, rfl⟩ := h.q.shape
  exact ⟨a1, c1, a2, c2, a3, c3, rfl, hc.1, oLabelSS_r h.n.1 hc.2.1, oPairS_r h.p.1 hc.2.2.1, oQuotaS_r h.q.1 hc.2.2.2⟩

set_option maxHeartbeats 1600000 in
theorem toConfig_any (c : Cfg) (v : Value) (w : World) (h : eCfg w v c) (hf : c.fits 1048576) :
    Calls Try.prog 49 #[v] w fun e w' => ∃ n p q f1 f2 f3, e = .returned (c.val n p q) ∧ Ext w w' ∧ OwnC w.heap.size w' f1 f2 f3 n p q c := by
  obtain ⟨a1, c1, a2, c2, a3, c3, rfl, _, h1, h2, h3⟩ := h
  have H1 := Lib.hid h1
  have H2 := Lib.hid h2
  have H3 := Lib.hid h3
  clear h1 h2 h3
  have q1 : szL List.length c.nodes ≤ 1048576 := hf.1
  have q2 : c.pairs.length ≤ 1048576 := Nat.le_trans hf.2.1 (Nat.sub_le _ _)
  have q3 : c.quotas.length ≤ 1048576 := Nat.le_trans hf.2.2 (Nat.le_trans (Nat.sub_le _ _) (Nat.sub_le _ _))
  go_enter Try.func49, Try.ntmps49
  unfold Cfg.val
  go_wp2_with fail
  refine (toLabelSS_any _ c.nodes _ (H1.out.ext rLabS_stable (by repeat (first | exact Ext.refl _ | apply Ext.plus | apply Ext.alloc | apply Ext.drew))) q1).mono ?_
  rintro e _ ⟨v1, f1, rfl, ⟨X, rfl⟩, hO⟩
  obtain ⟨b1, e1, rfl⟩ := hO.shape
  have O1 := Lib.hid hO
  have B1 := Lib.hid (oLabelSS_held _ _ _ _ hO.1)
  clear hO
  go_wp2_with fail
  refine (toPairS_any _ c.pairs _ (H2.out.ext rPrr_stable (by repeat (first | exact Ext.refl _ | apply Ext.plus | apply Ext.alloc | apply Ext.drew))) q2).mono ?_
  rintro e _ ⟨v2, f2, rfl, ⟨Y, rfl⟩, hO⟩
  obtain ⟨b2, e2, rfl⟩ := hO.shape
  have O2 := Lib.hid hO
  have B2 := Lib.hid (oPairS_held _ _ _ _ hO.1)
  clear hO
  go_wp2_with fail
  refine (toQuotaS_any _ c.quotas _ (H3.out.ext rQuo_stable (by repeat (first | exact Ext.refl _ | apply Ext.plus | apply Ext.alloc | apply Ext.drew))) q3).mono ?_
  rintro e _ ⟨v3, f3, rfl, ⟨Z, rfl⟩, hO⟩
  obtain ⟨b3, e3, rfl⟩ := hO.shape
  have O3 := Lib.hid hO
  clear hO
  go_wp2
  refine bodyPost_ret (v := .agg #[.slice b1 c.nodes.length e1, .slice b2 c.pairs.length e2, .slice b3 c.quotas.length e3, (.int .i64 c.half)]) (by simp [results, Try.results49, go_sem]) rfl ⟨_, _, _, f1, f2, f3, rfl, (by repeat' (first | exact Ext.refl _ | exact Nat.le_refl _ | (dsimp only; omega) | apply Ext.setCell | apply Ext.plus | apply Ext.alloc | apply Ext.drew)), ?_, ?_, ?_, ?_, ?_, ?_⟩
  · exact (((O1.out.swap (X := X) oLabelSS_local (Nat.le_refl _) (by simp)).plus oLabelSS_local oLabelSS_held Y).plus oLabelSS_local oLabelSS_held Z).mono (by simp; omega)
  · exact ((O2.out.swap (X := Y) oPairS_local (by simp) (by simp)).plus oPairS_local oPairS_held Z).mono (by simp; omega)
  · exact (O3.out.swap (X := Z) oQuotaS_local (by simp) (by simp)).mono (by simp; omega)
  · intro x hx hy
    have q1 := B1.out x hx
    have q2 := O2.out.2.2 x hy
    simp at q1 q2
    omega
  · intro x hx hy
    have q1 := B1.out x hx
    have q2 := O3.out.2.2 x hy
    simp at q1 q2
    omega
  · intro x hx hy
    have q1 := B2.out x hx
    have q2 := O3.out.2.2 x hy
    simp at q1 q2
    omega

set_option maxHeartbeats 1600000 in
theorem eqConfig_self (c : Cfg) (v v' : Value) (w : World) (h : eCfg w v c) (h' : eCfg w v' c) :
    Calls Try.prog 51 #[v, v'] w fun e w' => e = .returned (.bool true) ∧ Ext w w' := by
  obtain ⟨a1, c1, a2, c2, a3, c3, rfl, _, h1, h2, h3⟩ := h
  obtain ⟨b1, e1, b2, e2, b3, e3, rfl, _, h1', h2', h3'⟩ := h'
  have H1 := Lib.hid h1
  have H2 := Lib.hid h2
  have H3 := Lib.hid h3
  have H1' := Lib.hid h1'
  have H2' := Lib.hid h2'
  have H3' := Lib.hid h3'
  clear h1 h2 h3 h1' h2' h3'
  go_enter Try.func51, Try.ntmps51
  unfold Cfg.val
  go_wp2_with fail
  refine (eqLabelSS_self _ _ c.nodes _ (H1.out.ext rLabS_stable (by repeat (first | exact Ext.refl _ | apply Ext.plus | apply Ext.alloc | apply Ext.drew))) (H1'.out.ext rLabS_stable (by repeat (first | exact Ext.refl _ | apply Ext.plus | apply Ext.alloc | apply Ext.drew)))).mono ?_
  rintro e _ ⟨rfl, ⟨X, rfl⟩⟩
  go_wp2_with fail
  refine (eqPairS_self _ _ c.pairs _ (H2.out.ext rPrr_stable (by repeat (first | exact Ext.refl _ | apply Ext.plus | apply Ext.alloc | apply Ext.drew))) (H2'.out.ext rPrr_stable (by repeat (first | exact Ext.refl _ | apply Ext.plus | apply Ext.alloc | apply Ext.drew)))).mono ?_
  rintro e _ ⟨rfl, ⟨Y, rfl⟩⟩
  go_wp2_with fail
  refine (eqQuotaS_self _ _ c.quotas _ (H3.out.ext rQuo_stable (by repeat (first | exact Ext.refl _ | apply Ext.plus | apply Ext.alloc | apply Ext.drew))) (H3'.out.ext rQuo_stable (by repeat (first | exact Ext.refl _ | apply Ext.plus | apply Ext.alloc | apply Ext.drew)))).mono ?_
  rintro e _ ⟨rfl, ⟨Z, rfl⟩⟩
  go_wp2
  go_ret
  exact ⟨rfl, (by repeat (first | exact Ext.refl _ | apply Ext.plus | apply Ext.alloc | apply Ext.drew))⟩
end Go.Proofs.Ytkekfncgpbileaa
