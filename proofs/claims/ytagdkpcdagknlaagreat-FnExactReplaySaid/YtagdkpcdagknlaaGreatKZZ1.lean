/- Clearances: the walks of clearRight and of 'is a label in a list'. -/
import Derived.Test.YtagdkpcdagknlaaGreatKPA1
import Derived.Test.YtagdkpcdagknlaaGreatKQJ
set_option maxRecDepth 100000
set_option linter.unusedVariables false
namespace Go.Proofs.YtagdkpcdagknlaaGreat
open Go.RowKit Go.Fin1

abbrev rLabS : World → List Value → List Lab → Prop := rSl 2 rLab
theorem rLabS_stable : Stable rLabS := rSl_stable rLab_stable

set_option maxHeartbeats 800000 in
theorem indexFuncLabS_any (fn : Nat) (cap : Array Value) (p : (List Lab) → Bool) (v : Value) (l : List (List Lab)) (w : World) (h : SlR w 1 rLabS v l)
    (hcf : ∀ args w, (callFunc fn args).run Tryz.prog w = .ok (.enter fn args) w) (Hf : ∀ W u x, Ext w W → SlR W 2 rLab u x → Calls Tryz.prog fn (#[u] ++ cap) W fun e w' => e = .returned (.bool (p x)) ∧ Ext W w') :
    Calls Tryz.prog 184 #[v, .func (.func fn) #[] cap] w fun e w' =>
      e = .returned ((.int .i64 (findI p l))) ∧ Ext w w' := by
  obtain ⟨a, cap', rfl⟩ := h.len
  obtain ⟨_, hlc, hcm⟩ := slr_len h
  have hlm : l.length ≤ 9223372036854775807 := by unfold maxLen at hcm; omega
  clear hcm hlc
  have HS := Lib.hid h
  have HF := Lib.hid Hf
  clear h Hf
  go_enter Tryz.func184, Tryz.ntmps184
  go_wp2
  go_loopw [8, 5] (fun i _ wr => ∃ k : Nat, k ≤ l.length ∧ i = .int .i64 k ∧ Ext w wr ∧ Hid (∀ j (hj : j < l.length), j < k → p l[j] = false)) (fun i _ _ => l.length - (intOf i).toNat)
  case atStart =>
    exact ⟨0, Nat.zero_le _, rfl, Ext.refl _, Lib.hid (fun j _ h => absurd h (Nat.not_lt_zero _))⟩
  case round =>
    obtain ⟨k, hk, rfl, ⟨X, rfl⟩, HH⟩ := hrel
    by_cases hlt : k < l.length
    · obtain ⟨b, off, rfl⟩ := slr_some HS.out hlt
      obtain ⟨ho, vx, hsx, h0⟩ := sl_at HS.out hlt
      obtain ⟨ax, cx, rfl⟩ := hsx.len
      have HRV := Lib.hid (hsx.ext rLab_stable ((Ext.refl w).plus X))
      clear hsx
      go_wp2_with fail
      refine (HF.out _ _ l[k] (Ext.refl w |>.plus X) HRV.out).mono ?_
      rintro e _ ⟨rfl, Y, rfl⟩
      cases hp : p l[k]
      · go_wp2
        exact ⟨⟨k + 1, by omega, by go_num, xt, Lib.hid (fun j hj hjk => by
          by_cases e : j < k
          · exact HH.out j hj e
          · obtain rfl : j = k := by omega
            exact hp)⟩, by simp [intOf]; omega⟩
      · go_wp2
        go_ret
        exact ⟨ret_int (findI_at hlt HH.out hp).symm, xt⟩
    · go_wp2
      go_ret
      exact ⟨ret_int (findI_none (fun j hj => HH.out j hj (by omega))).symm, xt⟩

set_option maxHeartbeats 800000 in
theorem containsFuncLabS_any (fn : Nat) (cap : Array Value) (p : (List Lab) → Bool) (v : Value) (l : List (List Lab)) (w : World) (h : SlR w 1 rLabS v l)
    (hcf : ∀ args w, (callFunc fn args).run Tryz.prog w = .ok (.enter fn args) w) (Hf : ∀ W u x, Ext w W → SlR W 2 rLab u x → Calls Tryz.prog fn (#[u] ++ cap) W fun e w' => e = .returned (.bool (p x)) ∧ Ext W w') :
    Calls Tryz.prog 147 #[v, .func (.func fn) #[] cap] w fun e w' =>
      e = .returned (.bool (l.any p)) ∧ Ext w w' := by
  have HS := Lib.hid (indexFuncLabS_any fn cap p v l w h hcf Hf)
  clear h hcf Hf
  go_enter Tryz.func147, Tryz.ntmps147
  go_wp2_with fail
  refine (HS.out).mono ?_
  rintro e _ ⟨rfl, X, rfl⟩
  go_wp2
  go_ret
  exact ⟨ret_bool (findI_nonneg p l), xt⟩

/-- Valid clearances. -/
@[irreducible] def clearR (c : List (List Lab)) : Bool := decide (1 ≤ c.length) && decide (c.length ≤ 6) && c.all chainR
theorem clearR_len {c : List (List Lab)} (h : c.length < 1 ∨ 6 < c.length) : clearR c = false := by
  unfold clearR
  rcases h with h | h
  · rw [decide_eq_false (show ¬ 1 ≤ c.length by omega)]; rfl
  · rw [decide_eq_false (show ¬ c.length ≤ 6 by omega)]; simp
theorem clearR_mid {c : List (List Lab)} (h1 : 1 ≤ c.length) (h6 : c.length ≤ 6) : clearR c = !c.any (fun l => !chainR l) := by
  unfold clearR; rw [decide_eq_true h1, decide_eq_true h6, List.not_any_eq_all_not]; simp
theorem clearR_no {c : List (List Lab)} {i : Nat} (hi : i < c.length) (h : chainR c[i] = false) : clearR c = false := by
  unfold clearR; rw [show c.all chainR = false from List.all_eq_false.2 ⟨c[i], List.getElem_mem hi, by simp [h]⟩]; simp
theorem clearR_yes {c : List (List Lab)} (h1 : 1 ≤ c.length) (h6 : c.length ≤ 6) (h : ∀ (i : Nat) (hi : i < c.length), chainR c[i] = true) : clearR c = true := by
  unfold clearR; rw [decide_eq_true h1, decide_eq_true h6, List.all_eq_true.2 fun x hx => by obtain ⟨i, hi, rfl⟩ := List.mem_iff_getElem.1 hx; exact h i hi]; rfl

set_option maxHeartbeats 400000 in
theorem clearRight1_any (v : Value) (l : List Lab) (w : World) (h : SlR w 2 rLab v l) :
    Calls Tryz.prog 148 #[v] w fun e w' => e = .returned (.bool (!chainR l)) ∧ Ext w w' := by
  go_enter Tryz.func148, Tryz.ntmps148
  go_wp2_with fail
  refine (implChain_any v l _ h).mono ?_
  rintro e _ ⟨rfl, X, rfl⟩
  go_wp2
  go_ret
  exact ⟨rfl, xt⟩

set_option maxHeartbeats 800000 in
theorem clearRight_any (v : Value) (l : List (List Lab)) (w : World) (h : SlR w 1 rLabS v l) :
    Calls Tryz.prog 88 #[v] w fun e w' => e = .returned (.bool (clearR l)) ∧ Ext w w' := by
  obtain ⟨a, cap, rfl⟩ := h.len
  have HS := Lib.hid h
  have hh := hmf
  clear h
  by_cases h6 : 1 ≤ l.length ∧ l.length ≤ 6
  · have hb : isIn (l.length : Int) 1 6 = true := isIn_iff.2 (by omega)
    have H := Lib.hid (clearR_mid h6.1 h6.2)
    go_enter Tryz.func88, Tryz.ntmps88
    go_wp2_with (go_at_call 116; refine (within_any _ _ _ _).mono ?_; rintro e _ ⟨rfl, rfl⟩; rw [hb])
    refine (containsFuncLabS_any 148 #[] (fun x => !chainR x) _ l _ HS.out (fun _ _ => rfl) ?_).mono ?_
    · rintro W u x _ hx
      exact clearRight1_any u x W hx
    rintro e _ ⟨rfl, X, rfl⟩
    go_wp2
    go_ret
    exact ⟨ret_bool H.out.symm, xt⟩
  · have hb : isIn (l.length : Int) 1 6 = false := by
      cases hq : isIn (l.length : Int) 1 6
      · rfl
      · rw [isIn_iff] at hq; omega
    have H := Lib.hid (clearR_len (c := l) (by omega))
    go_enter Tryz.func88, Tryz.ntmps88
    go_wp2_with (go_at_call 116; refine (within_any _ _ _ _).mono ?_; rintro e _ ⟨rfl, rfl⟩; rw [hb])
    go_ret
    exact ⟨ret_bool H.out.symm, xt⟩

set_option maxHeartbeats 800000 in
theorem l05Clear_any (v : Value) (l : List (List Lab)) (w : World) (h : SlR w 1 rLabS v l) :
    Calls Tryz.prog 90 #[v] w fun e w' => e = .returned (.bool (clearR l)) ∧ Ext w w' := by
  obtain ⟨a, cap, rfl⟩ := h.len
  obtain ⟨_, hlc, hcm⟩ := slr_len h
  have hlm : l.length ≤ 9223372036854775807 := by unfold maxLen at hcm; omega
  clear hcm hlc
  have HS := Lib.hid h
  clear h
  go_enter Tryz.func90, Tryz.ntmps90
  go_wp2
  go_loopw [3] (fun i wr => ∃ k : Nat, k ≤ l.length ∧ i = .int .i64 k ∧ Ext w wr ∧ Hid (∀ (j : Nat) (hj : j < l.length), j < k → chainR l[j] = true)) (fun i _ => l.length - (intOf i).toNat)
  case atStart =>
    exact ⟨0, Nat.zero_le _, rfl, Ext.refl _, Lib.hid (fun j _ h => absurd h (Nat.not_lt_zero _))⟩
  case round =>
    obtain ⟨k, hk, rfl, ⟨X, rfl⟩, HH⟩ := hrel
    by_cases hlt : k < l.length
    · by_cases h6 : k ≤ 6
      · have hb6 : decide ((k : Int) ≤ 6) = true := decide_eq_true (by omega)
        obtain ⟨b, off, rfl⟩ := slr_some HS.out hlt
        obtain ⟨ho, vx, hsx, h0⟩ := sl_at HS.out hlt
        obtain ⟨ax, cx, rfl⟩ := hsx.len
        have HX := Lib.hid hsx
        clear hsx
        go_wp2_with fail
        refine (specChain_any _ l[k] _ (HX.out.ext rLab_stable xt)).mono ?_
        rintro e _ ⟨rfl, Y, rfl⟩
        cases hs : chainR l[k]
        · go_wp2
          go_ret
          exact ⟨ret_bool (clearR_no hlt hs).symm, xt⟩
        · go_wp2
          exact ⟨⟨k + 1, by omega, by go_num, xt, Lib.hid (fun j hj hjk => by
            by_cases e : j < k
            · exact HH.out j hj e
            · obtain rfl : j = k := by omega
              exact hs)⟩, by simp [intOf]; omega⟩
      · have hb6 : decide ((k : Int) ≤ 6) = false := decide_eq_false (by omega)
        have H := Lib.hid (clearR_len (c := l) (by omega))
        go_wp2
        all_goals go_ret
        all_goals exact ⟨ret_bool (by rw [H.out]; first | done | (simp; try omega)), xt⟩
    · obtain rfl : k = l.length := by omega
      by_cases h0 : 1 ≤ l.length
      · by_cases h6 : l.length ≤ 6
        · have H := Lib.hid (clearR_yes h0 h6 (fun i hi => HH.out i hi (by omega)))
          go_wp2
          all_goals go_ret
          all_goals exact ⟨ret_bool (by rw [H.out]; first | done | (simp; try omega)), xt⟩
        · have H := Lib.hid (clearR_len (c := l) (by omega))
          go_wp2
          all_goals go_ret
          all_goals exact ⟨ret_bool (by rw [H.out]; first | done | (simp; try omega)), xt⟩
      · have H := Lib.hid (clearR_len (c := l) (by omega))
        go_wp2
        all_goals go_ret
        all_goals exact ⟨ret_bool (by rw [H.out]; first | done | (simp; try omega)), xt⟩

theorem sameL_comm (a b : Lab) : sameL a b = sameL b a := by
  unfold sameL; rw [Bool.eq_iff_iff]; simp only [Bool.and_eq_true, decide_eq_true_eq]; omega
/-- Is the label in the list? -/
@[irreducible] def hasL (l : List Lab) (x : Lab) : Bool := l.any (fun y => sameL y x)
theorem hasL_yes {l : List Lab} {x : Lab} {i : Nat} (hi : i < l.length) (h : sameL l[i] x = true) : hasL l x = true := by unfold hasL; exact List.any_eq_true.2 ⟨_, List.getElem_mem hi, h⟩
theorem hasL_no {l : List Lab} {x : Lab} (h : ∀ (i : Nat) (hi : i < l.length), sameL l[i] x = false) : hasL l x = false := by
  unfold hasL; rw [List.any_eq_false]
  intro y hy
  obtain ⟨i, hi, rfl⟩ := List.mem_iff_getElem.1 hy
  simp [h i hi]

set_option maxHeartbeats 800000 in
theorem indexLab_any (v : Value) (l : List Lab) (x : Lab) (w : World) (h : SlR w 2 rLab v l) :
    Calls Tryz.prog 140 #[v, .agg #[(.int .i64 x.lv), (.int .i64 x.st)]] w fun e w' => (∃ n : Int, e = .returned (.int .i64 n) ∧ decide (0 ≤ n) = hasL l x) ∧ Ext w w' := by
  obtain ⟨a, cap, rfl⟩ := h.len
  obtain ⟨_, hlc, hcm⟩ := slr_len h
  have hlm : l.length ≤ 9223372036854775807 := by unfold maxLen at hcm; omega
  clear hcm hlc
  have HS := Lib.hid h
  clear h
  go_enter Tryz.func140, Tryz.ntmps140
  go_wp2
  go_loopw [8, 5] (fun i _ wr => ∃ k : Nat, k ≤ l.length ∧ i = .int .i64 k ∧ Ext (w.alloc (.cells #[(.int .i64 x.lv), (.int .i64 x.st)] 32)) wr ∧ Hid (∀ (j : Nat) (hj : j < l.length), j < k → sameL l[j] x = false)) (fun i _ _ => l.length - (intOf i).toNat)
  case atStart => exact ⟨0, Nat.zero_le _, rfl, Ext.refl _, Lib.hid (fun j _ h => absurd h (Nat.not_lt_zero _))⟩
  case round =>
    obtain ⟨k, hk, rfl, ⟨X, rfl⟩, HH⟩ := hrel
    by_cases hlt : k < l.length
    · obtain ⟨b, off, rfl⟩ := slr_some HS.out hlt
      obtain ⟨ho, hok, h0, h1⟩ := lab_at HS.out hlt
      go_upto_region 4 with fail
      cases q : sameL ⟨x.lv, x.st⟩ ⟨l[k].lv, l[k].st⟩
      · have hN : sameL l[k] x = false := by rw [sameL_comm]; exact q
        (refine wp_region_x 6 (by kernel_rfl) (by kernel_rfl) (by kernel_rfl) ?_; (iterate 6 (apply XReg.step; (case h => (intro w' hw'; obtain ⟨X', rfl⟩ := hw'; go_wp2_with (fail); exact ⟨rfl, xt⟩)); (case hv => kernel_rfl))); refine XReg.doneN (fun X => ?_))
        go_wp2
        exact ⟨⟨k + 1, by omega, by go_num, xt, Lib.hid (fun j hj hjk => by
          by_cases e : j < k
          · exact HH.out j hj e
          · obtain rfl : j = k := by omega
            exact hN)⟩, by simp [intOf]; omega⟩
      · have hY := Lib.hid (hasL_yes (x := x) hlt (by rw [sameL_comm]; exact q))
        (refine wp_region_x 6 (by kernel_rfl) (by kernel_rfl) (by kernel_rfl) ?_; (iterate 6 (apply XReg.step; (case h => (intro w' hw'; obtain ⟨X', rfl⟩ := hw'; go_wp2_with (fail); exact ⟨rfl, xt⟩)); (case hv => kernel_rfl))); refine XReg.doneN (fun X => ?_))
        go_wp2
        go_ret
        exact ⟨⟨k, rfl, by rw [hY.out]; simp⟩, xt⟩
    · have hN := Lib.hid (hasL_no (x := x) (fun j hj => HH.out j hj (by omega)))
      go_wp2
      go_ret
      exact ⟨⟨-1, rfl, by rw [hN.out]; rfl⟩, xt⟩

set_option maxHeartbeats 800000 in
theorem containsLab_any (v : Value) (l : List Lab) (x : Lab) (w : World) (h : SlR w 2 rLab v l) :
    Calls Tryz.prog 77 #[v, .agg #[(.int .i64 x.lv), (.int .i64 x.st)]] w fun e w' => e = .returned (.bool (hasL l x)) ∧ Ext w w' := by
  have HS := Lib.hid h
  clear h
  go_enter Tryz.func77, Tryz.ntmps77
  go_wp2_with fail
  refine (indexLab_any v l x _ (HS.out.ext rLab_stable xt)).mono ?_
  rintro e _ ⟨⟨n, rfl, hn⟩, X, rfl⟩
  cases hq : hasL l x
  · have hb : decide ((0 : Int) ≤ n) = false := by rw [hn, hq]
    go_wp2
    go_ret
    exact ⟨ret_bool hq.symm, xt⟩
  · have hb : decide ((0 : Int) ≤ n) = true := by rw [hn, hq]
    go_wp2
    go_ret
    exact ⟨ret_bool hq.symm, xt⟩

set_option maxHeartbeats 800000 in
theorem l05Cleared_any (v : Value) (l : List Lab) (x : Lab) (w : World) (h : SlR w 2 rLab v l) :
    Calls Tryz.prog 83 #[v, .agg #[(.int .i64 x.lv), (.int .i64 x.st)]] w fun e w' => e = .returned (.bool (hasL l x)) ∧ Ext w w' := by
  obtain ⟨a, cap, rfl⟩ := h.len
  obtain ⟨_, hlc, hcm⟩ := slr_len h
  have hlm : l.length ≤ 9223372036854775807 := by unfold maxLen at hcm; omega
  clear hcm hlc
  have HS := Lib.hid h
  clear h
  go_enter Tryz.func83, Tryz.ntmps83
  go_wp2
  go_loopw [5] (fun i wr => ∃ k : Nat, k ≤ l.length ∧ i = .int .i64 k ∧ Ext (w.alloc (.cells #[(.int .i64 x.lv), (.int .i64 x.st)] 32)) wr ∧ Hid (∀ (j : Nat) (hj : j < l.length), j < k → sameL l[j] x = false)) (fun i _ => l.length - (intOf i).toNat)
  case atStart => exact ⟨0, Nat.zero_le _, rfl, Ext.refl _, Lib.hid (fun j _ h => absurd h (Nat.not_lt_zero _))⟩
  case round =>
    obtain ⟨k, hk, rfl, ⟨X, rfl⟩, HH⟩ := hrel
    by_cases hlt : k < l.length
    · obtain ⟨b, off, rfl⟩ := slr_some HS.out hlt
      obtain ⟨ho, hok, h0, h1⟩ := lab_at HS.out hlt
      go_upto_region 4 with fail
      cases q : sameL ⟨l[k].lv, l[k].st⟩ ⟨x.lv, x.st⟩
      · have hN : sameL l[k] x = false := q
        (refine wp_region_x 6 (by kernel_rfl) (by kernel_rfl) (by kernel_rfl) ?_; (iterate 6 (apply XReg.step; (case h => (intro w' hw'; obtain ⟨X', rfl⟩ := hw'; go_wp2_with (fail); exact ⟨rfl, xt⟩)); (case hv => kernel_rfl))); refine XReg.doneN (fun X => ?_))
        go_wp2
        exact ⟨⟨k + 1, by omega, by go_num, xt, Lib.hid (fun j hj hjk => by
          by_cases e : j < k
          · exact HH.out j hj e
          · obtain rfl : j = k := by omega
            exact hN)⟩, by simp [intOf]; omega⟩
      · have hY := Lib.hid (hasL_yes (x := x) hlt q)
        (refine wp_region_x 6 (by kernel_rfl) (by kernel_rfl) (by kernel_rfl) ?_; (iterate 6 (apply XReg.step; (case h => (intro w' hw'; obtain ⟨X', rfl⟩ := hw'; go_wp2_with (fail); exact ⟨rfl, xt⟩)); (case hv => kernel_rfl))); refine XReg.doneN (fun X => ?_))
        go_wp2
        go_ret
        exact ⟨ret_bool hY.out.symm, xt⟩
    · have hN := Lib.hid (hasL_no (x := x) (fun j hj => HH.out j hj (by omega)))
      go_wp2
      go_ret
      exact ⟨ret_bool hN.out.symm, xt⟩

theorem toLabelS_e (v : Value) (l : List Lab) (w : World) (h : SlR w 2 rLab v l) (hl : l.length ≤ 1048576) :
    Calls Tryz.prog 125 #[v] w fun e w' => ∃ v' fp, e = .returned v' ∧ Ext w w' ∧ Own w.heap.size w' oLabelS fp [v'] l := toLabelS_any v l w h hl
theorem szLabelS_e (v : Value) (l : List Lab) (n : Nat) (w : World) (h : SlR w 2 rLab v l) (hn : n ≤ 1048576) :
    Calls Tryz.prog 124 #[v, (.int .i64 n)] w fun e w' => e = .returned (.int .i64 (if l.length ≤ n then ((n - l.length : Nat) : Int) else -1)) ∧ Ext w w' :=
  (szLabelS_any v l n w h hn).mono fun _ _ ⟨h1, h2⟩ => ⟨h1, h2 ▸ Ext.refl _⟩
theorem eqLabelS_e (v v' : Value) (l : List Lab) (w : World) (h : SlR w 2 rLab v l) (h' : SlR w 2 rLab v' l) :
    Calls Tryz.prog 126 #[v, v'] w fun e w' => e = .returned (.bool true) ∧ Ext w w' := eqLabelS_self v v' l w h h'

theorem info_eLabelS : (Tryz.prog.info? 39).map (fun i => (i.zero, i.size, i.bytes)) = some (some (.slice none 0 0), 1, 24) := by kernel_rfl
theorem el_eLabelS : ElemInfo Tryz.prog 23 39 1 24 := by
  obtain ⟨i, hi, hz, hs, hb⟩ := info_parts info_eLabelS
  exact ⟨by kernel_rfl, ⟨i, _, hi, hz, hs, hb, rfl⟩, by decide⟩
abbrev oLabelSS : Ow (List (List Lab)) := oSl 39 1 oLabelS
theorem oLabelSS_local : Local oLabelSS := oSl_local (oSl_local (oFlat_local _))
theorem oLabelSS_held : Held oLabelSS := oSl_held (oSl_held (oFlat_held _))

set_option maxHeartbeats 1600000 in
theorem toLabelSS_any (v : Value) (l : List (List Lab)) (w : World) (h : SlR w 1 rLabS v l) (hl : szL List.length l ≤ 1048576) :
    Calls Tryz.prog 59 #[v] w fun e w' => ∃ v' fp, e = .returned v' ∧ Ext w w' ∧ Own w.heap.size w' oLabelSS fp [v'] l := by
  obtain ⟨ad, cap, rfl⟩ := h.len
  have hll := szL_len List.length l
  have HL := Lib.hid hl
  have HS := Lib.hid h
  clear h hl
  have hll2 : l.length ≤ 1048576 := Nat.le_trans hll HL.out
  clear hll
  go_enter Tryz.func59, Tryz.ntmps59
  go_wp2_with (at_make; refine make_n el_eLabelS rfl _ _ rfl w (Ext.refl _) l.length .i64 .i64 rfl rfl ?_ ?_ ?_; omega; (unfold maxLen; omega); intro X g cur hg hs hB; have HF := Lib.hid (Fill.start (xs := l) (o := oLabelS) hg hs hB); clear hg hs hB)
  go_loopw [4] (fun i wr => ∃ k : Nat, k ≤ l.length ∧ i = .int .i64 k ∧ Ext w wr ∧ Hid (Fill w.heap.size wr g 39 1 oLabelS l k)) (fun i _ => l.length - (intOf i).toNat)
  case atStart => exact ⟨0, Nat.zero_le _, rfl, xt, HF⟩
  case round =>
    clear HF X
    obtain ⟨k, hk, rfl, ⟨X, rfl⟩, HF⟩ := hrel
    by_cases hlt : k < l.length
    · obtain ⟨b, off, rfl⟩ := slr_some HS.out hlt
      obtain ⟨ho, vx, hsx, h0⟩ := sl_at HS.out hlt
      obtain ⟨ax, cx, rfl⟩ := hsx.len
      have HV := Lib.hid hsx
      clear hsx
      obtain ⟨hog, hBg, hfz⟩ := HF.out.old
      obtain ⟨y0, hc0⟩ := HF.out.cell hlt (q := 0) (by decide)
      rw [Nat.add_zero, Nat.mul_one] at hc0
      have HZ := Lib.hid (szL_at List.length hlt)
      go_wp2_with fail
      refine (toLabelS_e _ l[k] _ (HV.out.ext rLab_stable xt) (Nat.le_trans HZ.out HL.out)).mono ?_
      rintro e _ ⟨v', fp, rfl, ⟨Y, rfl⟩, hO⟩
      obtain ⟨a', c', rfl⟩ := hO.shape
      have HO := Lib.hid hO
      clear hO
      go_wp2
      refine ⟨⟨k + 1, by omega, by go_num, (by repeat (first | (with_reducible exact Ext.refl _) | (with_reducible refine Ext.setCell ?_ hBg _) | (with_reducible refine Ext.plus ?_ _))), Lib.hid (by
        have this := Fill.step (oSl_local (oFlat_local _)) (oSl_held (oFlat_held _)) (HF.out.ext (oSl_local (oFlat_local _)) (oSl_held (oFlat_held _)) (Ext.plus (.refl _) Y)) hlt (vs := [.slice a' l[k].length c']) rfl HO.out.1 HO.out.2.1 HO.out.2.2 HF.out (Nat.le_refl _) (Ext.plus (.refl _) Y) (by simp)
        rw [layCells_plus _ _ _ _ _ hog] at this
        rw [Nat.mul_one] at this
        exact this)⟩, by simp [intOf]; omega⟩
    · go_wp2
      obtain rfl : k = l.length := by omega
      obtain ⟨fp, hf⟩ := HF.out.done (by unfold maxLen; omega)
      go_ret
      exact ⟨_, _, rfl, xt, hf⟩

set_option maxHeartbeats 1600000 in
theorem szLabelSS_any (v : Value) (l : List (List Lab)) (n : Nat) (w : World) (h : SlR w 1 rLabS v l) (hn : n ≤ 1048576) :
    Calls Tryz.prog 58 #[v, (.int .i64 n)] w fun e w' => e = .returned (.int .i64 (if szL List.length l ≤ n then ((n - szL List.length l : Nat) : Int) else -1)) ∧ Ext w w' := by
  obtain ⟨a, cap, rfl⟩ := h.len
  obtain ⟨_, hlc, hcm⟩ := slr_len h
  have hlm : l.length ≤ 9223372036854775807 := by unfold maxLen at hcm; omega
  clear hcm hlc
  have HS := Lib.hid h
  clear h
  generalize hG : (if szL List.length l ≤ n then ((n - szL List.length l : Nat) : Int) else -1) = G
  have HG := Lib.hid hG
  clear hG
  by_cases hlt : l.length ≤ n
  · have ht : decide ((n : Int) - (l.length : Int) < 0) = false := by simp; omega
    go_enter Tryz.func58, Tryz.ntmps58
    go_wp2
    go_loopw [1, 5] (fun lf i wr => ∃ k m : Nat, k ≤ l.length ∧ i = .int .i64 k ∧ lf = .int .i64 m ∧ m ≤ n ∧ Hid (m + l.length + ((l.take k).map List.length).sum = n) ∧ Ext w wr) (fun _ i _ => l.length - (intOf i).toNat)
    case atStart => exact ⟨0, n - l.length, Nat.zero_le _, rfl, by go_num, by omega, Lib.hid (by simp; omega), xt⟩
    case round =>
      obtain ⟨k, m, hk, rfl, rfl, hm, HM, ⟨X, rfl⟩⟩ := hrel
      by_cases hlt2 : k < l.length
      · obtain ⟨b, off, rfl⟩ := slr_some HS.out hlt2
        obtain ⟨ho, vx, hsx, h0⟩ := sl_at HS.out hlt2
        obtain ⟨ax, cx, rfl⟩ := hsx.len
        have HV := Lib.hid hsx
        clear hsx
        have HT := Lib.hid (szL_take List.length hlt2)
        by_cases hfit : List.length l[k] ≤ m
        · have ht2 : decide (((m - List.length l[k] : Nat) : Int) < 0) = false := decide_eq_false (by omega)
          go_wp2_with fail
          refine (szLabelS_e _ l[k] _ _ (HV.out.ext rLab_stable xt) (by omega)).mono ?_
          rintro e _ ⟨rfl, ⟨Y, rfl⟩⟩
          rw [if_pos hfit]
          go_wp2
          exact ⟨⟨k + 1, m - List.length l[k], by omega, by go_num, rfl, by omega, Lib.hid (by rw [HT.out]; have := HM.out; omega), xt⟩, by simp [intOf]; omega⟩
        · go_wp2_with fail
          refine (szLabelS_e _ l[k] _ _ (HV.out.ext rLab_stable xt) (by omega)).mono ?_
          rintro e _ ⟨rfl, ⟨Y, rfl⟩⟩
          rw [if_neg hfit]
          go_wp2
          go_ret
          exact ⟨ret_int (by rw [← HG.out, if_neg (by have h1 := szL_le List.length hlt2; have h2 := HM.out; omega)]), xt⟩
      · go_wp2
        obtain rfl : k = l.length := by omega
        go_ret
        refine ⟨ret_int ?_, xt⟩
        have h2 := HM.out
        have h3 := HG.out
        rw [List.take_length] at h2
        unfold szL at h3
        rw [if_pos (by omega)] at h3
        omega
  · have ht : decide ((n : Int) - (l.length : Int) < 0) = true := by simp; omega
    have HN : Hid (¬ szL List.length l ≤ n) := Lib.hid (fun h => hlt (Nat.le_trans (szL_len _ _) h))
    go_enter Tryz.func58, Tryz.ntmps58
    go_wp2
    go_ret
    exact ⟨ret_int (by rw [← HG.out, if_neg HN.out]), xt⟩

set_option maxHeartbeats 1600000 in
theorem eqLabelSS_self (v v' : Value) (l : List (List Lab)) (w : World) (h : SlR w 1 rLabS v l) (h' : SlR w 1 rLabS v' l) :
    Calls Tryz.prog 61 #[v, v'] w fun e w' => e = .returned (.bool true) ∧ Ext w w' := by
  obtain ⟨ad, cap, rfl⟩ := h.len
  obtain ⟨ad', cap', rfl⟩ := h'.len
  obtain ⟨_, hlc, hcm⟩ := slr_len h
  have hlm : l.length ≤ 9223372036854775807 := by unfold maxLen at hcm; omega
  clear hcm hlc
  have HS1 := Lib.hid h
  have HS2 := Lib.hid h'
  clear h h'
  go_enter Tryz.func61, Tryz.ntmps61
  go_wp2
  go_loopw [5] (fun i wr => ∃ k : Nat, k ≤ l.length ∧ i = .int .i64 k ∧ Ext w wr) (fun i _ => l.length - (intOf i).toNat)
  case atStart => exact ⟨0, Nat.zero_le _, rfl, xt⟩
  case round =>
    obtain ⟨k, hk, rfl, ⟨X, rfl⟩⟩ := hrel
    by_cases hlt : k < l.length
    · obtain ⟨b, off, rfl⟩ := slr_some HS1.out hlt
      obtain ⟨b', off', rfl⟩ := slr_some HS2.out hlt
      have HS := HS1
      obtain ⟨ho, vx, hsx, h0⟩ := sl_at HS.out hlt
      obtain ⟨ax, cx, rfl⟩ := hsx.len
      have HV := Lib.hid hsx
      clear hsx
      have HV1 := HV
      clear HS HV
      have HS := HS2
      obtain ⟨ho, vx, hsx, h0⟩ := sl_at HS.out hlt
      obtain ⟨ax, cx, rfl⟩ := hsx.len
      have HV := Lib.hid hsx
      clear hsx
      go_wp2_with fail
      (refine wp_region_x 10 (by kernel_rfl) (by kernel_rfl) (by kernel_rfl) ?_; (iterate 10 (apply XReg.step; (case h => (intro w' hw'; obtain ⟨X', rfl⟩ := hw'; go_wp2_with ((go_at_call 126; refine (eqLabelS_e _ _ l[k] _ (HV1.out.ext rLab_stable xt) (HV.out.ext rLab_stable xt)).mono ?_; rintro e _ ⟨rfl, Y3, rfl⟩)); exact ⟨rfl, xt⟩)); (case hv => kernel_rfl))); refine XReg.doneN (fun X => ?_))
      go_wp2
      exact ⟨⟨k + 1, by omega, by go_num, xt⟩, by simp [intOf]; omega⟩
    · go_wp2
      go_ret
      exact ⟨rfl, xt⟩

theorem oLabelSS_r {w : World} {fp : List Nat} {v : Value} {l : List (List Lab)} (h : oLabelSS w fp [v] l) (hok : ∀ x ∈ l, ∀ y ∈ x, y.ok) : SlR w 1 rLabS v l := by
  obtain ⟨v', hv, hs⟩ := oSl_reads (r := fun w cs xs => ∃ v, cs = [v] ∧ SlR w 2 (fun _ cs x => cs = x.cells) v xs) (k := 1) (fun w fp cs xs ho => by
    obtain ⟨u, hu, hs⟩ := oSl_reads (r := fun _ cs x => cs = x.cells) (k := 2) (fun _ _ _ _ ⟨_, hc⟩ => ⟨by rw [hc]; rfl, hc⟩) ho
    exact ⟨by rw [hu]; rfl, u, hu, hs⟩) h
  obtain rfl : v = v' := by simpa using hv
  refine slr_with hs fun cs x hm ⟨u, hu, hs⟩ => ⟨u, hu, slr_with hs fun cs y hy hc => ⟨hc, hok x hm y hy⟩⟩
theorem slr_labss {w : World} {v : Value} {l : List (List Lab)} (h : SlR w 1 rLabS v l) : ∀ x ∈ l, ∀ y ∈ x, y.ok := fun x hx y hy => by
  obtain ⟨_, u, _, hs⟩ := slr_all h x hx
  obtain ⟨_, hr⟩ := slr_all hs y hy
  exact hr.2
end Go.Proofs.YtagdkpcdagknlaaGreat

set_option maxRecDepth 100000
set_option linter.unusedVariables false
namespace Go.Proofs.YtagdkpcdagknlaaGreat
open Go.ChangeShapes Go.WideShapes Go.ChangeAt Go.RowKit Go.Fin1

/-- A pool. -/
structure Pl where
  clear : List (List Lab)
  jobs : List Jb
  now : Int
def Pl.val (p : Pl) (c j : Value) : Value := .agg #[c, j, (.int .i64 p.now)]
/-- A value that is a pool. -/
def ePool (w : World) (v : Value) (p : Pl) : Prop := ∃ a c b d, v = p.val (.slice a p.clear.length c) (.slice b p.jobs.length d) ∧ I64 p.now ∧ SlR w 1 rLabS (.slice a p.clear.length c) p.clear ∧ SlR w 9 rJob (.slice b p.jobs.length d) p.jobs
theorem ePool.ext {w w' : World} {v : Value} {p : Pl} (h : ePool w v p) (hx : Ext w w') : ePool w' v p := by
  obtain ⟨a, c, b, d, hv, h0, h1, h2⟩ := h
  exact ⟨a, c, b, d, hv, h0, h1.ext rLabS_stable hx, h2.ext rJob_stable hx⟩

section
variable {H : Type} {enc : TypeId × Value → H} {w : World} {base : Nat} {spare : Nat → Bool} {held : Bool} {fuel : Nat} {cs : List Value} {x : DataW H × List MemPlace}
end
section
variable {H : Type} {enc : TypeId × Value → H} {w : World} {base : Nat} {spare : Nat → Bool} {held : Bool} {r : Reach} {b0 : Nat} {v : Value} {d : DataW H} {ps : List MemPlace}
end

/-- How much a pool takes of the laws' bound. -/
def Pl.fits (p : Pl) (n : Nat) : Prop := szL List.length p.clear ≤ n ∧ szL Jb.sz p.jobs ≤ n - szL List.length p.clear
instance (p : Pl) (n : Nat) : Decidable (p.fits n) := by unfold Pl.fits; exact inferInstance

/-- The owner of a pool's two lists. -/
def OwnP (B : Nat) (w : World) (fc fj : List Nat) (c j : Value) (p : Pl) : Prop := Own B w oLabelSS fc [c] p.clear ∧ Own B w oJobS fj [j] p.jobs ∧ ∀ b ∈ fc, b ∉ fj

set_option maxHeartbeats 1600000 in
theorem eqPool_self (p : Pl) (v v' : Value) (w : World) (h : ePool w v p) (h' : ePool w v' p) :
    Calls Tryz.prog 53 #[v, v'] w fun e w' => e = .returned (.bool true) ∧ Ext w w' := by
  obtain ⟨a, c, b, d, rfl, h0, h1, h2⟩ := h
  obtain ⟨a', c', b', d', rfl, _, h1', h2'⟩ := h'
  have HC := Lib.hid h1
  have HJ := Lib.hid h2
  have HC' := Lib.hid h1'
  have HJ' := Lib.hid h2'
  clear h0 h1 h2 h1' h2'
  go_enter Tryz.func53, Tryz.ntmps53
  unfold Pl.val
  go_wp2_with fail
  refine (eqLabelSS_self _ _ p.clear _ (HC.out.ext rLabS_stable xt) (HC'.out.ext rLabS_stable xt)).mono ?_
  rintro e _ ⟨rfl, ⟨X, rfl⟩⟩
  go_wp2_with fail
  refine (eqJobS_self _ _ p.jobs _ (HJ.out.ext rJob_stable xt) (HJ'.out.ext rJob_stable xt)).mono ?_
  rintro e _ ⟨rfl, ⟨Y, rfl⟩⟩
  go_wp2
  go_ret
  exact ⟨rfl, xt⟩
theorem OwnP.e {B : Nat} {w : World} {fc fj : List Nat} {c j : Value} {p : Pl} (h : OwnP B w fc fj c j p) (hn : I64 p.now) (hc : ∀ x ∈ p.clear, ∀ y ∈ x, y.ok) (hj : ∀ j ∈ p.jobs, j.fit) : ePool w (p.val c j) p := by
  obtain ⟨a1, c1, rfl⟩ := h.1.shape
  obtain ⟨a2, c2, rfl⟩ := h.2.1.shape
  exact ⟨a1, c1, a2, c2, rfl, hn, oLabelSS_r h.1.1 hc, oJobS_r h.2.1.1 hj⟩
end Go.Proofs.YtagdkpcdagknlaaGreat
