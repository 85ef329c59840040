/- Rows of spans: their walks: rowsRight, fit, FirstFit, FitNodes. -/
import Derived.Test.YtkhmdhdaldbbhaaKPA1
import Derived.Test.YtkhmdhdaldbbhaaKJA1
import Derived.Test.YtkhmdhdaldbbhaaKBA
set_option maxRecDepth 100000
set_option linter.unusedVariables false
namespace Go.Proofs.Ytkhmdhdaldbbhaa
open Go.RowKit Go.Fin1

abbrev rSpnS : World → List Value → List Spn → Prop := rSl 2 rSpn
theorem rSpnS_stable : Stable rSpnS := rSl_stable rSpn_stable

set_option maxHeartbeats 800000 in
theorem indexFuncSpnS_any (fn : Nat) (cap : Array Value) (p : (List Spn) → Bool) (v : Value) (l : List (List Spn)) (w : World) (h : SlR w 1 rSpnS v l)
    (hcf : ∀ args w, (callFunc fn args).run Try.prog w = .ok (.enter fn args) w) (Hf : ∀ W u x, Ext w W → SlR W 2 rSpn u x → Calls Try.prog fn (#[u] ++ cap) W fun e w' => e = .returned (.bool (p x)) ∧ Ext W w') :
    Calls Try.prog 145 #[v, .func (.func fn) #[] cap] w fun e w' =>
      e = .returned ((.int .i64 (findI p l))) ∧ Ext w w' := by
  obtain ⟨a, cap', rfl⟩ := h.len
  obtain ⟨_, hlc, hcm⟩ := slr_len h
  have hlm : l.length ≤ 9223372036854775807 := by unfold maxLen at hcm; omega
  clear hcm hlc
  have HS := Lib.hid h
  have HF := Lib.hid Hf
  clear h Hf
  go_enter Try.func145, Try.ntmps145
  go_wp2
  go_loopw [8, 5] (fun i _ wr => ∃ k : Nat, k ≤ l.length ∧ i = .int .i64 k ∧ Ext w wr ∧ Hid (∀ j (hj : j < l.length), j < k → p l[j] = false)) (fun i _ _ => l.length - (intOf i).toNat)
  case atStart =>
    exact ⟨0, Nat.zero_le _, rfl, Ext.refl _, Lib.hid (fun j _ h => absurd h (Nat.not_lt_zero _))⟩
  case round =>
    obtain ⟨k, hk, rfl, ⟨X, rfl⟩, HH⟩ := hrel
    by_cases hlt : k < l.length
    · obtain ⟨b, off, rfl⟩ := slr_some HS.out hlt
      obtain ⟨ho, vx, hsx, h0⟩ := sl_at HS.out hlt
      obtain ⟨ax, cx, rfl⟩ := hsx.len
      have HRV := Lib.hid (hsx.ext rSpn_stable ((Ext.refl w).plus X))
      clear hsx
      go_wp2_with fail
      refine (HF.out _ _ l[k] (Ext.refl w |>.plus X) HRV.out).mono ?_
      rintro e _ ⟨rfl, Y, rfl⟩
      cases hp : p l[k]
      · go_wp2
        exact ⟨⟨k + 1, by omega, by go_num, xt, Lib.hid (fun j hj hjk => by
          by_cases e : j < k
          · exact HH.out j hj e
          · obtain rfl : j = k := by omega
            exact hp)⟩, by simp [intOf]; omega⟩
      · go_wp2
        go_ret
        exact ⟨ret_int (findI_at hlt HH.out hp).symm, xt⟩
    · go_wp2
      go_ret
      exact ⟨ret_int (findI_none (fun j hj => HH.out j hj (by omega))).symm, xt⟩

/-! the rows in which a span is free -/
def fitN (rows : List (List Spn)) (x : Spn) : Nat → List Int
  | 0 => []
  | k + 1 => if freeL (rows.getD k []) x then fitN rows x k ++ [(k : Int)] else fitN rows x k
@[irreducible] def fitL (rows : List (List Spn)) (x : Spn) : List Int := fitN rows x rows.length
theorem fitN_len (rows : List (List Spn)) (x : Spn) : ∀ k, (fitN rows x k).length ≤ k
  | 0 => Nat.le_refl _
  | k + 1 => by have := fitN_len rows x k; unfold fitN; split <;> simp <;> omega
theorem fitN_step {rows : List (List Spn)} {x : Spn} {k : Nat} (hk : k < rows.length) : fitN rows x (k + 1) = if freeL rows[k] x then fitN rows x k ++ [(k : Int)] else fitN rows x k := by
  show (if freeL (rows.getD k []) x then _ else _) = _
  rw [show rows.getD k [] = rows[k] by simp [hk]]
theorem fitN_mem {rows : List (List Spn)} {x : Spn} : ∀ {k : Nat} {n : Int}, n ∈ fitN rows x k → 0 ≤ n ∧ n < k
  | 0, n, h => by cases h
  | k + 1, n, h => by
    unfold fitN at h
    split at h
    · rcases List.mem_append.1 h with h | h
      · have := fitN_mem h; omega
      · simp at h; omega
    · have := fitN_mem h; omega
theorem fitN_pre {rows : List (List Spn)} {x : Spn} (k : Nat) : ∀ d, ∃ t, fitN rows x (k + d) = fitN rows x k ++ t
  | 0 => ⟨[], by simp⟩
  | d + 1 => by
    obtain ⟨t, ht⟩ := fitN_pre k d
    have hs : fitN rows x (k + (d + 1)) = if freeL (rows.getD (k + d) []) x then fitN rows x (k + d) ++ [((k + d : Nat) : Int)] else fitN rows x (k + d) := rfl
    rw [hs]
    split
    · exact ⟨t ++ [((k + d : Nat) : Int)], by rw [ht, List.append_assoc]⟩
    · exact ⟨t, ht⟩
/-- So many of them; none, if there are not so many. -/
@[irreducible] def fitNeed (rows : List (List Spn)) (need : Int) (x : Spn) : List Int := if need ≤ (fitL rows x).length then (fitL rows x).take need.toNat else []

set_option maxHeartbeats 1600000 in
theorem l03Fit_any (v : Value) (l : List (List Spn)) (need : Int) (x : Spn) (w : World) (h : SlR w 1 rSpnS v l) (hl : l.length ≤ 1048576) (hn : 1 ≤ need) :
    Calls Try.prog 111 #[v, (.int .i64 need), .agg #[(.int .i64 x.f), (.int .i64 x.t)]] w fun e w' => ∃ v', e = .returned v' ∧ Ext w w' ∧ Row w.heap.size w' 2 1 intCell v' (fitNeed l need x) := by
  obtain ⟨a, cap, rfl⟩ := h.len
  have HS := Lib.hid h
  clear h
  go_enter Try.func111, Try.ntmps111
  go_wp2
  go_loopw [8, 7] (fun i o wr => ∃ k : Nat, k ≤ l.length ∧ i = .int .i64 k ∧ Ext (w.alloc (.cells #[(.int .i64 x.f), (.int .i64 x.t)] 100)) wr ∧ ((fitN l x k).length : Int) ≤ need ∧ Hid (Row (w.alloc (.cells #[(.int .i64 x.f), (.int .i64 x.t)] 100)).heap.size wr 2 1 intCell o (fitN l x k))) (fun i _ _ => l.length - (intOf i).toNat)
  case atStart => exact ⟨0, Nat.zero_le _, rfl, xt, (by show ((0 : Nat) : Int) ≤ need; omega), Lib.hid (Row.made1 _ _ _ _ _)⟩
  case round =>
    obtain ⟨k, hk, rfl, ⟨X, rfl⟩, hle, HH⟩ := hrel
    obtain ⟨ao, co, rfl⟩ := HH.out.shape
    have hZ := fitN_len l x k
    by_cases hlt : k < l.length
    · by_cases hfull : ((fitN l x k).length : Int) < need
      · obtain ⟨b, off, rfl⟩ := slr_some HS.out hlt
        obtain ⟨ho, vx, hsx, h0⟩ := sl_at HS.out hlt
        obtain ⟨ax, cx, rfl⟩ := hsx.len
        have HX := Lib.hid hsx
        have hN := Lib.hid (fitN_step (x := x) hlt)
        clear hsx
        go_upto_region 5 with fail
        cases hf : freeL l[k] ⟨x.f, x.t⟩
        all_goals (refine wp_region_x 6 (by kernel_rfl) (by kernel_rfl) (by kernel_rfl) ?_; (iterate 6 (apply XReg.step; (case h => (intro w' hw'; obtain ⟨X', rfl⟩ := hw'; go_wp2_with ((go_at_call 125; refine (l03Free_any _ l[k] _ _ _ (HX.out.ext rSpn_stable xt)).mono ?_; rintro e _ ⟨rfl, Y, rfl⟩)); exact ⟨rfl, xt⟩)); (case hv => kernel_rfl))); refine XReg.doneN (fun X => ?_))
        · go_wp2
          exact ⟨⟨k + 1, by omega, by go_num, xt, by rw [hN.out, if_neg (by rw [show freeL l[k] x = false from hf]; simp)]; exact hle, Lib.hid (by rw [hN.out, if_neg (by rw [show freeL l[k] x = false from hf]; simp)]; exact HH.out.ext xt)⟩, by simp [intOf]; omega⟩
        · go_wp2_with (at_builtin; go_must (refine Row.app el_Int rfl _ _ rfl (w.alloc (.cells #[(.int .i64 x.f), (.int .i64 x.t)] 100)) xt _ _ rfl (HH.out.ext xt) (k : Int) rfl _ ?_ rfl rfl ?_ ?_ ?_ ?_); (simp [go_sem]); (simp [Value.oneCell']); (unfold maxLen; omega); omega; intro v' X' hown' hne; have HO' := Lib.hid hown'; clear hown' hne)
          exact ⟨⟨k + 1, by omega, by go_num, xt, by rw [hN.out, if_pos (show freeL l[k] x = true from hf)]; simp; omega, Lib.hid (by rw [hN.out, if_pos (show freeL l[k] x = true from hf)]; exact HO'.out)⟩, by simp [intOf]; omega⟩
      · have hfb : decide (((fitN l x k).length : Int) < need) = false := decide_eq_false hfull
        have hge : ¬ ((fitN l x k).length : Int) < need := hfull
        go_wp2
        go_ret
        refine ⟨_, rfl, xt, ?_⟩
        have hq : fitNeed l need x = fitN l x k := by
          obtain ⟨t, ht⟩ := fitN_pre (rows := l) (x := x) k (l.length - k)
          rw [show k + (l.length - k) = l.length by omega] at ht
          unfold fitNeed fitL
          rw [ht, if_pos (by simp; omega), show need.toNat = (fitN l x k).length by omega]
          simp
        rw [hq]
        exact HH.out.mono (by simp)
    · obtain rfl : k = l.length := by omega
      by_cases hfull : ((fitN l x l.length).length : Int) < need
      · have hq : fitNeed l need x = [] := by unfold fitNeed fitL; rw [if_neg (by omega)]
        go_wp2
        go_ret
        refine ⟨_, rfl, xt, ?_⟩
        try rw [hq]
        exact Row.made2 _ _ _ _ _ _
      · have hq : fitNeed l need x = fitN l x l.length := by
          unfold fitNeed fitL
          rw [if_pos (by omega), show need.toNat = (fitN l x l.length).length by omega]
          simp
        go_wp2
        go_ret
        refine ⟨_, rfl, xt, ?_⟩
        exact HH.out.mono (by simp)

end Go.Proofs.Ytkhmdhdaldbbhaa

set_option maxRecDepth 100000
set_option linter.unusedVariables false
namespace Go.Proofs.Ytkhmdhdaldbbhaa
open Go.RowKit Go.Fin1

/-! the first time at which so many rows are free -/
@[irreducible] def fitsAt (rows : List (List Spn)) (need length t : Int) : Bool := decide (need ≤ (fitL rows ⟨t, t + length⟩).length)
@[irreducible] def firstL (rows : List (List Spn)) (need length now : Int) : Int :=
  match (List.range 41).find? (fun (d : Nat) => fitsAt rows need length (now + d)) with
  | some d => now + d
  | none => -1
theorem firstL_at {rows : List (List Spn)} {need length now : Int} {k : Nat} (hk : k ≤ 40) (h : ∀ d, d < k → fitsAt rows need length (now + (d : Nat)) = false) (hp : fitsAt rows need length (now + k) = true) : firstL rows need length now = now + k := by
  unfold firstL
  have : (List.range 41).find? (fun (d : Nat) => fitsAt rows need length (now + d)) = some k := by
    rw [List.find?_range_eq_some]
    exact ⟨hp, List.mem_range.2 (by omega), fun j hj => by simpa using h j hj⟩
  rw [this]
theorem firstL_none {rows : List (List Spn)} {need length now : Int} (h : ∀ d, d < 41 → fitsAt rows need length (now + (d : Nat)) = false) : firstL rows need length now = -1 := by
  unfold firstL
  have : (List.range 41).find? (fun (d : Nat) => fitsAt rows need length (now + d)) = none := by
    rw [List.find?_eq_none]
    intro d hd
    simpa using h d (List.mem_range.1 hd)
  rw [this]
theorem fitNeed_pos {rows : List (List Spn)} {need length t : Int} (hn : 1 ≤ need) : 0 < (fitNeed rows need ⟨t, t + length⟩).length ↔ fitsAt rows need length t = true := by
  unfold fitNeed fitsAt
  split
  · rename_i h
    rw [decide_eq_true h]
    simp; omega
  · rename_i h
    rw [decide_eq_false h]; simp

set_option maxHeartbeats 800000 in
theorem l03First_any (v : Value) (l : List (List Spn)) (need length now : Int) (w : World) (h : SlR w 1 rSpnS v l) (hl : l.length ≤ 1048576) (hn : 1 ≤ need) (hl1 : 0 ≤ length) (hl2 : length ≤ 1000000) (hn1 : 0 ≤ now) (hn2 : now ≤ 1000000) :
    Calls Try.prog 110 #[v, (.int .i64 need), (.int .i64 length), (.int .i64 now)] w fun e w' => e = .returned (.int .i64 (firstL l need length now)) ∧ Ext w w' := by
  have HS := Lib.hid h
  clear h
  go_enter Try.func110, Try.ntmps110
  go_wp2
  go_loopw [9] (fun i wr => ∃ k : Nat, k ≤ 41 ∧ i = (.int .i64 (now + (k : Int))) ∧ Ext w wr ∧ Hid (∀ d, d < k → fitsAt l need length (now + (d : Nat)) = false)) (fun i _ => 41 - (intOf i - now).toNat)
  case atStart => exact ⟨0, by omega, by go_num, xt, Lib.hid (fun d h => absurd h (Nat.not_lt_zero _))⟩
  case round =>
    obtain ⟨k, hk, rfl, ⟨X, rfl⟩, HH⟩ := hrel
    by_cases hlt : k ≤ 40
    · have hb : decide (now + (k : Int) ≤ now + 40) = true := decide_eq_true (by omega)
      go_wp2_with fail
      refine (l03Fit_any v l need ⟨now + k, now + k + length⟩ _ (HS.out.ext rSpnS_stable xt) hl hn).mono ?_
      rintro e _ ⟨v', rfl, ⟨Y, rfl⟩, hR⟩
      obtain ⟨a', c', rfl⟩ := hR.shape
      clear hR
      cases hf : fitsAt l need length (now + k)
      · have hb2 : ¬ 0 < (fitNeed l need ⟨now + k, now + k + length⟩).length := fun h => by rw [(fitNeed_pos hn).1 h] at hf; cases hf
        go_wp2
        exact ⟨⟨k + 1, by omega, by go_num, xt, Lib.hid (fun d hd => by
          by_cases e : d < k
          · exact HH.out d e
          · obtain rfl : d = k := by omega
            exact hf)⟩, by simp [intOf]; omega⟩
      · have hb2 := (fitNeed_pos hn).2 hf
        go_wp2
        go_ret
        exact ⟨ret_int (firstL_at hlt HH.out hf).symm, xt⟩
    · have hb : decide (now + (k : Int) ≤ now + 40) = false := decide_eq_false (by omega)
      go_wp2
      go_ret
      exact ⟨ret_int (firstL_none (fun d hd => HH.out d (by omega))).symm, xt⟩

theorem isNow_any (a : Int) (w : World) :
    Calls Try.prog 73 #[(.int .i64 a)] w fun e w' => e = .returned (.bool (isIn a 0 999900)) ∧ w = w' := by
  go_enter Try.func73, Try.ntmps73
  go_wp2_with (go_at_call 38; refine (within_any _ _ _ _).mono ?_; rintro e _ ⟨rfl, rfl⟩)
  go_ret
  exact ⟨rfl, rfl⟩

theorem l03Now_any (a : Int) (w : World) :
    Calls Try.prog 106 #[(.int .i64 a)] w fun e w' => e = .returned (.bool (isIn a 0 999900)) ∧ w = w' := by
  go_enter Try.func106, Try.ntmps106
  go_wp2_with (go_at_call 42; refine (l02Is_any _ _ _ _).mono ?_; rintro e _ ⟨rfl, rfl⟩)
  go_ret
  exact ⟨rfl, rfl⟩

