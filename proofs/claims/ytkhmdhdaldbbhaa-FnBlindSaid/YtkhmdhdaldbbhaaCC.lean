/- The order of jobs: the walks of cmp.Compare, cmp.Or, compareLabels, compareJobs, Ahead. -/
import Derived.Test.YtkhmdhdaldbbhaaJA1
import Derived.Test.YtkhmdhdaldbbhaaBG
set_option maxRecDepth 100000
set_option linter.unusedVariables false
namespace Go.Proofs.Ytkhmdhdaldbbhaa
open Go.RowKit Go.Fin1

@[irreducible] def cmpI (a b : Int) : Int := if a < b then -1 else if b < a then 1 else 0
@[irreducible] def orI : List Int → Int
  | [] => 0
  | x :: xs => if x = 0 then orI xs else x
theorem orI_nil : orI [] = 0 := by unfold orI; rfl
theorem orI_cons (x : Int) (xs : List Int) : orI (x :: xs) = if x = 0 then orI xs else x := by rw [orI]
theorem cmpI_bd (a b : Int) : -1 ≤ cmpI a b ∧ cmpI a b ≤ 1 := by unfold cmpI; split <;> (try split) <;> omega
theorem cmpI_lt {a b : Int} : cmpI a b < 0 ↔ a < b := by unfold cmpI; split <;> (try split) <;> omega
theorem cmpI_eq {a b : Int} : cmpI a b = 0 ↔ a = b := by unfold cmpI; split <;> (try split) <;> omega
@[irreducible] def cmpL (a b : Lab) : Int := orI [cmpI a.lv b.lv, cmpI a.st b.st]
@[irreducible] def cmpJ (a b : Jb) : Int := orI [cmpL a.l b.l, cmpI b.prio a.prio, cmpI a.id b.id]
theorem cmpL_bd (a b : Lab) : -1 ≤ cmpL a b ∧ cmpL a b ≤ 1 := by
  unfold cmpL; rw [orI_cons, orI_cons, orI_nil]
  have h1 := cmpI_bd a.lv b.lv
  have h2 := cmpI_bd a.st b.st
  split <;> (try split) <;> omega
theorem cmpL_lt {a b : Lab} : cmpL a b < 0 ↔ a.lv < b.lv ∨ (a.lv = b.lv ∧ a.st < b.st) := by
  unfold cmpL; rw [orI_cons, orI_cons, orI_nil]
  have h1 := @cmpI_lt a.lv b.lv
  have h2 := @cmpI_lt a.st b.st
  have e1 := @cmpI_eq a.lv b.lv
  have e2 := @cmpI_eq a.st b.st
  split <;> (try split) <;> omega
theorem cmpL_eq {a b : Lab} : cmpL a b = 0 ↔ a.lv = b.lv ∧ a.st = b.st := by
  unfold cmpL; rw [orI_cons, orI_cons, orI_nil]
  have h1 := @cmpI_lt a.lv b.lv
  have h2 := @cmpI_lt a.st b.st
  have e1 := @cmpI_eq a.lv b.lv
  have e2 := @cmpI_eq a.st b.st
  split <;> (try split) <;> omega
/-- Job a comes ahead of job b. -/
@[irreducible] def aheadJ (a b : Jb) : Bool := decide (cmpJ a b < 0)
theorem aheadJ_iff {a b : Jb} : aheadJ a b = true ↔ a.l.lv < b.l.lv ∨ (a.l.lv = b.l.lv ∧ (a.l.st < b.l.st ∨ (a.l.st = b.l.st ∧ (b.prio < a.prio ∨ (b.prio = a.prio ∧ a.id < b.id))))) := by
  unfold aheadJ cmpJ; rw [orI_cons, orI_cons, orI_cons, orI_nil, decide_eq_true_eq]
  have h1 := @cmpL_lt a.l b.l
  have e1 := @cmpL_eq a.l b.l
  have h2 := @cmpI_lt b.prio a.prio
  have e2 := @cmpI_eq b.prio a.prio
  have h3 := @cmpI_lt a.id b.id
  have e3 := @cmpI_eq a.id b.id
  split <;> (try split) <;> (try split) <;> omega

/-- A slice of these integers. -/
def kSli (xs : List Int) : XReg.Kind := fun v w => ∃ a c, v = .slice a xs.length c ∧ SlR w 1 rInt v xs
theorem sl_new (w : World) (t : TypeId) (xs : List Int) (h : ∀ x ∈ xs, I64 x) (hm : xs.length ≤ maxLen) :
    SlR (w.alloc (.cells (xs.map (Value.int .i64)).toArray t)) 1 rInt (.slice (some ⟨w.heap.size, 0, none⟩) xs.length xs.length) xs := by
  refine ⟨_, xs.length, rfl, Nat.le_refl _, hm, fun i hi => ?_⟩
  refine ⟨w.heap.size, 0, [(.int .i64 xs[i])], rfl, rfl, fun j u hu => ?_, rfl, h _ (List.getElem_mem hi)⟩
  cases j with
  | succ j => simp at hu
  | zero =>
    simp only [List.getElem?_cons_zero, Option.some.injEq] at hu
    subst hu
    rw [World.cell?_alloc_new]
    simp [hi]
theorem sl_new2 (w : World) (o1 o2 : Obj) (X : More) (t : TypeId) (xs : List Int) (h : ∀ x ∈ xs, I64 x) (hm : xs.length ≤ maxLen) :
    SlR ((((w.alloc o1).alloc o2).plus X).alloc (.cells (xs.map (Value.int .i64)).toArray t)) 1 rInt (.slice (some ⟨w.heap.size + 1 + 1 + X.n, 0, none⟩) xs.length xs.length) xs := by
  have := sl_new (((w.alloc o1).alloc o2).plus X) t xs h hm
  simp only [World.size_plus, World.size_alloc] at this
  exact this
theorem kSli_good (xs : List Int) (h : ∀ x ∈ xs, I64 x) (hm : xs.length ≤ maxLen) : XReg.GoodK (kSli xs) :=
  ⟨fun _ _ _ hx ⟨a, c, hv, h⟩ => ⟨a, c, hv, h.ext rInt_stable hx⟩, _, _, _, _, rfl, sl_new default 0 xs h hm⟩
theorem kSli_r {xs : List Int} {v : Value} {w : World} (h : kSli xs v w) : SlR w 1 rInt v xs := by obtain ⟨_, _, _, h⟩ := h; exact h

set_option maxHeartbeats 400000 in
theorem isNaN_any (a : Int) (w : World) :
    Calls Try.prog 88 #[(.int .i64 a)] w fun e w' => e = .returned (.bool false) ∧ w = w' := by
  go_enter Try.func88, Try.ntmps88
  go_wp2
  go_ret
  exact ⟨rfl, rfl⟩

set_option maxHeartbeats 400000 in
theorem cmpI_any (a b : Int) (w : World) :
    Calls Try.prog 65 #[(.int .i64 a), (.int .i64 b)] w fun e w' => e = .returned (.int .i64 (cmpI a b)) ∧ w = w' := by
  go_enter Try.func65, Try.ntmps65
  go_wp2_with ((go_at_call 88; refine (isNaN_any _ _).mono ?_; rintro e _ ⟨rfl, rfl⟩))
  all_goals go_ret
  all_goals exact ⟨ret_int (by unfold cmpI; split <;> (try split) <;> omega), rfl⟩

theorem orI_skip {xs : List Int} : ∀ {k : Nat}, (∀ j (hj : j < xs.length), j < k → xs[j] = 0) → orI xs = orI (xs.drop k) := by
  induction xs with
  | nil => intro k _; simp
  | cons x xs ih =>
    intro k h
    cases k with
    | zero => rfl
    | succ k =>
      have h0 : x = 0 := h 0 (by simp) (by omega)
      rw [orI_cons, if_pos h0, List.drop_succ_cons]
      exact ih fun j hj hjk => h (j + 1) (by simpa using hj) (by omega)
set_option maxHeartbeats 800000 in
theorem cmpOr_any (v : Value) (xs : List Int) (w : World) (h : SlR w 1 rInt v xs) :
    Calls Try.prog 63 #[v] w fun e w' => e = .returned (.int .i64 (orI xs)) ∧ Ext w w' := by
  obtain ⟨a, cap, rfl⟩ := h.len
  obtain ⟨_, hlc, hcm⟩ := slr_len h
  have hlm : xs.length ≤ 9223372036854775807 := by unfold maxLen at hcm; omega
  clear hcm hlc
  have HS := Lib.hid h
  clear h
  go_enter Try.func63, Try.ntmps63
  go_wp2
  go_loopw [8, 5] (fun i _ wr => ∃ k : Nat, k ≤ xs.length ∧ i = .int .i64 k ∧ Ext w wr ∧ Hid (∀ j (hj : j < xs.length), j < k → xs[j] = 0)) (fun i _ _ => xs.length - (intOf i).toNat)
  case atStart => exact ⟨0, Nat.zero_le _, rfl, Ext.refl _, Lib.hid (fun j _ h => absurd h (Nat.not_lt_zero _))⟩
  case round =>
    obtain ⟨k, hk, rfl, ⟨X, rfl⟩, HH⟩ := hrel
    by_cases hlt : k < xs.length
    · obtain ⟨b, off, rfl⟩ := slr_some HS.out hlt
      obtain ⟨ho, hok, h0⟩ := int_at HS.out hlt
      cases hz : (xs[k] == 0)
      · have hz' : ¬ xs[k] = 0 := by simpa using hz
        have HR := Lib.hid ((orI_skip HH.out).trans (by rw [List.drop_eq_getElem_cons hlt, orI_cons, if_neg hz']))
        go_wp2
        go_ret
        exact ⟨ret_int HR.out.symm, (by repeat (first | exact Ext.refl _ | apply Ext.plus | apply Ext.alloc | apply Ext.drew))⟩
      · have hz' : xs[k] = 0 := by simpa using hz
        have HZ := Lib.hid hz'
        clear hz'
        go_wp2
        exact ⟨⟨k + 1, by omega, by go_num, (by repeat (first | exact Ext.refl _ | apply Ext.plus | apply Ext.alloc | apply Ext.drew)), Lib.hid (fun j hj hjk => by
          by_cases e : j < k
          · exact HH.out j hj e
          · obtain rfl : j = k := by omega
            exact HZ.out)⟩, by simp [intOf]; omega⟩
    · go_wp2
      go_ret
      exact ⟨ret_int (by rw [orI_skip (k := xs.length) (fun j hj _ => HH.out j hj (by omega)), List.drop_length, orI_nil]), (by repeat (first | exact Ext.refl _ | apply Ext.plus | apply Ext.alloc | apply Ext.drew))⟩

set_option maxHeartbeats 800000 in
theorem compareLabels_any (a b c d : Int) (w : World) :
    Calls Try.prog 64 #[.agg #[(.int .i64 a), (.int .i64 b)], .agg #[(.int .i64 c), (.int .i64 d)]] w fun e w' => e = .returned (.int .i64 (cmpL ⟨a, b⟩ ⟨c, d⟩)) ∧ Ext w w' := by
  have hi := Lib.hid (show ∀ x ∈ [cmpI a c, cmpI b d], I64 x from fun x hx => by
    have h1 := cmpI_bd a c
    have h2 := cmpI_bd b d
    simp at hx
    rcases hx with rfl | rfl <;> (unfold I64; omega))
  have HL : Hid (cmpL ⟨a, b⟩ ⟨c, d⟩ = orI [cmpI a c, cmpI b d]) := Lib.hid (by unfold cmpL; rfl)
  go_enter Try.func64, Try.ntmps64
  go_upto_region 1 with fail
  (apply wp_region_y (m := 13) (Ks := [_, _, _, _, _, _, _, _, _, _, kSli [cmpI a c, cmpI b d], _, _]); (case hm => kernel_rfl); (case hc => kernel_rfl); (case hd => kernel_rfl); (case hl => rfl))
  case h =>
    (iterate 10 (apply YReg.step; (case h => (intro w' hw' hF'; obtain ⟨X', rfl⟩ := hw'; have HF' := Lib.hid hF'; clear hF'; go_wp2_with ((go_at_call 65; refine (cmpI_any _ _ _).mono ?_; rintro e _ ⟨rfl, rfl⟩)); exact ⟨rfl, (by repeat (first | exact Ext.refl _ | apply Ext.plus | apply Ext.alloc | apply Ext.drew))⟩)); (case hv => kernel_rfl)))
    refine YReg.kind (fun w' hw' hF' => ?_) (fun v w1 hK => ?_)
    · obtain ⟨X', rfl⟩ := hw'
      clear hF'
      go_wp2_with fail
      refine ⟨(by repeat (first | exact Ext.refl _ | apply Ext.plus | apply Ext.alloc | apply Ext.drew)), _, _, rfl, ?_⟩
      exact sl_new2 w _ _ X' _ [cmpI a c, cmpI b d] hi.out (by show 2 ≤ maxLen; decide)
    · obtain ⟨a3, c3, rfl, hs3⟩ := hK
      clear hs3 w1
      (apply YReg.val (.int .i64 (cmpL ⟨a, b⟩ ⟨c, d⟩)); (case h => (intro w' hw' hF'; obtain ⟨X', rfl⟩ := hw'; have HF' := Lib.hid hF'; clear hF'; go_wp2_with ((refine (cmpOr_any _ [cmpI a c, cmpI b d] _ (kSli_r (HF'.out.get 10 rfl (by kernel_rfl)))).mono ?_; rintro e _ ⟨rfl, Y, rfl⟩; rw [← HL.out])); exact ⟨rfl, (by repeat (first | exact Ext.refl _ | apply Ext.plus | apply Ext.alloc | apply Ext.drew))⟩)); (case hv => kernel_rfl))
      (apply YReg.val (.int .i64 (cmpL ⟨a, b⟩ ⟨c, d⟩)); (case h => (intro w' hw' hF'; obtain ⟨X', rfl⟩ := hw'; have HF' := Lib.hid hF'; clear hF'; go_wp2_with (fail); exact ⟨rfl, (by repeat (first | exact Ext.refl _ | apply Ext.plus | apply Ext.alloc | apply Ext.drew))⟩)); (case hv => kernel_rfl))
      refine YReg.doneN (fun X _ => ?_)
      go_wp2
      go_ret
      exact ⟨rfl, (by repeat (first | exact Ext.refl _ | apply Ext.plus | apply Ext.alloc | apply Ext.drew))⟩
  case hg =>
    (repeat' (first | exact trivial | exact XReg.GoodK.same _ default | refine And.intro ?_ ?_))
    exact kSli_good _ hi.out (by show 2 ≤ maxLen; decide)

end Go.Proofs.Ytkhmdhdaldbbhaa

set_option maxRecDepth 100000
set_option linter.unusedVariables false
namespace Go.Proofs.Ytkhmdhdaldbbhaa
open Go.RowKit Go.Fin1

set_option maxHeartbeats 1600000 in
theorem compareJobs_any (a b : Jb) (na nb : Value) (w : World) :
    Calls Try.prog 30 #[a.val na, b.val nb] w fun e w' => e = .returned (.int .i64 (cmpJ a b)) ∧ Ext w w' := by
  obtain ⟨⟨lv, st⟩, id, need, long, prio, state, start, nodes⟩ := a
  obtain ⟨⟨lv2, st2⟩, id2, need2, long2, prio2, state2, start2, nodes2⟩ := b
  unfold Jb.val
  simp only
  have hi := Lib.hid (show ∀ x ∈ [cmpL ⟨lv, st⟩ ⟨lv2, st2⟩, cmpI prio2 prio, cmpI id id2], I64 x from fun x hx => by
    have h1 := cmpL_bd ⟨lv, st⟩ ⟨lv2, st2⟩
    have h2 := cmpI_bd prio2 prio
    have h3 := cmpI_bd id id2
    simp at hx
    rcases hx with rfl | rfl | rfl <;> (unfold I64; omega))
  generalize hG : cmpJ _ _ = G
  have HL : Hid (G = orI [cmpL ⟨lv, st⟩ ⟨lv2, st2⟩, cmpI prio2 prio, cmpI id id2]) := Lib.hid (by rw [← hG]; unfold cmpJ; rfl)
  clear hG
  go_enter Try.func30, Try.ntmps30
  go_upto_region 1 with fail
  (apply wp_region_y (m := 18) (Ks := [_, _, _, _, _, _, _, _, _, _, _, _, _, _, _, kSli [cmpL ⟨lv, st⟩ ⟨lv2, st2⟩, cmpI prio2 prio, cmpI id id2], _, _]); (case hm => kernel_rfl); (case hc => kernel_rfl); (case hd => kernel_rfl); (case hl => rfl))
  case h =>
    (iterate 15 (apply YReg.step; (case h => (intro w' hw' hF'; obtain ⟨X', rfl⟩ := hw'; have HF' := Lib.hid hF'; clear hF'; go_wp2_with (first | (go_at_call 65; refine (cmpI_any _ _ _).mono ?_; rintro e _ ⟨rfl, rfl⟩) | (go_at_call 64; refine (compareLabels_any _ _ _ _ _).mono ?_; rintro e _ ⟨rfl, X, rfl⟩)); exact ⟨rfl, (by repeat (first | exact Ext.refl _ | apply Ext.plus | apply Ext.alloc | apply Ext.drew))⟩)); (case hv => kernel_rfl)))
    refine YReg.kind (fun w' hw' hF' => ?_) (fun v w1 hK => ?_)
    · obtain ⟨X', rfl⟩ := hw'
      clear hF'
      go_wp2_with fail
      refine ⟨(by repeat (first | exact Ext.refl _ | apply Ext.plus | apply Ext.alloc | apply Ext.drew)), _, _, rfl, ?_⟩
      exact sl_new2 w _ _ X' _ [cmpL ⟨lv, st⟩ ⟨lv2, st2⟩, cmpI prio2 prio, cmpI id id2] hi.out (by show 3 ≤ maxLen; decide)
    · obtain ⟨a3, c3, rfl, hs3⟩ := hK
      clear hs3 w1
      (apply YReg.val (.int .i64 G); (case h => (intro w' hw' hF'; obtain ⟨X', rfl⟩ := hw'; have HF' := Lib.hid hF'; clear hF'; go_wp2_with ((go_at_call 63; have hk := HF'.out.get 15 (p := (kSli [cmpL ⟨lv, st⟩ ⟨lv2, st2⟩, cmpI prio2 prio, cmpI id id2], .slice a3 [cmpL ⟨lv, st⟩ ⟨lv2, st2⟩, cmpI prio2 prio, cmpI id id2].length c3)) (by kernel_rfl) (by kernel_rfl); refine (cmpOr_any _ [cmpL ⟨lv, st⟩ ⟨lv2, st2⟩, cmpI prio2 prio, cmpI id id2] _ (kSli_r hk)).mono ?_; clear hk; rintro e _ ⟨rfl, Y, rfl⟩; rw [← HL.out])); exact ⟨rfl, (by repeat (first | exact Ext.refl _ | apply Ext.plus | apply Ext.alloc | apply Ext.drew))⟩)); (case hv => kernel_rfl))
      (apply YReg.val (.int .i64 G); (case h => (intro w' hw' hF'; obtain ⟨X', rfl⟩ := hw'; have HF' := Lib.hid hF'; clear hF'; go_wp2_with (fail); exact ⟨rfl, (by repeat (first | exact Ext.refl _ | apply Ext.plus | apply Ext.alloc | apply Ext.drew))⟩)); (case hv => kernel_rfl))
      refine YReg.doneN (fun X _ => ?_)
      go_wp2
      go_ret
      exact ⟨rfl, (by repeat (first | exact Ext.refl _ | apply Ext.plus | apply Ext.alloc | apply Ext.drew))⟩
  case hg =>
    (repeat' (first | exact trivial | exact XReg.GoodK.same _ default | refine And.intro ?_ ?_))
    exact kSli_good _ hi.out (by show 3 ≤ maxLen; decide)

end Go.Proofs.Ytkhmdhdaldbbhaa

set_option maxRecDepth 100000
set_option linter.unusedVariables false
namespace Go.Proofs.Ytkhmdhdaldbbhaa
open Go.RowKit Go.Fin1


set_option maxHeartbeats 1600000 in
theorem implAhead_any (a b : Jb) (na nb : Value) (w : World) (hoa : a.ok) (hob : b.ok) (ha : SlR w 1 rInt na a.nodes) (hb : SlR w 1 rInt nb b.nodes) :
    Calls Try.prog 8 #[a.val na, b.val nb] w fun e w' => e = .returned (.bool (jobR a && jobR b && aheadJ a b)) ∧ Ext w w' := by
  have HA := Lib.hid ha
  have HB := Lib.hid hb
  have HN := Lib.hid (show decide (cmpJ a b < 0) = aheadJ a b by unfold aheadJ; rfl)
  obtain ⟨x1, x2, rfl⟩ := ha.len
  obtain ⟨y1, y2, rfl⟩ := hb.len
  clear ha hb
  go_enter Try.func8, Try.ntmps8
  unfold Jb.val
  go_wp2_with fail
  refine (implJobRight_any a _ _ hoa (HA.out.ext rInt_stable (by repeat (first | exact Ext.refl _ | apply Ext.plus | apply Ext.alloc | apply Ext.drew)))).mono ?_
  rintro e _ ⟨rfl, ⟨Y, rfl⟩⟩
  cases q1 : jobR a
  · go_wp2
    go_ret
    exact ⟨ret_bool (by simp [q1]), (by repeat (first | exact Ext.refl _ | apply Ext.plus | apply Ext.alloc | apply Ext.drew))⟩
  go_wp2_with fail
  refine (implJobRight_any b _ _ hob (HB.out.ext rInt_stable (by repeat (first | exact Ext.refl _ | apply Ext.plus | apply Ext.alloc | apply Ext.drew)))).mono ?_
  rintro e _ ⟨rfl, ⟨Y2, rfl⟩⟩
  cases q2 : jobR b
  · go_wp2
    go_ret
    exact ⟨ret_bool (by simp [q1, q2]), (by repeat (first | exact Ext.refl _ | apply Ext.plus | apply Ext.alloc | apply Ext.drew))⟩
  go_wp2_with fail
  refine (compareJobs_any a b _ _ _).mono ?_
  rintro e _ ⟨rfl, ⟨Y3, rfl⟩⟩
  cases q3 : aheadJ a b
  · have hn : decide (cmpJ a b < 0) = false := by rw [HN.out, q3]
    go_wp2
    go_ret
    exact ⟨ret_bool (by simp [q1, q2, q3]), (by repeat (first | exact Ext.refl _ | apply Ext.plus | apply Ext.alloc | apply Ext.drew))⟩
  · have hn : decide (cmpJ a b < 0) = true := by rw [HN.out, q3]
    go_wp2
    go_ret
    exact ⟨ret_bool (by simp [q1, q2, q3]), (by repeat (first | exact Ext.refl _ | apply Ext.plus | apply Ext.alloc | apply Ext.drew))⟩

set_option maxHeartbeats 800000 in
theorem l04Ahead_any (a b : Jb) (na nb : Value) (w : World) :
    Calls Try.prog 31 #[a.val na, b.val nb] w fun e w' => e = .returned (.bool (aheadJ a b)) ∧ Ext w w' := by
  have HI := Lib.hid (@aheadJ_iff a b)
  obtain ⟨⟨lv, st⟩, id, need, long, prio, state, start, nodes⟩ := a
  obtain ⟨⟨lv2, st2⟩, id2, need2, long2, prio2, state2, start2, nodes2⟩ := b
  unfold Jb.val
  generalize aheadJ _ _ = G at HI
  go_enter Try.func31, Try.ntmps31
  go_wp2
  all_goals go_ret
  all_goals exact ⟨ret_bool (by have h := HI.out; rw [Bool.eq_iff_iff, h]; simp only [decide_eq_true_eq, bne_eq_false_iff_eq, bne_iff_ne, ne_eq] at *; omega), (by repeat (first | exact Ext.refl _ | apply Ext.plus | apply Ext.alloc | apply Ext.drew))⟩

set_option maxHeartbeats 1600000 in
theorem specAhead_any (a b : Jb) (na nb : Value) (w : World) (hoa : a.ok) (hob : b.ok) (ha : SlR w 1 rInt na a.nodes) (hb : SlR w 1 rInt nb b.nodes) :
    Calls Try.prog 9 #[a.val na, b.val nb] w fun e w' => e = .returned (.bool (jobR a && jobR b && aheadJ a b)) ∧ Ext w w' := by
  have HA := Lib.hid ha
  have HB := Lib.hid hb
  obtain ⟨x1, x2, rfl⟩ := ha.len
  obtain ⟨y1, y2, rfl⟩ := hb.len
  clear ha hb
  go_enter Try.func9, Try.ntmps9
  unfold Jb.val
  go_wp2_with fail
  refine (specJobRight_any a _ _ hoa (HA.out.ext rInt_stable (by repeat (first | exact Ext.refl _ | apply Ext.plus | apply Ext.alloc | apply Ext.drew)))).mono ?_
  rintro e _ ⟨rfl, ⟨Y, rfl⟩⟩
  cases q1 : jobR a
  · go_wp2
    go_ret
    exact ⟨ret_bool (by simp [q1]), (by repeat (first | exact Ext.refl _ | apply Ext.plus | apply Ext.alloc | apply Ext.drew))⟩
  go_wp2_with fail
  refine (specJobRight_any b _ _ hob (HB.out.ext rInt_stable (by repeat (first | exact Ext.refl _ | apply Ext.plus | apply Ext.alloc | apply Ext.drew)))).mono ?_
  rintro e _ ⟨rfl, ⟨Y2, rfl⟩⟩
  cases q2 : jobR b
  · go_wp2
    go_ret
    exact ⟨ret_bool (by simp [q1, q2]), (by repeat (first | exact Ext.refl _ | apply Ext.plus | apply Ext.alloc | apply Ext.drew))⟩
  go_wp2_with fail
  refine (l04Ahead_any a b _ _ _).mono ?_
  rintro e _ ⟨rfl, ⟨Y3, rfl⟩⟩
  go_wp2
  go_ret
  exact ⟨ret_bool (by simp [q1, q2]), (by repeat (first | exact Ext.refl _ | apply Ext.plus | apply Ext.alloc | apply Ext.drew))⟩
end Go.Proofs.Ytkhmdhdaldbbhaa

set_option maxRecDepth 100000
set_option linter.unusedVariables false
namespace Go.Proofs.Ytkhmdhdaldbbhaa
open Go.RowKit Go.Fin1

end Go.Proofs.Ytkhmdhdaldbbhaa
