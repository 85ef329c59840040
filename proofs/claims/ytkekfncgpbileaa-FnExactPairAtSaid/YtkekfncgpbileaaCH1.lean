/- PairAt: both walks and the law. -/
import Derived.Test.YtkekfncgpbileaaCG9
set_option maxRecDepth 100000
set_option linter.unusedVariables false
namespace Go.Proofs.Ytkekfncgpbileaa
open Go.RowKit Go.Fin1
/-- Whether this is the pair with two labels. -/
def isPr (x y : Lab) (p : Prr) : Bool := sameL p.a x && sameL p.b y
@[irreducible] def pairI (c : Cfg) (x y : Lab) : Int := if cfgR c = true then findI (isPr x y) c.pairs else -1
theorem pairI_yes {c : Cfg} {x y : Lab} (h : cfgR c = true) : pairI c x y = findI (isPr x y) c.pairs := by unfold pairI; rw [if_pos h]
theorem pairI_no {c : Cfg} {x y : Lab} (h : cfgR c = false) : pairI c x y = -1 := by unfold pairI; rw [h]; rfl
set_option maxHeartbeats 800000 in
theorem pairAt1_any (x y : Lab) (p : Prr) (b1 b2 : Nat) (w : World) (h0 : w.cell? ⟨b1, 0, none⟩ = some (.int .i64 x.lv)) (h1 : w.cell? ⟨b1, 1, none⟩ = some (.int .i64 x.st)) (h2 : w.cell? ⟨b2, 0, none⟩ = some (.int .i64 y.lv)) (h3 : w.cell? ⟨b2, 1, none⟩ = some (.int .i64 y.st)) :
    Calls Try.prog 164 #[.agg #[(.int .i64 p.a.lv), (.int .i64 p.a.st), (.int .i64 p.b.lv), (.int .i64 p.b.st), (.int .i64 p.rate)], .pointer (some ⟨b1, 0, none⟩), .pointer (some ⟨b2, 0, none⟩)] w fun e w' => e = .returned (.bool (isPr x y p)) ∧ Ext w w' := by
  have ho := World.old_of_cell h0
  have ho2 := World.old_of_cell h2
  have HE : Hid (isPr x y p = (sameL ⟨p.a.lv, p.a.st⟩ ⟨x.lv, x.st⟩ && sameL ⟨p.b.lv, p.b.st⟩ ⟨y.lv, y.st⟩)) := Lib.hid rfl
  cases q1 : sameL ⟨p.a.lv, p.a.st⟩ ⟨x.lv, x.st⟩ <;> cases q2 : sameL ⟨p.b.lv, p.b.st⟩ ⟨y.lv, y.st⟩
  all_goals rw [q1, q2] at HE
  all_goals go_enter Try.func164, Try.ntmps164
  all_goals go_wp2
  all_goals go_ret
  all_goals exact ⟨ret_bool HE.out.symm, (by repeat (first | exact Ext.refl _ | apply Ext.plus | apply Ext.alloc | apply Ext.drew))⟩
set_option maxHeartbeats 800000 in
theorem pairAt_any (c : Cfg) (x y : Lab) (v : Value) (w : World) (h : eCfg w v c) :
    Calls Try.prog 124 #[v, .agg #[(.int .i64 x.lv), (.int .i64 x.st)], .agg #[(.int .i64 y.lv), (.int .i64 y.st)]] w fun e w' => e = .returned (.int .i64 (findI (isPr x y) c.pairs)) ∧ Ext w w' := by
  obtain ⟨a1, c1, a2, c2, a3, c3, rfl, hz, h1, h2, h3⟩ := h
  have H2 := Lib.hid h2
  clear h1 h2 h3 hz
  unfold Cfg.val
  go_enter Try.func124, Try.ntmps124
  go_wp2_with fail
  refine (indexFuncPrr_any 164 #[.pointer (some ⟨w.heap.size + 1, 0, none⟩), .pointer (some ⟨w.heap.size + 1 + 1, 0, none⟩)] (isPr x y) _ c.pairs _ (H2.out.ext rPrr_stable (by repeat (first | exact Ext.refl _ | apply Ext.plus | apply Ext.alloc | apply Ext.drew))) (fun _ _ => rfl) ?_).mono ?_
  · intro W p hW
    have q := (CellsAt.fresh9 (w.alloc (.cells #[.slice a1 c.nodes.length c1, .slice a2 c.pairs.length c2, .slice a3 c.quotas.length c3, (.int .i64 c.half)] 82)) #[(.int .i64 x.lv), (.int .i64 x.st)] 35).ext (((Ext.refl _).alloc (.cells #[(.int .i64 y.lv), (.int .i64 y.st)] 35)).trans hW)
    have q2 := (CellsAt.fresh9 ((w.alloc (.cells #[.slice a1 c.nodes.length c1, .slice a2 c.pairs.length c2, .slice a3 c.quotas.length c3, (.int .i64 c.half)] 82)).alloc (.cells #[(.int .i64 x.lv), (.int .i64 x.st)] 35)) #[(.int .i64 y.lv), (.int .i64 y.st)] 35).ext hW
    simp only [World.size_alloc] at q q2
    exact pairAt1_any x y p _ _ W (q 0 _ rfl) (q 1 _ rfl) (q2 0 _ rfl) (q2 1 _ rfl)
  rintro e _ ⟨rfl, Y9, rfl⟩
  go_wp2
  go_ret
  exact ⟨rfl, (by repeat (first | exact Ext.refl _ | apply Ext.plus | apply Ext.alloc | apply Ext.drew))⟩
set_option maxHeartbeats 800000 in
theorem implPairAt_any (c : Cfg) (x y : Lab) (v : Value) (w : World) (h : eCfg w v c) :
    Calls Try.prog 53 #[v, .agg #[(.int .i64 x.lv), (.int .i64 x.st)], .agg #[(.int .i64 y.lv), (.int .i64 y.st)]] w fun e w' => e = .returned (.int .i64 (pairI c x y)) ∧ Ext w w' := by
  have HC := Lib.hid h
  obtain ⟨a1, c1, a2, c2, a3, c3, rfl, hz, h1, h2, h3⟩ := h
  clear h1 h2 h3 hz
  unfold Cfg.val at HC ⊢
  cases r : cfgR c
  · have HN := Lib.hid (pairI_no (x := x) (y := y) r)
    go_enter Try.func53, Try.ntmps53
    go_wp2_with (go_at_call 50; refine (implConfigRight_any c _ _ (HC.out.ext (by repeat (first | exact Ext.refl _ | apply Ext.plus | apply Ext.alloc | apply Ext.drew)))).mono ?_; rintro e _ ⟨rfl, Y, rfl⟩; rw [r])
    go_ret
    exact ⟨ret_int HN.out.symm, (by repeat (first | exact Ext.refl _ | apply Ext.plus | apply Ext.alloc | apply Ext.drew))⟩
  · have HN := Lib.hid (pairI_yes (x := x) (y := y) r)
    go_enter Try.func53, Try.ntmps53
    go_wp2_with (first | (go_at_call 50; refine (implConfigRight_any c _ _ (HC.out.ext (by repeat (first | exact Ext.refl _ | apply Ext.plus | apply Ext.alloc | apply Ext.drew)))).mono ?_; rintro e _ ⟨rfl, Y, rfl⟩; rw [r]) | (go_at_call 124; refine (pairAt_any c x y _ _ (HC.out.ext (by repeat (first | exact Ext.refl _ | apply Ext.plus | apply Ext.alloc | apply Ext.drew)))).mono ?_; rintro e _ ⟨rfl, Y, rfl⟩))
    go_ret
    exact ⟨ret_int HN.out.symm, (by repeat (first | exact Ext.refl _ | apply Ext.plus | apply Ext.alloc | apply Ext.drew))⟩
set_option maxHeartbeats 800000 in
theorem specPairAt_any (c : Cfg) (x y : Lab) (v : Value) (w : World) (h : eCfg w v c) :
    Calls Try.prog 52 #[v, .agg #[(.int .i64 x.lv), (.int .i64 x.st)], .agg #[(.int .i64 y.lv), (.int .i64 y.st)]] w fun e w' => e = .returned (.int .i64 (pairI c x y)) ∧ Ext w w' := by
  have HC := Lib.hid h
  obtain ⟨a1, c1, a2, c2, a3, c3, rfl, hz, h1, h2, h3⟩ := h
  obtain ⟨-, hlc, hcm⟩ := slr_len h2
  have hlm : c.pairs.length ≤ 9223372036854775807 := by unfold maxLen at hcm; omega
  have H2 := Lib.hid h2
  clear h1 h2 h3 hz hcm hlc
  unfold Cfg.val at HC ⊢
  cases r : cfgR c
  · have HN := Lib.hid (pairI_no (x := x) (y := y) r)
    go_enter Try.func52, Try.ntmps52
    go_wp2_with (go_at_call 48; refine (specConfigRight_any c _ _ (HC.out.ext (by repeat (first | exact Ext.refl _ | apply Ext.plus | apply Ext.alloc | apply Ext.drew)))).mono ?_; rintro e _ ⟨rfl, Y, rfl⟩; rw [r])
    go_ret
    exact ⟨ret_int HN.out.symm, (by repeat (first | exact Ext.refl _ | apply Ext.plus | apply Ext.alloc | apply Ext.drew))⟩
  · have HN := Lib.hid (pairI_yes (x := x) (y := y) r)
    go_enter Try.func52, Try.ntmps52
    go_upto_region 3 with (go_at_call 48; refine (specConfigRight_any c _ _ (HC.out.ext (by repeat (first | exact Ext.refl _ | apply Ext.plus | apply Ext.alloc | apply Ext.drew)))).mono ?_; rintro e _ ⟨rfl, Y, rfl⟩; rw [r])
    go_wp2
    go_loopw [7] (fun i wr => ∃ k : Nat, k ≤ c.pairs.length ∧ i = .int .i64 k ∧ Ext (((w.alloc (.cells #[.slice a1 c.nodes.length c1, .slice a2 c.pairs.length c2, .slice a3 c.quotas.length c3, (.int .i64 c.half)] 82)).alloc (.cells #[(.int .i64 x.lv), (.int .i64 x.st)] 35)).alloc (.cells #[(.int .i64 y.lv), (.int .i64 y.st)] 35)) wr ∧ Hid (∀ (j : Nat) (hj : j < c.pairs.length), j < k → isPr x y c.pairs[j] = false)) (fun i _ => c.pairs.length - (intOf i).toNat)
    case atStart => exact ⟨0, Nat.zero_le _, rfl, (by repeat (first | exact Ext.refl _ | apply Ext.plus | apply Ext.alloc | apply Ext.drew)), Lib.hid (fun j _ h => absurd h (Nat.not_lt_zero _))⟩
    case round =>
      clear Y
      obtain ⟨k, hk, rfl, ⟨X, rfl⟩, HH⟩ := hrel
      by_cases hlt : k < c.pairs.length
      · obtain ⟨b, off, rfl⟩ := slr_some H2.out hlt
        obtain ⟨ho, hok, h0, h1, h2, h3, h4⟩ := prr_at H2.out hlt
        have HE : Hid (isPr x y c.pairs[k] = (sameL ⟨c.pairs[k].a.lv, c.pairs[k].a.st⟩ ⟨x.lv, x.st⟩ && sameL ⟨c.pairs[k].b.lv, c.pairs[k].b.st⟩ ⟨y.lv, y.st⟩)) := Lib.hid rfl
        go_upto_region 6 with fail
        cases q1 : sameL ⟨c.pairs[k].a.lv, c.pairs[k].a.st⟩ ⟨x.lv, x.st⟩
        · have HF : Hid (isPr x y c.pairs[k] = false) := Lib.hid (by rw [HE.out, q1]; rfl)
          clear HE
          (refine wp_region_x 18 (by kernel_rfl) (by kernel_rfl) (by kernel_rfl) ?_; (iterate 18 (apply XReg.step; (case h => (intro w' hw'; obtain ⟨X', rfl⟩ := hw'; go_wp2_with (fail); exact ⟨rfl, (by repeat (first | exact Ext.refl _ | apply Ext.plus | apply Ext.alloc | apply Ext.drew))⟩)); (case hv => kernel_rfl))); refine XReg.doneN (fun X => ?_))
          go_wp2
          exact ⟨⟨k + 1, by omega, by go_num, (by repeat (first | exact Ext.refl _ | apply Ext.plus | apply Ext.alloc | apply Ext.drew)), Lib.hid (fun j hj hjk => by
            by_cases e : j < k
            · exact HH.out j hj e
            · obtain rfl : j = k := by omega
              exact HF.out)⟩, by simp [intOf]; omega⟩
        cases q2 : sameL ⟨c.pairs[k].b.lv, c.pairs[k].b.st⟩ ⟨y.lv, y.st⟩
        · have HF : Hid (isPr x y c.pairs[k] = false) := Lib.hid (by rw [HE.out, q1, q2]; rfl)
          clear HE
          (refine wp_region_x 18 (by kernel_rfl) (by kernel_rfl) (by kernel_rfl) ?_; (iterate 18 (apply XReg.step; (case h => (intro w' hw'; obtain ⟨X', rfl⟩ := hw'; go_wp2_with (fail); exact ⟨rfl, (by repeat (first | exact Ext.refl _ | apply Ext.plus | apply Ext.alloc | apply Ext.drew))⟩)); (case hv => kernel_rfl))); refine XReg.doneN (fun X => ?_))
          go_wp2
          exact ⟨⟨k + 1, by omega, by go_num, (by repeat (first | exact Ext.refl _ | apply Ext.plus | apply Ext.alloc | apply Ext.drew)), Lib.hid (fun j hj hjk => by
            by_cases e : j < k
            · exact HH.out j hj e
            · obtain rfl : j = k := by omega
              exact HF.out)⟩, by simp [intOf]; omega⟩
        · have HF := Lib.hid (findI_at hlt HH.out (show isPr x y c.pairs[k] = true by rw [HE.out, q1, q2]; rfl))
          clear HE
          (refine wp_region_x 18 (by kernel_rfl) (by kernel_rfl) (by kernel_rfl) ?_; (iterate 18 (apply XReg.step; (case h => (intro w' hw'; obtain ⟨X', rfl⟩ := hw'; go_wp2_with (fail); exact ⟨rfl, (by repeat (first | exact Ext.refl _ | apply Ext.plus | apply Ext.alloc | apply Ext.drew))⟩)); (case hv => kernel_rfl))); refine XReg.doneN (fun X => ?_))
          go_wp2
          go_ret
          exact ⟨ret_int (HF.out.symm.trans HN.out.symm), (by repeat (first | exact Ext.refl _ | apply Ext.plus | apply Ext.alloc | apply Ext.drew))⟩
      · obtain rfl : k = c.pairs.length := by omega
        have HF := Lib.hid (findI_none (fun j hj => HH.out j hj hj))
        go_wp2
        go_ret
        exact ⟨ret_int (HF.out.symm.trans HN.out.symm), (by repeat (first | exact Ext.refl _ | apply Ext.plus | apply Ext.alloc | apply Ext.drew))⟩
end Go.Proofs.Ytkekfncgpbileaa
