/- QuotaOf's walks. -/
import Derived.Test.YtkekfncgpbileaaCH3
set_option maxRecDepth 100000
set_option linter.unusedVariables false
namespace Go.Proofs.Ytkekfncgpbileaa
open Go.RowKit Go.Fin1
/-- The quota of a label. -/
@[irreducible] def quoL (l : List Quo) (x : Lab) : Int := match l.find? (fun q => sameL q.l x) with | some q => q.most | none => 6
theorem quoL_at {l : List Quo} {x : Lab} {k : Nat} (hk : k < l.length) (h : ∀ (j : Nat) (hj : j < l.length), j < k → sameL l[j].l x = false) (hp : sameL l[k].l x = true) : quoL l x = l[k].most := by
  unfold quoL
  rw [show l.find? (fun q => sameL q.l x) = some l[k] from List.find?_eq_some_iff_getElem.2 ⟨hp, k, hk, rfl, fun j hj => by simp [h j (by omega) hj]⟩]
theorem quoL_none {l : List Quo} {x : Lab} (h : ∀ (j : Nat) (hj : j < l.length), sameL l[j].l x = false) : quoL l x = 6 := by
  unfold quoL
  rw [show l.find? (fun q => sameL q.l x) = none from List.find?_eq_none.2 fun q hq => by
    obtain ⟨j, hj, rfl⟩ := List.mem_iff_getElem.1 hq
    simp [h j hj]]
@[irreducible] def quoI (c : Cfg) (x : Lab) : Int := if cfgR c = true then (if c.nodes.any (fun l => hasL l x) = true then quoL c.quotas x else 0) else 0
theorem quoI_no {c : Cfg} {x : Lab} (h : cfgR c = false) : quoI c x = 0 := by unfold quoI; rw [h]; rfl
theorem quoI_no2 {c : Cfg} {x : Lab} (h : cfgR c = true) (h2 : c.nodes.any (fun l => hasL l x) = false) : quoI c x = 0 := by unfold quoI; rw [if_pos h, h2]; rfl
theorem quoI_yes {c : Cfg} {x : Lab} (h : cfgR c = true) (h2 : c.nodes.any (fun l => hasL l x) = true) : quoI c x = quoL c.quotas x := by unfold quoI; rw [if_pos h, if_pos h2]
theorem anyT_step' {cl : List (List Lab)} {k : Nat} (hk : k < cl.length) (p : List Lab → Bool) : (cl.take (k + 1)).any p = ((cl.take k).any p || p cl[k]) := by
  rw [List.take_succ_eq_append_getElem hk, List.any_append]; simp
set_option maxHeartbeats 1600000 in
theorem clearFor_any (c : Cfg) (x : Lab) (v : Value) (w : World) (h : eCfg w v c) (hr : clearR c.nodes = true) :
    Calls Try.prog 126 #[v, .agg #[(.int .i64 x.lv), (.int .i64 x.st)]] w fun e w' => ∃ a n k, e = .returned (.slice a n k) ∧ Ext w w' ∧ (((n : Int) == 0) = !c.nodes.any (fun l => hasL l x)) := by
  obtain ⟨a1, c1, a2, c2, a3, c3, rfl, hz, h1, h2, h3⟩ := h
  obtain ⟨-, hlc, hcm⟩ := slr_len h1
  have hlm : c.nodes.length ≤ 9223372036854775807 := by unfold maxLen at hcm; omega
  have h6 := (clearR_bd hr).1.2
  clear hr
  have HS := Lib.hid h1
  clear h1 h2 h3 hz hcm hlc
  unfold Cfg.val
  go_enter Try.func126, Try.ntmps126
  go_wp2
  go_loopw [5, 12] (fun o i wr => ∃ (k : Nat) (L : List Int), k ≤ c.nodes.length ∧ i = .int .i64 k ∧ Ext ((w.alloc (.cells #[.slice a1 c.nodes.length c1, .slice a2 c.pairs.length c2, .slice a3 c.quotas.length c3, (.int .i64 c.half)] 82)).alloc (.cells #[(.int .i64 x.lv), (.int .i64 x.st)] 35)) wr ∧ Hid (Row (((w.alloc (.cells #[.slice a1 c.nodes.length c1, .slice a2 c.pairs.length c2, .slice a3 c.quotas.length c3, (.int .i64 c.half)] 82)).alloc (.cells #[(.int .i64 x.lv), (.int .i64 x.st)] 35))).heap.size wr 2 1 intCell o L) ∧ L.length ≤ k ∧ Hid (((L.length : Int) == 0) = !(c.nodes.take k).any (fun l => hasL l x))) (fun _ i _ => c.nodes.length - (intOf i).toNat)
  case atStart => exact ⟨0, [], Nat.zero_le _, rfl, (by repeat (first | exact Ext.refl _ | apply Ext.plus | apply Ext.alloc | apply Ext.drew)), Lib.hid (Row.madeA _ _ _ _ _ _), Nat.le_refl _, Lib.hid rfl⟩
  case round =>
    obtain ⟨k, L, hk, rfl, ⟨X, rfl⟩, HR, hL, HD⟩ := hrel
    obtain ⟨ao, co, rfl⟩ := HR.out.shape
    by_cases hlt : k < c.nodes.length
    · obtain ⟨b, off, rfl⟩ := slr_some HS.out hlt
      obtain ⟨ho, vx, hsx, h0⟩ := sl_at HS.out hlt
      have HX := Lib.hid hsx
      obtain ⟨ax, cx, rfl⟩ := hsx.len
      clear hsx
      have HA := Lib.hid (anyT_step' hlt (fun l => hasL l x))
      cases r1 : hasL c.nodes[k] x
      · have HD2 : Hid (((L.length : Int) == 0) = !(c.nodes.take (k + 1)).any (fun l => hasL l x)) := Lib.hid (by rw [HA.out, r1, HD.out]; simp)
        clear HA
        go_wp2_with (go_at_call 160; refine (containsLab_any _ c.nodes[k] x _ (HX.out.ext rLab_stable (by repeat (first | exact Ext.refl _ | apply Ext.plus | apply Ext.alloc | apply Ext.drew)))).mono ?_; rintro e _ ⟨rfl, Y, rfl⟩; rw [r1])
        exact ⟨⟨k + 1, L, by omega, by go_num, (by repeat (first | exact Ext.refl _ | apply Ext.plus | apply Ext.alloc | apply Ext.drew)), Lib.hid (HR.out.ext (by repeat (first | exact Ext.refl _ | apply Ext.plus | apply Ext.alloc | apply Ext.drew))), by omega, HD2⟩, by simp [intOf]; omega⟩
      · have HD2 : Hid ((((L ++ [(k : Int)]).length : Int) == 0) = !(c.nodes.take (k + 1)).any (fun l => hasL l x)) := Lib.hid (by rw [HA.out, r1]; simp; omega)
        clear HA
        go_wp2_with (first | (go_at_call 160; refine (containsLab_any _ c.nodes[k] x _ (HX.out.ext rLab_stable (by repeat (first | exact Ext.refl _ | apply Ext.plus | apply Ext.alloc | apply Ext.drew)))).mono ?_; rintro e _ ⟨rfl, Y, rfl⟩; rw [r1]) | (at_builtin; go_must (refine Row.app (f := intCell) el_Int rfl _ _ rfl _ (by repeat (first | exact Ext.refl _ | apply Ext.plus | apply Ext.alloc | apply Ext.drew)) _ L rfl (HR.out.ext (by repeat (first | exact Ext.refl _ | apply Ext.plus | apply Ext.alloc | apply Ext.drew))) (k : Int) rfl _ ?_ rfl rfl ?_ ?_ ?_ ?_); (simp [go_sem]); (simp [Value.oneCell']); (unfold maxLen; omega); omega; intro v' Z hown' hne; have HO' := Lib.hid hown'; clear hown' hne))
        exact ⟨⟨k + 1, L ++ [(k : Int)], by omega, by go_num, (by repeat (first | exact Ext.refl _ | apply Ext.plus | apply Ext.alloc | apply Ext.drew)), Lib.hid (HO'.out.ext (by repeat (first | exact Ext.refl _ | apply Ext.plus | apply Ext.alloc | apply Ext.drew))), by simp; omega, HD2⟩, by simp [intOf]; omega⟩
    · obtain rfl : k = c.nodes.length := by omega
      have HD2 := Lib.hid (HD.out.trans (by rw [List.take_length]))
      go_wp2
      go_ret
      exact ⟨_, _, _, rfl, (by repeat (first | exact Ext.refl _ | apply Ext.plus | apply Ext.alloc | apply Ext.drew)), HD2.out⟩
set_option maxHeartbeats 1600000 in
theorem implQuotaOf_any (c : Cfg) (x : Lab) (v : Value) (w : World) (h : eCfg w v c) :
    Calls Try.prog 55 #[v, .agg #[(.int .i64 x.lv), (.int .i64 x.st)]] w fun e w' => e = .returned (.int .i64 (quoI c x)) ∧ Ext w w' := by
  have HC := Lib.hid h
  obtain ⟨a1, c1, a2, c2, a3, c3, rfl, hz, h1, h2, h3⟩ := h
  obtain ⟨-, hlc, hcm⟩ := slr_len h3
  have hlm : c.quotas.length ≤ 9223372036854775807 := by unfold maxLen at hcm; omega
  have H3 := Lib.hid h3
  clear h1 h2 h3 hz hcm hlc
  unfold Cfg.val at HC ⊢
  cases r : cfgR c
  · have HN := Lib.hid (quoI_no (x := x) r)
    go_enter Try.func55, Try.ntmps55
    go_wp2_with (first | (go_at_call 50; refine (implConfigRight_any c _ _ (HC.out.ext (by repeat (first | exact Ext.refl _ | apply Ext.plus | apply Ext.alloc | apply Ext.drew)))).mono ?_; rintro e _ ⟨rfl, Y, rfl⟩; rw [r]) | (go_at_call 126; refine (clearFor_any c x _ _ (HC.out.ext (by repeat (first | exact Ext.refl _ | apply Ext.plus | apply Ext.alloc | apply Ext.drew))) HR.out).mono ?_; rintro e _ ⟨a, n, kk, rfl, ⟨Z, rfl⟩, hD⟩; rw [r2] at hD))
    go_ret
    exact ⟨ret_int HN.out.symm, (by repeat (first | exact Ext.refl _ | apply Ext.plus | apply Ext.alloc | apply Ext.drew))⟩
  have HR := Lib.hid (cfgR_clear r)
  cases r2 : c.nodes.any (fun l => hasL l x)
  · have HN := Lib.hid (quoI_no2 (x := x) r r2)
    go_enter Try.func55, Try.ntmps55
    go_wp2_with (first | (go_at_call 50; refine (implConfigRight_any c _ _ (HC.out.ext (by repeat (first | exact Ext.refl _ | apply Ext.plus | apply Ext.alloc | apply Ext.drew)))).mono ?_; rintro e _ ⟨rfl, Y, rfl⟩; rw [r]) | (go_at_call 126; refine (clearFor_any c x _ _ (HC.out.ext (by repeat (first | exact Ext.refl _ | apply Ext.plus | apply Ext.alloc | apply Ext.drew))) HR.out).mono ?_; rintro e _ ⟨a, n, kk, rfl, ⟨Z, rfl⟩, hD⟩; rw [r2] at hD))
    go_ret
    exact ⟨ret_int HN.out.symm, (by repeat (first | exact Ext.refl _ | apply Ext.plus | apply Ext.alloc | apply Ext.drew))⟩
  have HN := Lib.hid (quoI_yes (x := x) r r2)
  go_enter Try.func55, Try.ntmps55
  go_upto_region 3 with (first | (go_at_call 50; refine (implConfigRight_any c _ _ (HC.out.ext (by repeat (first | exact Ext.refl _ | apply Ext.plus | apply Ext.alloc | apply Ext.drew)))).mono ?_; rintro e _ ⟨rfl, Y, rfl⟩; rw [r]) | (go_at_call 126; refine (clearFor_any c x _ _ (HC.out.ext (by repeat (first | exact Ext.refl _ | apply Ext.plus | apply Ext.alloc | apply Ext.drew))) HR.out).mono ?_; rintro e _ ⟨a, n, kk, rfl, ⟨Z, rfl⟩, hD⟩; rw [r2] at hD))
  go_wp2
  go_loopw [20] (fun i wr => ∃ k : Nat, k ≤ c.quotas.length ∧ i = .int .i64 k ∧ Ext ((w.alloc (.cells #[.slice a1 c.nodes.length c1, .slice a2 c.pairs.length c2, .slice a3 c.quotas.length c3, (.int .i64 c.half)] 82)).alloc (.cells #[(.int .i64 x.lv), (.int .i64 x.st)] 35)) wr ∧ Hid (∀ (j : Nat) (hj : j < c.quotas.length), j < k → sameL c.quotas[j].l x = false)) (fun i _ => c.quotas.length - (intOf i).toNat)
  case atStart => exact ⟨0, Nat.zero_le _, rfl, (by repeat (first | exact Ext.refl _ | apply Ext.plus | apply Ext.alloc | apply Ext.drew)), Lib.hid (fun j _ h => absurd h (Nat.not_lt_zero _))⟩
  case round =>
    clear hD Y Z
    obtain ⟨k, hk, rfl, ⟨X, rfl⟩, HH⟩ := hrel
    by_cases hlt : k < c.quotas.length
    · obtain ⟨b, off, rfl⟩ := slr_some H3.out hlt
      obtain ⟨ho, hok, h0, h1, h2⟩ := quo_at H3.out hlt
      cases q1 : sameL ⟨c.quotas[k].l.lv, c.quotas[k].l.st⟩ ⟨x.lv, x.st⟩
      · have HF : Hid (sameL c.quotas[k].l x = false) := Lib.hid q1
        go_wp2
        exact ⟨⟨k + 1, by omega, by go_num, (by repeat (first | exact Ext.refl _ | apply Ext.plus | apply Ext.alloc | apply Ext.drew)), Lib.hid (fun j hj hjk => by
          by_cases e : j < k
          · exact HH.out j hj e
          · obtain rfl : j = k := by omega
            exact HF.out)⟩, by simp [intOf]; omega⟩
      · have HF := Lib.hid (quoL_at hlt HH.out (show sameL c.quotas[k].l x = true from q1))
        go_wp2
        go_ret
        exact ⟨ret_int (HF.out.symm.trans HN.out.symm), (by repeat (first | exact Ext.refl _ | apply Ext.plus | apply Ext.alloc | apply Ext.drew))⟩
    · obtain rfl : k = c.quotas.length := by omega
      have HF := Lib.hid (quoL_none (fun j hj => HH.out j hj hj))
      go_wp2
      go_ret
      exact ⟨ret_int (HF.out.symm.trans HN.out.symm), (by repeat (first | exact Ext.refl _ | apply Ext.plus | apply Ext.alloc | apply Ext.drew))⟩
set_option maxHeartbeats 1600000 in
theorem specQuotaOf_any (c : Cfg) (x : Lab) (v : Value) (w : World) (h : eCfg w v c) :
    Calls Try.prog 54 #[v, .agg #[(.int .i64 x.lv), (.int .i64 x.st)]] w fun e w' => e = .returned (.int .i64 (quoI c x)) ∧ Ext w w' := by
  have HC := Lib.hid h
  obtain ⟨a1, c1, a2, c2, a3, c3, rfl, hz, h1, h2, h3⟩ := h
  obtain ⟨-, hlc, hcm⟩ := slr_len h3
  have hlm : c.quotas.length ≤ 9223372036854775807 := by unfold maxLen at hcm; omega
  have H3 := Lib.hid h3
  clear h1 h2 h3 hz hcm hlc
  unfold Cfg.val at HC ⊢
  cases r2 : hasL (labsC c) x
  · have HN : Hid (quoI c x = 0) := Lib.hid (by
      cases r : cfgR c
      · exact quoI_no r
      · exact quoI_no2 r (by rw [← labsC_has r]; exact r2))
    go_enter Try.func54, Try.ntmps54
    go_upto_region 1 with fail
    (refine wp_region_y 5 [(fun u _ => u = (.agg #[.slice a1 c.nodes.length c1, .slice a2 c.pairs.length c2, .slice a3 c.quotas.length c3, (.int .i64 c.half)])), kSl 2 rLab (labsC c), (fun u _ => u = (.agg #[(.int .i64 x.lv), (.int .i64 x.st)])), (fun u _ => u = (.bool false)), (fun u _ => u = (.bool (!false)))] (by kernel_rfl) (by kernel_rfl) (by kernel_rfl) rfl ?_ (by (repeat' (first | exact trivial | exact XReg.GoodK.same _ default | refine And.intro ?_ ?_)); all_goals exact kLab_good (Nat.le_trans (labsC_len c) (by decide)) (labsC_ok c)))
    (apply YReg.val (.agg #[.slice a1 c.nodes.length c1, .slice a2 c.pairs.length c2, .slice a3 c.quotas.length c3, (.int .i64 c.half)]); (case h => (intro w' hw' hF'; obtain ⟨X', rfl⟩ := hw'; have HF' := Lib.hid hF'; clear hF'; go_wp2_with (fail); exact ⟨rfl, (by repeat (first | exact Ext.refl _ | apply Ext.plus | apply Ext.alloc | apply Ext.drew))⟩)); (case hv => kernel_rfl))
    refine YReg.kind (fun w' hw' hF' => ?_) (fun v w1 hK => ?_)
    · obtain ⟨X', rfl⟩ := hw'
      clear hF'
      go_wp2_with fail
      refine (specLabelsOf_any c _ _ (HC.out.ext (by repeat (first | exact Ext.refl _ | apply Ext.plus | apply Ext.alloc | apply Ext.drew)))).mono ?_
      rintro e _ ⟨v', fp, rfl, ⟨Y, rfl⟩, hO⟩
      have HL := Lib.hid (own_lab_r hO (labsC_ok c))
      obtain ⟨a, k, rfl⟩ := hO.shape
      clear hO
      go_wp2
      exact ⟨(by repeat (first | exact Ext.refl _ | apply Ext.plus | apply Ext.alloc | apply Ext.drew)), a, k, rfl, HL.out⟩
    obtain ⟨al, kl, rfl, hq⟩ := hK
    clear hq w1
    (apply YReg.val (.agg #[(.int .i64 x.lv), (.int .i64 x.st)]); (case h => (intro w' hw' hF'; obtain ⟨X', rfl⟩ := hw'; have HF' := Lib.hid hF'; clear hF'; go_wp2_with (fail); exact ⟨rfl, (by repeat (first | exact Ext.refl _ | apply Ext.plus | apply Ext.alloc | apply Ext.drew))⟩)); (case hv => kernel_rfl))
    (apply YReg.val (.bool false); (case h => (intro w' hw' hF'; obtain ⟨X', rfl⟩ := hw'; have HF' := Lib.hid hF'; clear hF'; go_wp2_with ((go_at_call 125; refine (l05Cleared_any _ (labsC c) x _ (kSl_r (HF'.out.get 1 rfl (by kernel_rfl)))).mono ?_; rintro e _ ⟨rfl, Y3, rfl⟩; rw [r2])); exact ⟨rfl, (by repeat (first | exact Ext.refl _ | apply Ext.plus | apply Ext.alloc | apply Ext.drew))⟩)); (case hv => kernel_rfl))
    (apply YReg.val (.bool (!false)); (case h => (intro w' hw' hF'; obtain ⟨X', rfl⟩ := hw'; have HF' := Lib.hid hF'; clear hF'; go_wp2_with (fail); exact ⟨rfl, (by repeat (first | exact Ext.refl _ | apply Ext.plus | apply Ext.alloc | apply Ext.drew))⟩)); (case hv => kernel_rfl))
    refine YReg.doneN (fun X hX9 => ?_)
    clear hX9
    go_wp2
    go_ret
    exact ⟨ret_int HN.out.symm, (by repeat (first | exact Ext.refl _ | apply Ext.plus | apply Ext.alloc | apply Ext.drew))⟩
  have HN : Hid (quoI c x = quoL c.quotas x) := Lib.hid (by
    cases r : cfgR c
    · rw [labsC_no r] at r2; unfold hasL at r2; simp at r2
    · exact quoI_yes r (by rw [← labsC_has r]; exact r2))
  go_enter Try.func54, Try.ntmps54
  go_upto_region 1 with fail
  (refine wp_region_y 5 [(fun u _ => u = (.agg #[.slice a1 c.nodes.length c1, .slice a2 c.pairs.length c2, .slice a3 c.quotas.length c3, (.int .i64 c.half)])), kSl 2 rLab (labsC c), (fun u _ => u = (.agg #[(.int .i64 x.lv), (.int .i64 x.st)])), (fun u _ => u = (.bool true)), (fun u _ => u = (.bool (!true)))] (by kernel_rfl) (by kernel_rfl) (by kernel_rfl) rfl ?_ (by (repeat' (first | exact trivial | exact XReg.GoodK.same _ default | refine And.intro ?_ ?_)); all_goals exact kLab_good (Nat.le_trans (labsC_len c) (by decide)) (labsC_ok c)))
  (apply YReg.val (.agg #[.slice a1 c.nodes.length c1, .slice a2 c.pairs.length c2, .slice a3 c.quotas.length c3, (.int .i64 c.half)]); (case h => (intro w' hw' hF'; obtain ⟨X', rfl⟩ := hw'; have HF' := Lib.hid hF'; clear hF'; go_wp2_with (fail); exact ⟨rfl, (by repeat (first | exact Ext.refl _ | apply Ext.plus | apply Ext.alloc | apply Ext.drew))⟩)); (case hv => kernel_rfl))
  refine YReg.kind (fun w' hw' hF' => ?_) (fun v w1 hK => ?_)
  · obtain ⟨X', rfl⟩ := hw'
    clear hF'
    go_wp2_with fail
    refine (specLabelsOf_any c _ _ (HC.out.ext (by repeat (first | exact Ext.refl _ | apply Ext.plus | apply Ext.alloc | apply Ext.drew)))).mono ?_
    rintro e _ ⟨v', fp, rfl, ⟨Y, rfl⟩, hO⟩
    have HL := Lib.hid (own_lab_r hO (labsC_ok c))
    obtain ⟨a, k, rfl⟩ := hO.shape
    clear hO
    go_wp2
    exact ⟨(by repeat (first | exact Ext.refl _ | apply Ext.plus | apply Ext.alloc | apply Ext.drew)), a, k, rfl, HL.out⟩
  obtain ⟨al, kl, rfl, hq⟩ := hK
  clear hq w1
  (apply YReg.val (.agg #[(.int .i64 x.lv), (.int .i64 x.st)]); (case h => (intro w' hw' hF'; obtain ⟨X', rfl⟩ := hw'; have HF' := Lib.hid hF'; clear hF'; go_wp2_with (fail); exact ⟨rfl, (by repeat (first | exact Ext.refl _ | apply Ext.plus | apply Ext.alloc | apply Ext.drew))⟩)); (case hv => kernel_rfl))
  (apply YReg.val (.bool true); (case h => (intro w' hw' hF'; obtain ⟨X', rfl⟩ := hw'; have HF' := Lib.hid hF'; clear hF'; go_wp2_with ((go_at_call 125; refine (l05Cleared_any _ (labsC c) x _ (kSl_r (HF'.out.get 1 rfl (by kernel_rfl)))).mono ?_; rintro e _ ⟨rfl, Y3, rfl⟩; rw [r2])); exact ⟨rfl, (by repeat (first | exact Ext.refl _ | apply Ext.plus | apply Ext.alloc | apply Ext.drew))⟩)); (case hv => kernel_rfl))
  (apply YReg.val (.bool (!true)); (case h => (intro w' hw' hF'; obtain ⟨X', rfl⟩ := hw'; have HF' := Lib.hid hF'; clear hF'; go_wp2_with (fail); exact ⟨rfl, (by repeat (first | exact Ext.refl _ | apply Ext.plus | apply Ext.alloc | apply Ext.drew))⟩)); (case hv => kernel_rfl))
  refine YReg.doneN (fun X hX9 => ?_)
  clear hX9
  go_wp2
  go_loopw [5] (fun i wr => ∃ k : Nat, k ≤ c.quotas.length ∧ i = .int .i64 k ∧ Ext ((w.alloc (.cells #[.slice a1 c.nodes.length c1, .slice a2 c.pairs.length c2, .slice a3 c.quotas.length c3, (.int .i64 c.half)] 82)).alloc (.cells #[(.int .i64 x.lv), (.int .i64 x.st)] 35)) wr ∧ Hid (∀ (j : Nat) (hj : j < c.quotas.length), j < k → sameL c.quotas[j].l x = false)) (fun i _ => c.quotas.length - (intOf i).toNat)
  case atStart => exact ⟨0, Nat.zero_le _, rfl, (by repeat (first | exact Ext.refl _ | apply Ext.plus | apply Ext.alloc | apply Ext.drew)), Lib.hid (fun j _ h => absurd h (Nat.not_lt_zero _))⟩
  case round =>
    clear X
    obtain ⟨k, hk, rfl, ⟨X, rfl⟩, HH⟩ := hrel
    by_cases hlt : k < c.quotas.length
    · obtain ⟨b, off, rfl⟩ := slr_some H3.out hlt
      obtain ⟨ho, hok, h0, h1, h2⟩ := quo_at H3.out hlt
      go_upto_region 6 with fail
      cases q1 : sameL ⟨c.quotas[k].l.lv, c.quotas[k].l.st⟩ ⟨x.lv, x.st⟩
      · have HF : Hid (sameL c.quotas[k].l x = false) := Lib.hid q1
        (refine wp_region_x 8 (by kernel_rfl) (by kernel_rfl) (by kernel_rfl) ?_; (iterate 8 (apply XReg.step; (case h => (intro w' hw'; obtain ⟨X', rfl⟩ := hw'; go_wp2_with (fail); exact ⟨rfl, (by repeat (first | exact Ext.refl _ | apply Ext.plus | apply Ext.alloc | apply Ext.drew))⟩)); (case hv => kernel_rfl))); refine XReg.doneN (fun X => ?_))
        go_wp2
        exact ⟨⟨k + 1, by omega, by go_num, (by repeat (first | exact Ext.refl _ | apply Ext.plus | apply Ext.alloc | apply Ext.drew)), Lib.hid (fun j hj hjk => by
          by_cases e : j < k
          · exact HH.out j hj e
          · obtain rfl : j = k := by omega
            exact HF.out)⟩, by simp [intOf]; omega⟩
      · have HF := Lib.hid (quoL_at hlt HH.out (show sameL c.quotas[k].l x = true from q1))
        (refine wp_region_x 8 (by kernel_rfl) (by kernel_rfl) (by kernel_rfl) ?_; (iterate 8 (apply XReg.step; (case h => (intro w' hw'; obtain ⟨X', rfl⟩ := hw'; go_wp2_with (fail); exact ⟨rfl, (by repeat (first | exact Ext.refl _ | apply Ext.plus | apply Ext.alloc | apply Ext.drew))⟩)); (case hv => kernel_rfl))); refine XReg.doneN (fun X => ?_))
        go_wp2
        go_ret
        exact ⟨ret_int (HF.out.symm.trans HN.out.symm), (by repeat (first | exact Ext.refl _ | apply Ext.plus | apply Ext.alloc | apply Ext.drew))⟩
    · obtain rfl : k = c.quotas.length := by omega
      have HF := Lib.hid (quoL_none (fun j hj => HH.out j hj hj))
      go_wp2
      go_ret
      exact ⟨ret_int (HF.out.symm.trans HN.out.symm), (by repeat (first | exact Ext.refl _ | apply Ext.plus | apply Ext.alloc | apply Ext.drew))⟩
end Go.Proofs.Ytkekfncgpbileaa
