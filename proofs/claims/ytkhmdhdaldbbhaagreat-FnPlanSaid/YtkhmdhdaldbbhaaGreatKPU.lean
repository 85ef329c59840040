/- FnPlan, walked. -/
import Derived.Test.YtkhmdhdaldbbhaaGreatKPV
import Derived.Test.YtkhmdhdaldbbhaaGreatKJE
import Derived.Deep.CutBlock
set_option maxRecDepth 100000
set_option linter.unusedVariables false
namespace Go.Proofs.YtkhmdhdaldbbhaaGreat
open Go.RowKit Go.Fin1
set_option maxHeartbeats 12800000 in
theorem fnPlan_any (a : Arg (List Int)) (w : World) (ha : SlR w 1 rU8 a.v a.x) :
    Calls Tryz.prog 3 #[a.v] w fun e w' => e = .returned (.bool true) ∧ Ext w w' := by
  obtain ⟨v, l⟩ := a
  change SlR w 1 rU8 v l at ha
  change Calls Tryz.prog 3 #[v] w _
  obtain ⟨va, vc, rfl⟩ := ha.len
  have HS := Lib.hid ha
  clear ha
  by_cases hl : l.length ≤ 1048576
  case neg =>
    have hlb : decide ((1048576 : Int) < (l.length : Int)) = true := decide_eq_true (by omega)
    go_enter Tryz.func3, Tryz.ntmps3
    go_wp2
    go_ret
    exact ⟨rfl, xt⟩
  have hlb : decide ((1048576 : Int) < (l.length : Int)) = false := decide_eq_false (by omega)
  go_enter Tryz.func3, Tryz.ntmps3
  go_wp2_with fail
  refine (drawPlanOf_any _ l _ (HS.out.ext rU8_stable xt) hl).mono ?_
  rintro e w2 ⟨p, ca, cc, ja, jc, rfl, hx, hP, hB⟩
  have HX2 := Lib.hid hx
  have HP2 := Lib.hid hP
  have HB := Lib.hid hB
  clear hx hP hB
  go_upto_region 4 with fail
  refine gen_world (fun W3 hW => ?_)
  have HX3 := Lib.hid (show Ext w W3 by rw [hW]; exact HX2.out.trans xt)
  have HP3 := Lib.hid (show ePool W3 _ p by rw [hW]; exact HP2.out.ext xt)
  have HB3 := Lib.hid (show Blk W3 w2.heap.size [.slice ca p.clear.length cc, .slice ja p.jobs.length jc, (.int .i64 p.now)] 26 by rw [hW]; exact Blk.new rfl)
  clear hW HX2 HP2
  generalize w2.heap.size = bP at HB3 ⊢
  obtain ⟨S, hS⟩ : ∃ S, planP p = S := ⟨_, rfl⟩
  have HL := Lib.hid (planP_law p)
  have HZ9 := Lib.hid (planP_sz p)
  rw [hS] at HL HZ9
  have HSE := Lib.hid hS
  clear hS
  have p0 : W3.cell? ⟨bP, 0, none⟩ = some (.slice ca p.clear.length cc) := HB3.out.cell 0
  have p1 : W3.cell? ⟨bP, 1, none⟩ = some (.slice ja p.jobs.length jc) := HB3.out.cell 1
  have p2 : W3.cell? ⟨bP, 2, none⟩ = some (.int .i64 p.now) := HB3.out.cell 2
  have po := HB3.out.old
  have HG : Hid (XReg.GoodK (kSlt9 S)) := Lib.hid (by
    obtain ⟨v', w', h⟩ := slt_can S HZ9.out.1 HZ9.out.2
    exact kSlt9_good h)
  (refine wp_region_y 6 [(fun u _ => u = (.agg #[.slice ca p.clear.length cc, .slice ja p.jobs.length jc, (.int .i64 p.now)])), kSlt9 S, (fun u _ => u = (.agg #[.slice ca p.clear.length cc, .slice ja p.jobs.length jc, (.int .i64 p.now)])), kSlt9 S, kSlt9 S, kSlt9 S] (by kernel_rfl) (by kernel_rfl) (by kernel_rfl) rfl ?_ (by (repeat' (first | exact trivial | exact XReg.GoodK.same _ default | refine And.intro ?_ ?_)); all_goals (exact HG.out)))
  (apply YReg.val (.agg #[.slice ca p.clear.length cc, .slice ja p.jobs.length jc, (.int .i64 p.now)]); (case h => (intro w' hw' hF'; obtain ⟨X', rfl⟩ := hw'; have HF' := Lib.hid hF'; clear hF'; go_wp2_with (fail); exact ⟨rfl, xt⟩)); (case hv => kernel_rfl))
  refine YReg.kind (fun w' hw' hF' => ?_) (fun v1 w1 hK => ?_)
  · obtain ⟨X', rfl⟩ := hw'
    clear hF'
    go_wp2_with fail
    refine (implPlanOf_any p _ _ (HP3.out.ext xt)).mono ?_
    rintro e _ ⟨v9, fp9, rfl, ⟨X9, rfl⟩, hO⟩
    rw [HSE.out] at hO
    have hR := oSltS_r9 hO.1 (fun s hs => (HZ9.out.2 s hs).1)
    obtain ⟨a9, c9, rfl⟩ := hR.len
    have HR := Lib.hid hR
    clear hR
    go_wp2
    exact ⟨xt, a9, c9, rfl, HR.out⟩
  obtain ⟨ia, ic, rfl, -⟩ := hK
  clear w1
  (apply YReg.val (.agg #[.slice ca p.clear.length cc, .slice ja p.jobs.length jc, (.int .i64 p.now)]); (case h => (intro w' hw' hF'; obtain ⟨X', rfl⟩ := hw'; have HF' := Lib.hid hF'; clear hF'; go_wp2_with (fail); exact ⟨rfl, xt⟩)); (case hv => kernel_rfl))
  refine YReg.kind (fun w' hw' hF' => ?_) (fun v1 w1 hK => ?_)
  · obtain ⟨X', rfl⟩ := hw'
    clear hF'
    go_wp2_with fail
    refine (specPlanOf_any p _ _ (HP3.out.ext xt)).mono ?_
    rintro e _ ⟨v9, rfl, ⟨X9, rfl⟩, hR⟩
    rw [HSE.out] at hR
    obtain ⟨a9, c9, rfl⟩ := hR.len
    have HR := Lib.hid hR
    clear hR
    go_wp2
    exact ⟨xt, a9, c9, rfl, HR.out⟩
  obtain ⟨ta, tc, rfl, -⟩ := hK
  clear w1
  refine YReg.kind (fun w' hw' hF' => ?_) (fun v1 w1 hK => ?_)
  · have hk := hF'.get 1 (p := (kSlt9 S, .slice ia S.length ic)) (by kernel_rfl) (by kernel_rfl)
    have HK := Lib.hid hk
    obtain ⟨X', rfl⟩ := hw'
    clear hF' hk
    go_wp2
    exact ⟨xt, HK.out⟩
  obtain ⟨la, lc, rfl, -⟩ := hK
  clear w1
  refine YReg.kind (fun w' hw' hF' => ?_) (fun v1 w1 hK => ?_)
  · have hk := hF'.get 3 (p := (kSlt9 S, .slice ta S.length tc)) (by kernel_rfl) (by kernel_rfl)
    have HK := Lib.hid hk
    obtain ⟨X', rfl⟩ := hw'
    clear hF' hk
    go_wp2
    exact ⟨xt, HK.out⟩
  obtain ⟨ma, mc, rfl, -⟩ := hK
  clear w1
  refine YReg.doneN (fun X hF => ?_)
  have hKl : kSlt9 S (.slice la S.length lc) _ := hF 4 (kSlt9 S, .slice la S.length lc) (by kernel_rfl)
  have hKm : kSlt9 S (.slice ma S.length mc) _ := hF 5 (kSlt9 S, .slice ma S.length mc) (by kernel_rfl)
  clear hF
  obtain ⟨la', lc', hv1, hSl⟩ := hKl
  obtain ⟨ma', mc', hv2, hSm⟩ := hKm
  clear hv1 hv2 la' lc' ma' mc'
  generalize hW : W3.plus X = W5 at hSl hSm
  have hex : Ext W3 W5 := by rw [← hW]; exact xt
  have HX5 := Lib.hid (HX3.out.trans hex)
  have HP5 := Lib.hid (HP3.out.ext hex)
  have HB5 := Lib.hid (HB3.out.ext hex)
  have HSl := Lib.hid hSl
  have HSm := Lib.hid hSm
  clear hW hex hSl hSm HX3 HP3 HB3 p0 p1 p2 po HG HSE
  have hne : ((S.length : Int) != (S.length : Int)) = false := bne_self_eq_false' _
  have HLen := Lib.hid HZ9.out.1
  go_wp2
  go_loopw [6] (fun i wr => ∃ k : Nat, k ≤ S.length ∧ i = (.int .i64 (k : Int)) ∧ Hid (Ext W5 wr)) (fun i _ => S.length - (intOf i).toNat)
  case atStart => exact ⟨0, Nat.zero_le _, rfl, Lib.hid (Ext.refl _)⟩
  case round =>
    obtain ⟨k, hk, rfl, HE⟩ := hrel
    by_cases hkl : k < S.length
    case neg =>
      have hkb : decide ((k : Int) < (S.length : Int)) = false := decide_eq_false (by omega)
      go_wp2
      go_ret
      exact ⟨rfl, HX5.out.trans HE.out⟩
    have hkb : decide ((k : Int) < (S.length : Int)) = true := decide_eq_true (by omega)
    have HSl1 := Lib.hid (HSl.out.ext rSlt_stable9 HE.out)
    have HSm1 := Lib.hid (HSm.out.ext rSlt_stable9 HE.out)
    obtain ⟨bL, oL, rfl⟩ := slr_some HSl1.out hkl
    obtain ⟨bM, oM, rfl⟩ := slr_some HSm1.out hkl
    obtain ⟨loo, na, nc, hok, hnd, l0, l1, l2, l3, l4⟩ := slt_at9 HSl1.out hkl
    obtain ⟨moo, xa, xc, -, hnx, m0, m1, m2, m3, m4⟩ := slt_at9 HSm1.out hkl
    have HND := Lib.hid hnd
    have HNX := Lib.hid hnx
    have HOK := Lib.hid hok
    clear hnd hnx hok
    go_upto_region 10 with fail
    refine wp_region_x 10 (by kernel_rfl) (by kernel_rfl) (by kernel_rfl) ?_
    iterate 8 (apply XReg.step; (case h => (intro w' hw'; obtain ⟨X', rfl⟩ := hw'; go_wp2_with (fail); exact ⟨rfl, xt⟩)); (case hv => kernel_rfl))
    (apply XReg.step; (case h => (intro w' hw'; obtain ⟨X', rfl⟩ := hw'; go_wp2_with ((go_at_call 9; refine (lwSlot_self S[k] _ _ _ (HND.out.ext rInt_stable xt) (HNX.out.ext rInt_stable xt)).mono ?_; rintro e _ ⟨rfl, X9, rfl⟩)); exact ⟨rfl, xt⟩)); (case hv => kernel_rfl))
    (apply XReg.step; (case h => (intro w' hw'; obtain ⟨X', rfl⟩ := hw'; go_wp2_with (fail); exact ⟨rfl, xt⟩)); (case hv => kernel_rfl))
    refine XReg.doneN (fun X => ?_)
    generalize hW : wr.plus X = W6
    have hex : Ext wr W6 := by rw [← hW]; exact xt
    have HE6 := Lib.hid (HE.out.trans hex)
    have HX6 := Lib.hid (HX5.out.trans HE6.out)
    have HB6 := Lib.hid (HB5.out.ext HE6.out)
    have HS6 := Lib.hid (HSl1.out.ext rSlt_stable9 hex)
    have HJB := Lib.hid ((ePool_jobsP HP5.out).1.ext rJob_stable HE6.out)
    have HJN := Lib.hid (show ∀ j ∈ p.jobs, j.nodes.length ≤ 1048576 from fun j hj => Nat.le_trans (HB.out.j2 j hj) (by decide))
    clear hW hex l0 l1 l2 l3 l4 m0 m1 m2 m3 m4 loo moo HND HNX HOK HSl1 HSm1
    have p0 : W6.cell? ⟨bP, 0, none⟩ = some (.slice ca p.clear.length cc) := HB6.out.cell 0
    have p1 : W6.cell? ⟨bP, 1, none⟩ = some (.slice ja p.jobs.length jc) := HB6.out.cell 1
    have p2 : W6.cell? ⟨bP, 2, none⟩ = some (.int .i64 p.now) := HB6.out.cell 2
    have po := HB6.out.old
    obtain ⟨loo, na, nc, hok, hnd, l0, l1, l2, l3, l4⟩ := slt_at9 HS6.out hkl
    have HND := Lib.hid hnd
    have HOK := Lib.hid hok
    clear hnd hok
    have HKJ := Lib.hid (kJobO_can HJN.out S[k].l S[k].id)
    -- region REG: the job of the slot IX, in a box: from the world named W on
    go_upto_region 12 with fail
    (refine wp_region_y 14 [(fun u _ => u = (.pointer (some ⟨bP, 1, none⟩))), (fun u _ => u = (.slice ja p.jobs.length jc)), (fun u _ => u = (.slice (some ⟨bL, oL, none⟩) S.length lc)), (fun u _ => u = (.int .i64 (k : Int))), (fun u _ => u = (.pointer (some ⟨bL, oL + k * 5, none⟩))), (fun u _ => u = (.pointer (some ⟨bL, oL + k * 5, none⟩))), (fun u _ => u = (.agg #[(.int .i64 (S[k]).l.lv), (.int .i64 (S[k]).l.st)])), (fun u _ => u = (.slice (some ⟨bL, oL, none⟩) S.length lc)), (fun u _ => u = (.int .i64 (k : Int))), (fun u _ => u = (.pointer (some ⟨bL, oL + k * 5, none⟩))), (fun u _ => u = (.pointer (some ⟨bL, oL + k * 5 + 2, none⟩))), (fun u _ => u = (.int .i64 (S[k]).id)), kJobO (jobOf p.jobs S[k].l S[k].id), kBox (W6).heap.size [(.int .i64 0), (.int .i64 0), (.int .i64 0), (.int .i64 0), (.int .i64 0), (.int .i64 0), (.int .i64 0), (.int .i64 0), .slice none 0 0] 37] (by kernel_rfl) (by kernel_rfl) (by kernel_rfl) rfl ?_ (by (repeat' (first | exact trivial | exact XReg.GoodK.same _ default | refine And.intro ?_ ?_)); all_goals (first | exact HKJ.out | exact kBox_good _ _ _)))
    (apply YReg.val (.pointer (some ⟨bP, 1, none⟩)); (case h => (intro w' hw' hF'; obtain ⟨X', rfl⟩ := hw'; have HF' := Lib.hid hF'; clear hF'; go_wp2_with (fail); exact ⟨rfl, xt⟩)); (case hv => kernel_rfl))
    (apply YReg.val (.slice ja p.jobs.length jc); (case h => (intro w' hw' hF'; obtain ⟨X', rfl⟩ := hw'; have HF' := Lib.hid hF'; clear hF'; go_wp2_with (fail); exact ⟨rfl, xt⟩)); (case hv => kernel_rfl))
    (apply YReg.val (.slice (some ⟨bL, oL, none⟩) S.length lc); (case h => (intro w' hw' hF'; obtain ⟨X', rfl⟩ := hw'; have HF' := Lib.hid hF'; clear hF'; go_wp2_with (fail); exact ⟨rfl, xt⟩)); (case hv => kernel_rfl))
    (apply YReg.val (.int .i64 (k : Int)); (case h => (intro w' hw' hF'; obtain ⟨X', rfl⟩ := hw'; have HF' := Lib.hid hF'; clear hF'; go_wp2_with (fail); exact ⟨rfl, xt⟩)); (case hv => kernel_rfl))
    (apply YReg.val (.pointer (some ⟨bL, oL + k * 5, none⟩)); (case h => (intro w' hw' hF'; obtain ⟨X', rfl⟩ := hw'; have HF' := Lib.hid hF'; clear hF'; go_wp2_with (fail); exact ⟨rfl, xt⟩)); (case hv => kernel_rfl))
    (apply YReg.val (.pointer (some ⟨bL, oL + k * 5, none⟩)); (case h => (intro w' hw' hF'; obtain ⟨X', rfl⟩ := hw'; have HF' := Lib.hid hF'; clear hF'; go_wp2_with (fail); exact ⟨rfl, xt⟩)); (case hv => kernel_rfl))
    (apply YReg.val (.agg #[(.int .i64 (S[k]).l.lv), (.int .i64 (S[k]).l.st)]); (case h => (intro w' hw' hF'; obtain ⟨X', rfl⟩ := hw'; have HF' := Lib.hid hF'; clear hF'; go_wp2_with (fail); exact ⟨rfl, xt⟩)); (case hv => kernel_rfl))
    (apply YReg.val (.slice (some ⟨bL, oL, none⟩) S.length lc); (case h => (intro w' hw' hF'; obtain ⟨X', rfl⟩ := hw'; have HF' := Lib.hid hF'; clear hF'; go_wp2_with (fail); exact ⟨rfl, xt⟩)); (case hv => kernel_rfl))
    (apply YReg.val (.int .i64 (k : Int)); (case h => (intro w' hw' hF'; obtain ⟨X', rfl⟩ := hw'; have HF' := Lib.hid hF'; clear hF'; go_wp2_with (fail); exact ⟨rfl, xt⟩)); (case hv => kernel_rfl))
    (apply YReg.val (.pointer (some ⟨bL, oL + k * 5, none⟩)); (case h => (intro w' hw' hF'; obtain ⟨X', rfl⟩ := hw'; have HF' := Lib.hid hF'; clear hF'; go_wp2_with (fail); exact ⟨rfl, xt⟩)); (case hv => kernel_rfl))
    (apply YReg.val (.pointer (some ⟨bL, oL + k * 5 + 2, none⟩)); (case h => (intro w' hw' hF'; obtain ⟨X', rfl⟩ := hw'; have HF' := Lib.hid hF'; clear hF'; go_wp2_with (fail); exact ⟨rfl, xt⟩)); (case hv => kernel_rfl))
    (apply YReg.val (.int .i64 (S[k]).id); (case h => (intro w' hw' hF'; obtain ⟨X', rfl⟩ := hw'; have HF' := Lib.hid hF'; clear hF'; go_wp2_with (fail); exact ⟨rfl, xt⟩)); (case hv => kernel_rfl))
    refine YReg.kind (fun w' hw' hF' => ?_) (fun v1 w1 hK => ?_)
    · obtain ⟨X', rfl⟩ := hw'
      clear hF'
      go_wp2_with fail
      refine (specJobOf_any _ p.jobs (S[k]).l (S[k]).id _ (HJB.out.ext rJob_stable xt) HJN.out).mono ?_
      rintro e _ ⟨nv9, fp9, rfl, ⟨X9, rfl⟩, hO⟩
      obtain ⟨a9, c9, rfl⟩ := hO.shape
      have H9 := Lib.hid (kJobO_in hO.1)
      clear hO
      unfold Jb.val at H9 ⊢
      go_wp2
      exact ⟨xt, H9.out⟩
    obtain ⟨ua, uc, f9, rfl, -⟩ := hK
    clear w1
    unfold Jb.val
    refine YReg.kind (fun w' hw' hF' => ?_) (fun v1 w1 hK => ?_)
    · obtain ⟨X', rfl⟩ := hw'
      clear hF'
      go_wp2_with fail
      refine ⟨xt, _, rfl, ?_, ?_⟩
      · first | omega | (simp only [World.size_plus, World.size_alloc]; omega)
      · have h := heap_alloc_new ((W6).plus X') (.cells (List.toArray [(.int .i64 0), (.int .i64 0), (.int .i64 0), (.int .i64 0), (.int .i64 0), (.int .i64 0), (.int .i64 0), (.int .i64 0), .slice none 0 0]) 37)
        simp only [World.size_plus] at h
        exact h
    obtain ⟨bJ, rfl, hgB, hgh⟩ := hK
    have HGB := Lib.hid hgB
    clear hgB hgh w1
    refine YReg.done1 (fun X hF => ?_)
    obtain ⟨hgB, hbx⟩ := kBox_g (hF 13 (kBox (W6).heap.size [(.int .i64 0), (.int .i64 0), (.int .i64 0), (.int .i64 0), (.int .i64 0), (.int .i64 0), (.int .i64 0), (.int .i64 0), .slice none 0 0] 37, .pointer (some ⟨bJ, 0, none⟩)) (by kernel_rfl))
    clear hF
    generalize hWX : (W6).plus X = WX at hbx ⊢
    have hexX : Ext W6 WX := by rw [← hWX]; exact xt
    have hb9 : Blk WX bJ [(.int .i64 0), (.int .i64 0), (.int .i64 0), (.int .i64 0), (.int .i64 0), (.int .i64 0), (.int .i64 0), (.int .i64 0), .slice none 0 0] 37 := hbx
    have e0 : WX.cell? ⟨bJ, 0, none⟩ = some (.int .i64 0) := hb9.cell 0
    have e1 : WX.cell? ⟨bJ, 1, none⟩ = some (.int .i64 0) := hb9.cell 1
    have e2 : WX.cell? ⟨bJ, 2, none⟩ = some (.int .i64 0) := hb9.cell 2
    have e3 : WX.cell? ⟨bJ, 3, none⟩ = some (.int .i64 0) := hb9.cell 3
    have e4 : WX.cell? ⟨bJ, 4, none⟩ = some (.int .i64 0) := hb9.cell 4
    have e5 : WX.cell? ⟨bJ, 5, none⟩ = some (.int .i64 0) := hb9.cell 5
    have e6 : WX.cell? ⟨bJ, 6, none⟩ = some (.int .i64 0) := hb9.cell 6
    have e7 : WX.cell? ⟨bJ, 7, none⟩ = some (.int .i64 0) := hb9.cell 7
    have e8 : WX.cell? ⟨bJ, 8, none⟩ = some (.slice none 0 0) := hb9.cell 8
    have eo := hb9.old
    have ef := hb9.fz
    have HB9 := Lib.hid hb9
    have HEX := Lib.hid hexX
    have HGB := Lib.hid hgB
    clear hbx hb9 hexX hgB hWX
    go_upto_region 13 with fail
    refine gen_world (fun W7 hW => ?_)
    have HEJ := Lib.hid (show Ext W6 W7 by rw [hW]; exact (set9_chg _ _ _ _ _ _ _ _ _ _ _).ext HEX.out (by have := HGB.out; simpa using this))
    have HBJ := Lib.hid (show Blk W7 bJ (Jb.cells (jobOf p.jobs S[k].l S[k].id) (.slice ua (Jb.nodes (jobOf p.jobs S[k].l S[k].id)).length uc)) 37 by rw [hW]; exact ((((((((HB9.out.set 0 _).set 1 _).set 2 _).set 3 _).set 4 _).set 5 _).set 6 _).set 7 _).set 8 _)
    clear hW e0 e1 e2 e3 e4 e5 e6 e7 e8 eo ef HB9 HEX HGB
    have HNeed := Lib.hid (HL.out.need k hkl)
    have HAt := Lib.hid (HL.out.at_ k hkl)
    have HJb := Lib.hid (HL.out.job k hkl)
    have HAp := Lib.hid (fun (q : Nat) (hq : q < S.length) (h : q < k) => HL.out.ap k q hkl hq h)
    have HFst : Hid (k = 0 → S[k].start ≤ p.now) := Lib.hid (fun h => by subst h; exact HL.out.fst hkl)
    have HE7 := Lib.hid (HE6.out.trans HEJ.out)
    have HX7 := Lib.hid (HX5.out.trans HE7.out)
    have HS7 := Lib.hid (HS6.out.ext rSlt_stable9 HEJ.out)
    have HB7 := Lib.hid (HB6.out.ext HEJ.out)
    have HC7 := Lib.hid ((ePool_jobsP HP5.out).2.ext rLabS_stable HE7.out)
    have HJB7 := Lib.hid (HJB.out.ext rJob_stable HEJ.out)
    clear l0 l1 l2 l3 l4 loo p0 p1 p2 po HND HOK HKJ HEJ HS6 HB6 HX6 HE6 HJB
    generalize jobOf p.jobs S[k].l S[k].id = J at HBJ HNeed HAt HJb HAp ⊢
    have p0 : W7.cell? ⟨bP, 0, none⟩ = some (.slice ca p.clear.length cc) := HB7.out.cell 0
    have p1 : W7.cell? ⟨bP, 1, none⟩ = some (.slice ja p.jobs.length jc) := HB7.out.cell 1
    have p2 : W7.cell? ⟨bP, 2, none⟩ = some (.int .i64 p.now) := HB7.out.cell 2
    have po := HB7.out.old
    obtain ⟨loo, na, nc, hok, hnd, l0, l1, l2, l3, l4⟩ := slt_at9 HS7.out hkl
    have HND := Lib.hid hnd
    clear hnd hok
    have j0 : W7.cell? ⟨bJ, 0, none⟩ = some (.int .i64 J.l.lv) := HBJ.out.cell 0
    have j1 : W7.cell? ⟨bJ, 1, none⟩ = some (.int .i64 J.l.st) := HBJ.out.cell 1
    have j3 : W7.cell? ⟨bJ, 3, none⟩ = some (.int .i64 J.need) := HBJ.out.cell 3
    have j4 : W7.cell? ⟨bJ, 4, none⟩ = some (.int .i64 J.long) := HBJ.out.cell 4
    have jo := HBJ.out.old
    have hn1 : ((S[k].nodes.length : Int) != J.need) = false := by rw [HNeed.out]; exact bne_self_eq_false' _
    go_cut [82] from 60 to 82 (fun s82 wx => s82 = .bool false ∧ Hid (Ext W7 wx))
    case first =>
      by_cases hk0 : k = 0
      · have hk0b : ((k : Int) == 0) = true := by simp [hk0]
        have hst := HFst.out hk0
        have hstb : decide (p.now < S[k].start) = false := decide_eq_false (by omega)
        have HST := Lib.hid hst
        have HK0 := Lib.hid hk0
        clear hst hk0
        (refine wp_region_x 23 (by kernel_rfl) (by kernel_rfl) (by kernel_rfl) ?_; (iterate 23 (apply XReg.step; (case h => (intro w' hw'; obtain ⟨X', rfl⟩ := hw'; go_wp2_with (fail); exact ⟨rfl, xt⟩)); (case hv => kernel_rfl))); refine XReg.doneN (fun X => ?_))
        go_wp2_with fail
        go_meet
        exact ⟨rfl, Lib.hid xt⟩
      · have hk0b : ((k : Int) == 0) = false := by simp [hk0]
        have HK0 := Lib.hid hk0
        clear hk0
        (refine wp_region_x 23 (by kernel_rfl) (by kernel_rfl) (by kernel_rfl) ?_; (iterate 23 (apply XReg.step; (case h => (intro w' hw'; obtain ⟨X', rfl⟩ := hw'; go_wp2_with (fail); exact ⟨rfl, xt⟩)); (case hv => kernel_rfl))); refine XReg.doneN (fun X => ?_))
        go_wp2_with fail
        go_meet
        exact ⟨rfl, Lib.hid xt⟩
    case rest =>
      obtain ⟨rfl, HEx⟩ := hcut
      clear HFst hn1
      have HE8 := Lib.hid (HE7.out.trans HEx.out)
      have HX8 := Lib.hid (HX5.out.trans HE8.out)
      have HS8 := Lib.hid (HS7.out.ext rSlt_stable9 HEx.out)
      have HB8 := Lib.hid (HB7.out.ext HEx.out)
      have HC8 := Lib.hid (HC7.out.ext rLabS_stable HEx.out)
      have HJB8 := Lib.hid (HJB7.out.ext rJob_stable HEx.out)
      have HN8 := Lib.hid (HND.out.ext rInt_stable HEx.out)
      have HBJ8 := Lib.hid (HBJ.out.ext HEx.out)
      have l0' := HEx.out.cell l0
      have l1' := HEx.out.cell l1
      have l2' := HEx.out.cell l2
      have l3' := HEx.out.cell l3
      have l4' := HEx.out.cell l4
      have loo' : wc.old bL := World.old_of_cell l0'
      clear l0 l1 l2 l3 l4 loo p0 p1 p2 po j0 j1 j3 j4 jo HE7 HX7 HS7 HB7 HC7 HJB7 HND HBJ HEx
      have p0 : wc.cell? ⟨bP, 0, none⟩ = some (.slice ca p.clear.length cc) := HB8.out.cell 0
      have p1 : wc.cell? ⟨bP, 1, none⟩ = some (.slice ja p.jobs.length jc) := HB8.out.cell 1
      have po := HB8.out.old
      have j0 : wc.cell? ⟨bJ, 0, none⟩ = some (.int .i64 J.l.lv) := HBJ8.out.cell 0
      have j1 : wc.cell? ⟨bJ, 1, none⟩ = some (.int .i64 J.l.st) := HBJ8.out.cell 1
      have j4 : wc.cell? ⟨bJ, 4, none⟩ = some (.int .i64 J.long) := HBJ8.out.cell 4
      have jo := HBJ8.out.old
      have hnl : S[k].nodes.length ≤ 8 := (HZ9.out.2 _ (List.getElem_mem hkl)).2
      have hkl9 : k < 100 := by have := HLen.out; omega
      go_upto_block 2 with fail
      refine planL2 _ _ _ p S.length k S[k].nodes J bP bL oL lc nc cc bJ ca na _ _ _ _ _ _ _ _ _ _ _ _ _ _ _ _ _ _ _ _ _ _ _ _ _ _ _ _ _ _ _ _ _ _ _ _ _ _ _ _ _ _ _ _ _ _ _ _ _ _ _ _ _ _ _ _ _ _ _ _ _ _ _ _ _ _ _ _ _ _ _ _ _ _ _ _ _ _ _ _ _ _ _ _ _ _ _ _ _ _ _ _ _ _ _ _ _ _ _ _ _ _ _ _ _ _ _ _ _ _ _ _ _ _ _ _ _ _ _ _ _ _ _ _ _ _ _ _ _ _ _ _ _ _ _ _ _ _ _ _ _ _ _ _ _ _ _ _ _ _ _ _ _ _ _ _ _ _ _ _ _ _ _ _ _ _ _ _ _ _ _ _ _ _ _ _ _ _ _ _ _ _ _ _ _ _ _ _ _ _ _ _ _ _ _ _ _ _ _ _ _ _ _ _ _ _ hkl HLen.out p0 po l4' loo' j0 j1 jo HN8 HC8 HAt HB hnl ?_
      intro u2 u8 u9 u10 u11 u83 u84 u85 u86 u87 u88 u89 u90 u91 u92 u93 u94 u95 u96 u97 u98 u99 u100 u101 u102 u103 u104 u105 u106 u107 u108 u109 u110 u111 u112 u113 u114 u115 u116 u117 u118 u119 u120 u121 u122 wy hEy
      have HEy := Lib.hid hEy
      clear hEy
      have HX9 := Lib.hid (HX8.out.trans HEy.out)
      have HS9 := Lib.hid (HS8.out.ext rSlt_stable9 HEy.out)
      have HB9 := Lib.hid (HB8.out.ext HEy.out)
      have HJ9 := Lib.hid (HJB8.out.ext rJob_stable HEy.out)
      have HN9 := Lib.hid (HN8.out.ext rInt_stable HEy.out)
      have HBJ9 := Lib.hid (HBJ8.out.ext HEy.out)
      have HE9 := Lib.hid (HE8.out.trans HEy.out)
      have y0 := HEy.out.cell l0'
      have y1 := HEy.out.cell l1'
      have y2 := HEy.out.cell l2'
      have y3 := HEy.out.cell l3'
      have y4 := HEy.out.cell l4'
      have yo : wy.old bL := World.old_of_cell y0
      clear l0' l1' l2' l3' l4' loo' p0 p1 po j0 j1 j4 jo HX8 HS8 HB8 HC8 HJB8 HN8 HBJ8 HE8 HEy HAt HNeed
      have p0 : wy.cell? ⟨bP, 0, none⟩ = some (.slice ca p.clear.length cc) := HB9.out.cell 0
      have p1 : wy.cell? ⟨bP, 1, none⟩ = some (.slice ja p.jobs.length jc) := HB9.out.cell 1
      have po := HB9.out.old
      have j4 : wy.cell? ⟨bJ, 4, none⟩ = some (.int .i64 J.long) := HBJ9.out.cell 4
      have jo := HBJ9.out.old
      have hkw : wrap64 ((k : Int) + 1) = (k : Int) + 1 := by unfold wrap64; omega
      go_upto_block 6 with fail
      refine planL4 _ wy p S k J bP bL oL lc nc jc bJ ja na _ _ _ _ _ _ _ _ _ _ _ _ _ _ _ _ _ _ _ _ _ _ _ _ _ _ _ _ _ _ _ _ _ _ _ _ _ _ _ _ _ _ _ _ _ _ _ _ _ _ _ _ _ _ _ _ _ _ _ _ _ _ _ _ _ _ _ _ _ _ _ _ _ _ _ _ _ _ _ _ _ _ _ _ _ _ _ _ _ _ _ _ _ _ _ _ _ _ _ _ _ _ _ _ _ _ _ _ _ _ _ _ _ _ _ _ _ _ _ _ _ _ _ _ _ _ _ _ _ _ _ _ _ _ _ _ _ _ _ _ _ _ _ _ _ _ _ _ _ _ _ _ _ _ _ _ _ _ _ _ _ _ _ _ _ _ _ _ _ _ _ _ _ _ _ _ _ _ _ _ _ _ _ _ _ _ _ _ _ _ _ _ _ _ _ _ _ _ _ _ _ _ _ _ _ _ hkl HLen p1 po y3 y4 yo j4 jo HS9 HJ9 HJN HN9 HL HZ9 HJb HAp ?_
      intro u2 u12 u13 u14 u15 u16 u123 u124 u125 u126 u127 u128 u129 u130 u131 u132 u133 u134 u135 u136 u137 u138 u139 u140 u141 u142 u143 u144 u145 u146 u147 u148 u149 u150 u151 u152 u153 u154 u155 u156 u157 u158 u159 u160 u161 u162 u163 u164 u165 u166 u167 u168 u169 u170 u171 u172 u173 u174 u175 u176 u177 u178 u179 u180 u181 u182 u183 u184 u185 u186 u187 u188 u189 u190 u191 u192 u193 u194 u195 u196 u197 u198 u199 u200 u201 u202 u203 u204 u205 u206 u207 u208 u209 u210 wz hEz
      have HEZ := Lib.hid (HE9.out.trans hEz)
      clear hEz
      go_wp2
      exact ⟨⟨k + 1, by omega, by go_num, HEZ⟩, by simp [intOf]; omega⟩
end Go.Proofs.YtkhmdhdaldbbhaaGreat
