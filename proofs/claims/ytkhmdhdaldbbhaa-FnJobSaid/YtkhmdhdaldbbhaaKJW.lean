/- FnJob, walked. -/
import Derived.Test.YtkhmdhdaldbbhaaKJQ
import Derived.Test.YtkhmdhdaldbbhaaKJX
import Derived.Test.YtkhmdhdaldbbhaaKTAB
import Derived.Test.YtkhmdhdaldbbhaaKCC
import Derived.Test.YtkhmdhdaldbbhaaKJE
set_option maxRecDepth 100000
set_option linter.unusedVariables false
namespace Go.Proofs.Ytkhmdhdaldbbhaa
open Go.RowKit Go.Fin1
set_option maxHeartbeats 1600000 in
theorem lwJob_self (j : Jb) (nv nv' : Value) (w : World) (h : SlR w 1 rInt nv j.nodes) (h' : SlR w 1 rInt nv' j.nodes) :
    Calls Try.prog 10 #[j.val nv, j.val nv'] w fun e w' => e = .returned (.bool true) ∧ Ext w w' := by
  obtain ⟨a, c, rfl⟩ := h.len
  obtain ⟨b, d, rfl⟩ := h'.len
  have H1 := Lib.hid h
  have H2 := Lib.hid h'
  clear h h'
  have hs : sameL ⟨j.l.lv, j.l.st⟩ ⟨j.l.lv, j.l.st⟩ = true := sameL_self _
  unfold Jb.val
  go_enter Try.func10, Try.ntmps10
  go_wp2_with fail
  refine (lwNums_self _ _ j.nodes _ (H1.out.ext rInt_stable xt) (H2.out.ext rInt_stable xt)).mono ?_
  rintro e _ ⟨rfl, X, rfl⟩
  go_wp2
  go_ret
  exact ⟨rfl, xt⟩
theorem jobR_lab {j : Jb} (h : jobR j = true) : labR j.l = true := by
  unfold jobR at h
  simp only [Bool.and_eq_true] at h
  exact h.1.1.1.1.1.1
set_option maxHeartbeats 12800000 in
theorem fnJob_any (a b : Arg (List Int)) (w : World) (ha : SlR w 1 rU8 a.v a.x) (hb : SlR w 1 rU8 b.v b.x) :
    Calls Try.prog 3 #[a.v, b.v] w fun e w' => e = .returned (.bool true) ∧ Ext w w' := by
  obtain ⟨v, l⟩ := a
  obtain ⟨u, m⟩ := b
  change SlR w 1 rU8 v l at ha
  change SlR w 1 rU8 u m at hb
  change Calls Try.prog 3 #[v, u] w _
  obtain ⟨va, vc, rfl⟩ := ha.len
  obtain ⟨ua, uc, rfl⟩ := hb.len
  have HS := Lib.hid ha
  have HU := Lib.hid hb
  clear ha hb
  by_cases hl : l.length ≤ 1048576
  case neg =>
    have hlb : decide ((1048576 : Int) < (l.length : Int)) = true := decide_eq_true (by omega)
    go_enter Try.func3, Try.ntmps3
    go_wp2
    go_ret
    exact ⟨rfl, xt⟩
  have hlb : decide ((1048576 : Int) < (l.length : Int)) = false := decide_eq_false (by omega)
  by_cases hm : m.length ≤ 1048576
  case neg =>
    have hmb : decide ((1048576 : Int) < (m.length : Int)) = true := decide_eq_true (by omega)
    go_enter Try.func3, Try.ntmps3
    go_wp2
    go_ret
    exact ⟨rfl, xt⟩
  have hmb : decide ((1048576 : Int) < (m.length : Int)) = false := decide_eq_false (by omega)
  go_enter Try.func3, Try.ntmps3
  go_wp2_with fail
  refine (drawAhead_any _ l _ (HS.out.ext rU8_stable xt) hl).mono ?_
  rintro e w2 ⟨A, B, na, nc, ma, mc, rfl, hx, hDa, hDb, hNa, hNb⟩
  have HX2 := Lib.hid hx
  have HDa := Lib.hid hDa
  have HDb := Lib.hid hDb
  have HNa2 := Lib.hid hNa
  have HNb2 := Lib.hid hNb
  clear hx hDa hDb hNa hNb
  unfold Jb.val
  go_upto_region 4 with fail
  refine gen_world (fun W3 hW => ?_)
  have HX3 := Lib.hid (show Ext w W3 by rw [hW]; exact HX2.out.trans xt)
  have HE23 := Lib.hid (show Ext w2 W3 by rw [hW]; exact xt)
  have HA3 := Lib.hid (show Blk W3 w2.heap.size (A.cells (.slice na A.nodes.length nc)) 27 by rw [hW]; exact (Blk.new (w := w2) (cs := (A.cells (.slice na A.nodes.length nc)).toArray) (ty := 27) rfl).ext xt)
  have HB3 := Lib.hid (show Blk W3 (w2.heap.size + 1) (B.cells (.slice ma B.nodes.length mc)) 27 by rw [hW]; exact Blk.new (by simp))
  clear hW
  generalize w2.heap.size + 1 = bB at HB3 ⊢
  generalize w2.heap.size = bA at HA3 ⊢
  go_wp2_with fail
  refine (drawJobOf_any _ m _ (HU.out.ext rU8_stable (HX3.out.trans xt)) hm).mono ?_
  rintro e w4 ⟨la, lc, L, x, id, rfl, hx, hJL, hJN, hxo⟩
  have HX4 := Lib.hid (HX3.out.trans hx)
  have HE34 := Lib.hid hx
  have HJL4 := Lib.hid hJL
  have HJN := Lib.hid (show ∀ j ∈ L, j.nodes.length ≤ 1048576 from fun j hj => Nat.le_trans (hJN j hj) (by decide))
  clear hx hJL hJN hxo
  go_upto_region 5 with fail
  refine gen_world (fun W4 hW => ?_)
  have HX5 := Lib.hid (show Ext w W4 by rw [hW]; exact HX4.out.trans xt)
  have HE44 := Lib.hid (show Ext w4 W4 by rw [hW]; exact xt)
  have HL4 := Lib.hid (show Blk W4 w4.heap.size [(.int .i64 x.lv), (.int .i64 x.st)] 24 by rw [hW]; exact Blk.new rfl)
  clear hW
  generalize w4.heap.size = bX at HL4 ⊢
  go_wp2_with fail
  refine (drawJobsRight_any _ m _ (HU.out.ext rU8_stable (HX5.out.trans xt)) hm).mono ?_
  rintro e W5 ⟨ra, rc9, R, rfl, hx, hJR⟩
  have HX6 := Lib.hid (HX5.out.trans hx)
  have hE := HE34.out.trans (HE44.out.trans hx)
  have HA5 := Lib.hid (HA3.out.ext hE)
  have HB5 := Lib.hid (HB3.out.ext hE)
  have HL5 := Lib.hid (HL4.out.ext hx)
  have HNa := Lib.hid (HNa2.out.ext rInt_stable (HE23.out.trans hE))
  have HNb := Lib.hid (HNb2.out.ext rInt_stable (HE23.out.trans hE))
  have HJL := Lib.hid (HJL4.out.ext rJob_stable (HE44.out.trans hx))
  have HJR := Lib.hid hJR
  have HJF := Lib.hid (jobOf_fit (slr_jobs HJL.out) x id)
  clear hx hE hJR HX2 HX3 HX4 HX5 HE23 HE34 HE44 HA3 HB3 HL4 HNa2 HNb2 HJL4
  obtain ⟨q, hq⟩ : ∃ q, (jobR A && jobR B && aheadJ A B) = q := ⟨_, rfl⟩
  have HQ := Lib.hid hq
  clear hq
  have HKG : Hid (XReg.GoodK (kJobO (jobOf L x id))) := Lib.hid (by obtain ⟨_, _, _, h⟩ := oIntS_new default (jobOf L x id).nodes (by have := jobOf_len HJN.out x id; unfold maxLen; omega); exact kJobO_good h)
  go_upto_region 6 with fail
  (refine wp_region_y 33 [(fun u _ => u = (.agg #[(.int .i64 A.l.lv), (.int .i64 A.l.st), (.int .i64 A.id), (.int .i64 A.need), (.int .i64 A.long), (.int .i64 A.prio), (.int .i64 A.state), (.int .i64 A.start), .slice na A.nodes.length nc])), (fun u _ => u = (.agg #[(.int .i64 B.l.lv), (.int .i64 B.l.st), (.int .i64 B.id), (.int .i64 B.need), (.int .i64 B.long), (.int .i64 B.prio), (.int .i64 B.state), (.int .i64 B.start), .slice ma B.nodes.length mc])), (fun u _ => u = (.bool q)), (fun u _ => u = (.agg #[(.int .i64 A.l.lv), (.int .i64 A.l.st), (.int .i64 A.id), (.int .i64 A.need), (.int .i64 A.long), (.int .i64 A.prio), (.int .i64 A.state), (.int .i64 A.start), .slice na A.nodes.length nc])), (fun u _ => u = (.agg #[(.int .i64 B.l.lv), (.int .i64 B.l.st), (.int .i64 B.id), (.int .i64 B.need), (.int .i64 B.long), (.int .i64 B.prio), (.int .i64 B.state), (.int .i64 B.start), .slice ma B.nodes.length mc])), (fun u _ => u = (.bool q)), (fun u _ => u = (.bool false)), (fun u _ => u = (.bool false)), (fun u _ => u = (.slice la L.length lc)), (fun u _ => u = (.agg #[(.int .i64 x.lv), (.int .i64 x.st)])), (fun u _ => u = (.int .i64 id)), kJobO (jobOf L x id), (fun u _ => u = (.slice la L.length lc)), (fun u _ => u = (.agg #[(.int .i64 x.lv), (.int .i64 x.st)])), (fun u _ => u = (.int .i64 id)), kJobO (jobOf L x id), (fun u _ => u = (.bool true)), (fun u _ => u = (.bool false)), (fun u _ => u = (.bool false)), (fun u _ => u = (.bool false)), (fun u _ => u = (.agg #[(.int .i64 A.l.lv), (.int .i64 A.l.st), (.int .i64 A.id), (.int .i64 A.need), (.int .i64 A.long), (.int .i64 A.prio), (.int .i64 A.state), (.int .i64 A.start), .slice na A.nodes.length nc])), (fun u _ => u = (.bool (jobR A))), (fun u _ => u = (.agg #[(.int .i64 A.l.lv), (.int .i64 A.l.st), (.int .i64 A.id), (.int .i64 A.need), (.int .i64 A.long), (.int .i64 A.prio), (.int .i64 A.state), (.int .i64 A.start), .slice na A.nodes.length nc])), (fun u _ => u = (.bool (jobR A))), (fun u _ => u = (.bool false)), (fun u _ => u = (.bool false)), (fun u _ => u = (.bool false)), (fun u _ => u = (.slice ra R.length rc9)), (fun u _ => u = (.bool (jobsR R))), (fun u _ => u = (.slice ra R.length rc9)), (fun u _ => u = (.bool (jobsR R))), (fun u _ => u = (.bool false)), (fun u _ => u = (.bool false))] (by kernel_rfl) (by kernel_rfl) (by kernel_rfl) rfl ?_ (by (repeat' (first | exact trivial | exact XReg.GoodK.same _ default | refine And.intro ?_ ?_)); all_goals (exact HKG.out)))
  apply YReg.val (.agg #[(.int .i64 A.l.lv), (.int .i64 A.l.st), (.int .i64 A.id), (.int .i64 A.need), (.int .i64 A.long), (.int .i64 A.prio), (.int .i64 A.state), (.int .i64 A.start), .slice na A.nodes.length nc])
  case h =>
    intro w' hw' hF'
    obtain ⟨X', rfl⟩ := hw'
    (have hB := HA5.out.ext ((Ext.refl W5).plus X')); (have c0 : (W5.plus X').cell? ⟨bA, 0, none⟩ = some (.int .i64 A.l.lv) := hB.cell 0; have c1 : (W5.plus X').cell? ⟨bA, 1, none⟩ = some (.int .i64 A.l.st) := hB.cell 1; have c2 : (W5.plus X').cell? ⟨bA, 2, none⟩ = some (.int .i64 A.id) := hB.cell 2; have c3 : (W5.plus X').cell? ⟨bA, 3, none⟩ = some (.int .i64 A.need) := hB.cell 3; have c4 : (W5.plus X').cell? ⟨bA, 4, none⟩ = some (.int .i64 A.long) := hB.cell 4; have c5 : (W5.plus X').cell? ⟨bA, 5, none⟩ = some (.int .i64 A.prio) := hB.cell 5; have c6 : (W5.plus X').cell? ⟨bA, 6, none⟩ = some (.int .i64 A.state) := hB.cell 6; have c7 : (W5.plus X').cell? ⟨bA, 7, none⟩ = some (.int .i64 A.start) := hB.cell 7; have c8 : (W5.plus X').cell? ⟨bA, 8, none⟩ = some (.slice na A.nodes.length nc) := hB.cell 8; have co := hB.old; clear hB)
    have HF' := Lib.hid hF'
    clear hF'
    go_wp2_with (fail)
    exact ⟨rfl, xt⟩
  case hv => kernel_rfl
  apply YReg.val (.agg #[(.int .i64 B.l.lv), (.int .i64 B.l.st), (.int .i64 B.id), (.int .i64 B.need), (.int .i64 B.long), (.int .i64 B.prio), (.int .i64 B.state), (.int .i64 B.start), .slice ma B.nodes.length mc])
  case h =>
    intro w' hw' hF'
    obtain ⟨X', rfl⟩ := hw'
    (have hB := HB5.out.ext ((Ext.refl W5).plus X')); (have c0 : (W5.plus X').cell? ⟨bB, 0, none⟩ = some (.int .i64 B.l.lv) := hB.cell 0; have c1 : (W5.plus X').cell? ⟨bB, 1, none⟩ = some (.int .i64 B.l.st) := hB.cell 1; have c2 : (W5.plus X').cell? ⟨bB, 2, none⟩ = some (.int .i64 B.id) := hB.cell 2; have c3 : (W5.plus X').cell? ⟨bB, 3, none⟩ = some (.int .i64 B.need) := hB.cell 3; have c4 : (W5.plus X').cell? ⟨bB, 4, none⟩ = some (.int .i64 B.long) := hB.cell 4; have c5 : (W5.plus X').cell? ⟨bB, 5, none⟩ = some (.int .i64 B.prio) := hB.cell 5; have c6 : (W5.plus X').cell? ⟨bB, 6, none⟩ = some (.int .i64 B.state) := hB.cell 6; have c7 : (W5.plus X').cell? ⟨bB, 7, none⟩ = some (.int .i64 B.start) := hB.cell 7; have c8 : (W5.plus X').cell? ⟨bB, 8, none⟩ = some (.slice ma B.nodes.length mc) := hB.cell 8; have co := hB.old; clear hB)
    have HF' := Lib.hid hF'
    clear hF'
    go_wp2_with (fail)
    exact ⟨rfl, xt⟩
  case hv => kernel_rfl
  apply YReg.val (.bool q)
  case h =>
    intro w' hw' hF'
    obtain ⟨X', rfl⟩ := hw'
    have HF' := Lib.hid hF'
    clear hF'
    go_wp2_with (go_at_call 8; refine (implAhead_any A B _ _ _ HDa.out.ok HDb.out.ok (HNa.out.ext rInt_stable xt) (HNb.out.ext rInt_stable xt)).mono ?_; rintro e _ ⟨rfl, X9, rfl⟩; rw [HQ.out])
    exact ⟨rfl, xt⟩
  case hv => kernel_rfl
  apply YReg.val (.agg #[(.int .i64 A.l.lv), (.int .i64 A.l.st), (.int .i64 A.id), (.int .i64 A.need), (.int .i64 A.long), (.int .i64 A.prio), (.int .i64 A.state), (.int .i64 A.start), .slice na A.nodes.length nc])
  case h =>
    intro w' hw' hF'
    obtain ⟨X', rfl⟩ := hw'
    (have hB := HA5.out.ext ((Ext.refl W5).plus X')); (have c0 : (W5.plus X').cell? ⟨bA, 0, none⟩ = some (.int .i64 A.l.lv) := hB.cell 0; have c1 : (W5.plus X').cell? ⟨bA, 1, none⟩ = some (.int .i64 A.l.st) := hB.cell 1; have c2 : (W5.plus X').cell? ⟨bA, 2, none⟩ = some (.int .i64 A.id) := hB.cell 2; have c3 : (W5.plus X').cell? ⟨bA, 3, none⟩ = some (.int .i64 A.need) := hB.cell 3; have c4 : (W5.plus X').cell? ⟨bA, 4, none⟩ = some (.int .i64 A.long) := hB.cell 4; have c5 : (W5.plus X').cell? ⟨bA, 5, none⟩ = some (.int .i64 A.prio) := hB.cell 5; have c6 : (W5.plus X').cell? ⟨bA, 6, none⟩ = some (.int .i64 A.state) := hB.cell 6; have c7 : (W5.plus X').cell? ⟨bA, 7, none⟩ = some (.int .i64 A.start) := hB.cell 7; have c8 : (W5.plus X').cell? ⟨bA, 8, none⟩ = some (.slice na A.nodes.length nc) := hB.cell 8; have co := hB.old; clear hB)
    have HF' := Lib.hid hF'
    clear hF'
    go_wp2_with (fail)
    exact ⟨rfl, xt⟩
  case hv => kernel_rfl
  apply YReg.val (.agg #[(.int .i64 B.l.lv), (.int .i64 B.l.st), (.int .i64 B.id), (.int .i64 B.need), (.int .i64 B.long), (.int .i64 B.prio), (.int .i64 B.state), (.int .i64 B.start), .slice ma B.nodes.length mc])
  case h =>
    intro w' hw' hF'
    obtain ⟨X', rfl⟩ := hw'
    (have hB := HB5.out.ext ((Ext.refl W5).plus X')); (have c0 : (W5.plus X').cell? ⟨bB, 0, none⟩ = some (.int .i64 B.l.lv) := hB.cell 0; have c1 : (W5.plus X').cell? ⟨bB, 1, none⟩ = some (.int .i64 B.l.st) := hB.cell 1; have c2 : (W5.plus X').cell? ⟨bB, 2, none⟩ = some (.int .i64 B.id) := hB.cell 2; have c3 : (W5.plus X').cell? ⟨bB, 3, none⟩ = some (.int .i64 B.need) := hB.cell 3; have c4 : (W5.plus X').cell? ⟨bB, 4, none⟩ = some (.int .i64 B.long) := hB.cell 4; have c5 : (W5.plus X').cell? ⟨bB, 5, none⟩ = some (.int .i64 B.prio) := hB.cell 5; have c6 : (W5.plus X').cell? ⟨bB, 6, none⟩ = some (.int .i64 B.state) := hB.cell 6; have c7 : (W5.plus X').cell? ⟨bB, 7, none⟩ = some (.int .i64 B.start) := hB.cell 7; have c8 : (W5.plus X').cell? ⟨bB, 8, none⟩ = some (.slice ma B.nodes.length mc) := hB.cell 8; have co := hB.old; clear hB)
    have HF' := Lib.hid hF'
    clear hF'
    go_wp2_with (fail)
    exact ⟨rfl, xt⟩
  case hv => kernel_rfl
  apply YReg.val (.bool q)
  case h =>
    intro w' hw' hF'
    obtain ⟨X', rfl⟩ := hw'
    have HF' := Lib.hid hF'
    clear hF'
    go_wp2_with (go_at_call 9; refine (specAhead_any A B _ _ _ HDa.out.ok HDb.out.ok (HNa.out.ext rInt_stable xt) (HNb.out.ext rInt_stable xt)).mono ?_; rintro e _ ⟨rfl, X9, rfl⟩; rw [HQ.out])
    exact ⟨rfl, xt⟩
  case hv => kernel_rfl
  apply YReg.val (.bool false)
  case h =>
    intro w' hw' hF'
    obtain ⟨X', rfl⟩ := hw'
    have HF' := Lib.hid hF'
    clear hF'
    go_wp2_with (fail)
    exact ⟨rfl, xt⟩
  case hv => kernel_rfl
  apply YReg.val (.bool false)
  case h =>
    intro w' hw' hF'
    obtain ⟨X', rfl⟩ := hw'
    have HF' := Lib.hid hF'
    clear hF'
    go_wp2_with (fail)
    exact ⟨rfl, xt⟩
  case hv => kernel_rfl
  apply YReg.val (.slice la L.length lc)
  case h =>
    intro w' hw' hF'
    obtain ⟨X', rfl⟩ := hw'
    have HF' := Lib.hid hF'
    clear hF'
    go_wp2_with (fail)
    exact ⟨rfl, xt⟩
  case hv => kernel_rfl
  apply YReg.val (.agg #[(.int .i64 x.lv), (.int .i64 x.st)])
  case h =>
    intro w' hw' hF'
    obtain ⟨X', rfl⟩ := hw'
    have hB := HL5.out.ext ((Ext.refl W5).plus X'); have c0 : (W5.plus X').cell? ⟨bX, 0, none⟩ = some (.int .i64 x.lv) := hB.cell 0; have c1 : (W5.plus X').cell? ⟨bX, 1, none⟩ = some (.int .i64 x.st) := hB.cell 1; have co := hB.old; clear hB
    have HF' := Lib.hid hF'
    clear hF'
    go_wp2_with (fail)
    exact ⟨rfl, xt⟩
  case hv => kernel_rfl
  apply YReg.val (.int .i64 id)
  case h =>
    intro w' hw' hF'
    obtain ⟨X', rfl⟩ := hw'
    have HF' := Lib.hid hF'
    clear hF'
    go_wp2_with (fail)
    exact ⟨rfl, xt⟩
  case hv => kernel_rfl
  refine YReg.kind (fun w' hw' hF' => ?_) (fun v11 w1 hK => ?_)
  · obtain ⟨X', rfl⟩ := hw'
    clear hF'
    go_wp2_with fail
    refine (implJobOf_any _ L x id _ (HJL.out.ext rJob_stable xt) HJN.out).mono ?_
    rintro e _ ⟨nv9, fp9, rfl, ⟨X9, rfl⟩, hO⟩
    have H9 := Lib.hid (kJobO_in hO.1)
    clear hO
    go_wp2
    exact ⟨xt, H9.out⟩
  obtain ⟨j11a, j11c, j11f, rfl, -⟩ := hK
  clear w1
  apply YReg.val (.slice la L.length lc)
  case h =>
    intro w' hw' hF'
    obtain ⟨X', rfl⟩ := hw'
    have HF' := Lib.hid hF'
    clear hF'
    go_wp2_with (fail)
    exact ⟨rfl, xt⟩
  case hv => kernel_rfl
  apply YReg.val (.agg #[(.int .i64 x.lv), (.int .i64 x.st)])
  case h =>
    intro w' hw' hF'
    obtain ⟨X', rfl⟩ := hw'
    have hB := HL5.out.ext ((Ext.refl W5).plus X'); have c0 : (W5.plus X').cell? ⟨bX, 0, none⟩ = some (.int .i64 x.lv) := hB.cell 0; have c1 : (W5.plus X').cell? ⟨bX, 1, none⟩ = some (.int .i64 x.st) := hB.cell 1; have co := hB.old; clear hB
    have HF' := Lib.hid hF'
    clear hF'
    go_wp2_with (fail)
    exact ⟨rfl, xt⟩
  case hv => kernel_rfl
  apply YReg.val (.int .i64 id)
  case h =>
    intro w' hw' hF'
    obtain ⟨X', rfl⟩ := hw'
    have HF' := Lib.hid hF'
    clear hF'
    go_wp2_with (fail)
    exact ⟨rfl, xt⟩
  case hv => kernel_rfl
  refine YReg.kind (fun w' hw' hF' => ?_) (fun v15 w1 hK => ?_)
  · obtain ⟨X', rfl⟩ := hw'
    clear hF'
    go_wp2_with fail
    refine (specJobOf_any _ L x id _ (HJL.out.ext rJob_stable xt) HJN.out).mono ?_
    rintro e _ ⟨nv9, fp9, rfl, ⟨X9, rfl⟩, hO⟩
    have H9 := Lib.hid (kJobO_in hO.1)
    clear hO
    go_wp2
    exact ⟨xt, H9.out⟩
  obtain ⟨j15a, j15c, j15f, rfl, -⟩ := hK
  clear w1
  apply YReg.val (.bool true)
  case h =>
    intro w' hw' hF'
    obtain ⟨f1, h1⟩ := kJobO_r (hF'.get 11 (p := (kJobO (jobOf L x id), (jobOf L x id).val (.slice j11a (jobOf L x id).nodes.length j11c))) (by kernel_rfl) (by kernel_rfl))
    obtain ⟨f2, h2⟩ := kJobO_r (hF'.get 15 (p := (kJobO (jobOf L x id), (jobOf L x id).val (.slice j15a (jobOf L x id).nodes.length j15c))) (by kernel_rfl) (by kernel_rfl))
    have H1 := Lib.hid (oIntS_r h1 HJF.out.2)
    have H2 := Lib.hid (oIntS_r h2 HJF.out.2)
    obtain ⟨X', rfl⟩ := hw'
    clear hF' h1 h2
    go_wp2_with fail
    refine (lwJob_self (jobOf L x id) _ _ _ (H1.out.ext rInt_stable xt) (H2.out.ext rInt_stable xt)).mono ?_
    rintro e _ ⟨rfl, X9, rfl⟩
    go_wp2
    exact ⟨rfl, xt⟩
  case hv => kernel_rfl
  apply YReg.val (.bool false)
  case h =>
    intro w' hw' hF'
    obtain ⟨X', rfl⟩ := hw'
    have HF' := Lib.hid hF'
    clear hF'
    go_wp2_with (fail)
    exact ⟨rfl, xt⟩
  case hv => kernel_rfl
  apply YReg.val (.bool false)
  case h =>
    intro w' hw' hF'
    obtain ⟨X', rfl⟩ := hw'
    have HF' := Lib.hid hF'
    clear hF'
    go_wp2_with (fail)
    exact ⟨rfl, xt⟩
  case hv => kernel_rfl
  apply YReg.val (.bool false)
  case h =>
    intro w' hw' hF'
    obtain ⟨X', rfl⟩ := hw'
    have HF' := Lib.hid hF'
    clear hF'
    go_wp2_with (fail)
    exact ⟨rfl, xt⟩
  case hv => kernel_rfl
  apply YReg.val (.agg #[(.int .i64 A.l.lv), (.int .i64 A.l.st), (.int .i64 A.id), (.int .i64 A.need), (.int .i64 A.long), (.int .i64 A.prio), (.int .i64 A.state), (.int .i64 A.start), .slice na A.nodes.length nc])
  case h =>
    intro w' hw' hF'
    obtain ⟨X', rfl⟩ := hw'
    (have hB := HA5.out.ext ((Ext.refl W5).plus X')); (have c0 : (W5.plus X').cell? ⟨bA, 0, none⟩ = some (.int .i64 A.l.lv) := hB.cell 0; have c1 : (W5.plus X').cell? ⟨bA, 1, none⟩ = some (.int .i64 A.l.st) := hB.cell 1; have c2 : (W5.plus X').cell? ⟨bA, 2, none⟩ = some (.int .i64 A.id) := hB.cell 2; have c3 : (W5.plus X').cell? ⟨bA, 3, none⟩ = some (.int .i64 A.need) := hB.cell 3; have c4 : (W5.plus X').cell? ⟨bA, 4, none⟩ = some (.int .i64 A.long) := hB.cell 4; have c5 : (W5.plus X').cell? ⟨bA, 5, none⟩ = some (.int .i64 A.prio) := hB.cell 5; have c6 : (W5.plus X').cell? ⟨bA, 6, none⟩ = some (.int .i64 A.state) := hB.cell 6; have c7 : (W5.plus X').cell? ⟨bA, 7, none⟩ = some (.int .i64 A.start) := hB.cell 7; have c8 : (W5.plus X').cell? ⟨bA, 8, none⟩ = some (.slice na A.nodes.length nc) := hB.cell 8; have co := hB.old; clear hB)
    have HF' := Lib.hid hF'
    clear hF'
    go_wp2_with (fail)
    exact ⟨rfl, xt⟩
  case hv => kernel_rfl
  apply YReg.val (.bool (jobR A))
  case h =>
    intro w' hw' hF'
    obtain ⟨X', rfl⟩ := hw'
    have HF' := Lib.hid hF'
    clear hF'
    go_wp2_with (go_at_call 13; refine (implJobRight_any A _ _ HDa.out.ok (HNa.out.ext rInt_stable xt)).mono ?_; rintro e _ ⟨rfl, X9, rfl⟩)
    exact ⟨rfl, xt⟩
  case hv => kernel_rfl
  apply YReg.val (.agg #[(.int .i64 A.l.lv), (.int .i64 A.l.st), (.int .i64 A.id), (.int .i64 A.need), (.int .i64 A.long), (.int .i64 A.prio), (.int .i64 A.state), (.int .i64 A.start), .slice na A.nodes.length nc])
  case h =>
    intro w' hw' hF'
    obtain ⟨X', rfl⟩ := hw'
    (have hB := HA5.out.ext ((Ext.refl W5).plus X')); (have c0 : (W5.plus X').cell? ⟨bA, 0, none⟩ = some (.int .i64 A.l.lv) := hB.cell 0; have c1 : (W5.plus X').cell? ⟨bA, 1, none⟩ = some (.int .i64 A.l.st) := hB.cell 1; have c2 : (W5.plus X').cell? ⟨bA, 2, none⟩ = some (.int .i64 A.id) := hB.cell 2; have c3 : (W5.plus X').cell? ⟨bA, 3, none⟩ = some (.int .i64 A.need) := hB.cell 3; have c4 : (W5.plus X').cell? ⟨bA, 4, none⟩ = some (.int .i64 A.long) := hB.cell 4; have c5 : (W5.plus X').cell? ⟨bA, 5, none⟩ = some (.int .i64 A.prio) := hB.cell 5; have c6 : (W5.plus X').cell? ⟨bA, 6, none⟩ = some (.int .i64 A.state) := hB.cell 6; have c7 : (W5.plus X').cell? ⟨bA, 7, none⟩ = some (.int .i64 A.start) := hB.cell 7; have c8 : (W5.plus X').cell? ⟨bA, 8, none⟩ = some (.slice na A.nodes.length nc) := hB.cell 8; have co := hB.old; clear hB)
    have HF' := Lib.hid hF'
    clear hF'
    go_wp2_with (fail)
    exact ⟨rfl, xt⟩
  case hv => kernel_rfl
  apply YReg.val (.bool (jobR A))
  case h =>
    intro w' hw' hF'
    obtain ⟨X', rfl⟩ := hw'
    have HF' := Lib.hid hF'
    clear hF'
    go_wp2_with (go_at_call 14; refine (specJobRight_any A _ _ HDa.out.ok (HNa.out.ext rInt_stable xt)).mono ?_; rintro e _ ⟨rfl, X9, rfl⟩)
    exact ⟨rfl, xt⟩
  case hv => kernel_rfl
  apply YReg.val (.bool false)
  case h =>
    intro w' hw' hF'
    obtain ⟨X', rfl⟩ := hw'
    have HF' := Lib.hid hF'
    clear hF'
    go_wp2_with (fail)
    exact ⟨rfl, xt⟩
  case hv => kernel_rfl
  apply YReg.val (.bool false)
  case h =>
    intro w' hw' hF'
    obtain ⟨X', rfl⟩ := hw'
    have HF' := Lib.hid hF'
    clear hF'
    go_wp2_with (fail)
    exact ⟨rfl, xt⟩
  case hv => kernel_rfl
  apply YReg.val (.bool false)
  case h =>
    intro w' hw' hF'
    obtain ⟨X', rfl⟩ := hw'
    have HF' := Lib.hid hF'
    clear hF'
    go_wp2_with (fail)
    exact ⟨rfl, xt⟩
  case hv => kernel_rfl
  apply YReg.val (.slice ra R.length rc9)
  case h =>
    intro w' hw' hF'
    obtain ⟨X', rfl⟩ := hw'
    have HF' := Lib.hid hF'
    clear hF'
    go_wp2_with (fail)
    exact ⟨rfl, xt⟩
  case hv => kernel_rfl
  apply YReg.val (.bool (jobsR R))
  case h =>
    intro w' hw' hF'
    obtain ⟨X', rfl⟩ := hw'
    have HF' := Lib.hid hF'
    clear hF'
    go_wp2_with (go_at_call 15; refine (implJobsRight_any _ R _ (HJR.out.ext rJob_stable xt)).mono ?_; rintro e _ ⟨rfl, X9, rfl⟩)
    exact ⟨rfl, xt⟩
  case hv => kernel_rfl
  apply YReg.val (.slice ra R.length rc9)
  case h =>
    intro w' hw' hF'
    obtain ⟨X', rfl⟩ := hw'
    have HF' := Lib.hid hF'
    clear hF'
    go_wp2_with (fail)
    exact ⟨rfl, xt⟩
  case hv => kernel_rfl
  apply YReg.val (.bool (jobsR R))
  case h =>
    intro w' hw' hF'
    obtain ⟨X', rfl⟩ := hw'
    have HF' := Lib.hid hF'
    clear hF'
    go_wp2_with (go_at_call 16; refine (specJobsRight_any _ R _ (HJR.out.ext rJob_stable xt)).mono ?_; rintro e _ ⟨rfl, X9, rfl⟩)
    exact ⟨rfl, xt⟩
  case hv => kernel_rfl
  apply YReg.val (.bool false)
  case h =>
    intro w' hw' hF'
    obtain ⟨X', rfl⟩ := hw'
    have HF' := Lib.hid hF'
    clear hF'
    go_wp2_with (fail)
    exact ⟨rfl, xt⟩
  case hv => kernel_rfl
  apply YReg.val (.bool false)
  case h =>
    intro w' hw' hF'
    obtain ⟨X', rfl⟩ := hw'
    have HF' := Lib.hid hF'
    clear hF'
    go_wp2_with (fail)
    exact ⟨rfl, xt⟩
  case hv => kernel_rfl

  refine YReg.doneN (fun X hF => ?_)
  clear hF
  generalize hW : W5.plus X = W6
  have hex : Ext W5 W6 := by rw [← hW]; exact xt
  have HX7 := Lib.hid (HX6.out.trans hex)
  have HA6 := Lib.hid (HA5.out.ext hex)
  have HB6 := Lib.hid (HB5.out.ext hex)
  have HNa6 := Lib.hid (HNa.out.ext rInt_stable hex)
  have HNb6 := Lib.hid (HNb.out.ext rInt_stable hex)
  clear hW hex HX6 HA5 HB5 HL5 HNa HNb HJL HJR HKG HJF
  have a0 : W6.cell? ⟨bA, 0, none⟩ = some (.int .i64 A.l.lv) := HA6.out.cell 0
  have a1 : W6.cell? ⟨bA, 1, none⟩ = some (.int .i64 A.l.st) := HA6.out.cell 1
  have a2 : W6.cell? ⟨bA, 2, none⟩ = some (.int .i64 A.id) := HA6.out.cell 2
  have a3 : W6.cell? ⟨bA, 3, none⟩ = some (.int .i64 A.need) := HA6.out.cell 3
  have a4 : W6.cell? ⟨bA, 4, none⟩ = some (.int .i64 A.long) := HA6.out.cell 4
  have a5 : W6.cell? ⟨bA, 5, none⟩ = some (.int .i64 A.prio) := HA6.out.cell 5
  have a6 : W6.cell? ⟨bA, 6, none⟩ = some (.int .i64 A.state) := HA6.out.cell 6
  have a7 : W6.cell? ⟨bA, 7, none⟩ = some (.int .i64 A.start) := HA6.out.cell 7
  have a8 : W6.cell? ⟨bA, 8, none⟩ = some (.slice na A.nodes.length nc) := HA6.out.cell 8
  have ao := HA6.out.old
  have b0 : W6.cell? ⟨bB, 0, none⟩ = some (.int .i64 B.l.lv) := HB6.out.cell 0
  have b1 : W6.cell? ⟨bB, 1, none⟩ = some (.int .i64 B.l.st) := HB6.out.cell 1
  have b2 : W6.cell? ⟨bB, 2, none⟩ = some (.int .i64 B.id) := HB6.out.cell 2
  have b3 : W6.cell? ⟨bB, 3, none⟩ = some (.int .i64 B.need) := HB6.out.cell 3
  have b4 : W6.cell? ⟨bB, 4, none⟩ = some (.int .i64 B.long) := HB6.out.cell 4
  have b5 : W6.cell? ⟨bB, 5, none⟩ = some (.int .i64 B.prio) := HB6.out.cell 5
  have b6 : W6.cell? ⟨bB, 6, none⟩ = some (.int .i64 B.state) := HB6.out.cell 6
  have b7 : W6.cell? ⟨bB, 7, none⟩ = some (.int .i64 B.start) := HB6.out.cell 7
  have b8 : W6.cell? ⟨bB, 8, none⟩ = some (.slice ma B.nodes.length mc) := HB6.out.cell 8
  have bo := HB6.out.old
  by_cases hab : jobR A = true ∧ jobR B = true
  case neg =>
    have hq : q = false := by
      rw [← HQ.out]
      cases h1 : jobR A <;> cases h2 : jobR B <;> simp_all
    subst hq
    cases h1 : jobR A
    · go_wp2_with (first | (go_at_call 14; refine (specJobRight_any A _ _ HDa.out.ok (HNa6.out.ext rInt_stable xt)).mono ?_; rintro e _ ⟨rfl, X9, rfl⟩; rw [h1]) | (go_at_call 8; refine (implAhead_any A B _ _ _ HDa.out.ok HDb.out.ok (HNa6.out.ext rInt_stable xt) (HNb6.out.ext rInt_stable xt)).mono ?_; rintro e _ ⟨rfl, X9, rfl⟩; rw [HQ.out]))
      go_ret
      exact ⟨rfl, HX7.out.trans xt⟩
    · have h2 : jobR B = false := by cases h2 : jobR B; rfl; exact absurd ⟨h1, h2⟩ hab
      -- region 8: both are asked
      go_wp2_with fail
      refine (specJobRight_any A _ _ HDa.out.ok (HNa6.out.ext rInt_stable xt)).mono ?_
      rintro e _ ⟨rfl, X1, rfl⟩
      rw [h1]
      go_wp2_with fail
      refine (specJobRight_any B _ _ HDb.out.ok (HNb6.out.ext rInt_stable xt)).mono ?_
      rintro e _ ⟨rfl, X2, rfl⟩
      rw [h2]
      go_wp2_with fail
      refine (implAhead_any A B _ _ _ HDa.out.ok HDb.out.ok (HNa6.out.ext rInt_stable xt) (HNb6.out.ext rInt_stable xt)).mono ?_
      rintro e _ ⟨rfl, X3, rfl⟩
      rw [HQ.out]
      go_wp2
      go_ret
      exact ⟨rfl, HX7.out.trans xt⟩
  obtain ⟨h1, h2⟩ := hab
  have hla := jobR_lab h1
  have hlb9 := jobR_lab h2
  have HLA := Lib.hid (And.intro hla hlb9)
  have HQA : Hid (aheadJ A B = q) := Lib.hid (by rw [← HQ.out, h1, h2]; rfl)
  clear hla hlb9
  cases hs : sameL ⟨A.l.lv, A.l.st⟩ ⟨B.l.lv, B.l.st⟩
  · have HQ2 : Hid ((jobR B && jobR A && aheadJ B A) = !q) := Lib.hid (by
      have ht := ahead_tot (a := A) (b := B) (by rw [show sameL A.l B.l = false from hs]; rfl)
      rw [h1, h2, ← HQA.out, ht]; simp)
    -- region 8: both are asked
    go_wp2_with fail
    refine (specJobRight_any A _ _ HDa.out.ok (HNa6.out.ext rInt_stable xt)).mono ?_
    rintro e _ ⟨rfl, X1, rfl⟩
    rw [h1]
    go_wp2_with fail
    refine (specJobRight_any B _ _ HDb.out.ok (HNb6.out.ext rInt_stable xt)).mono ?_
    rintro e _ ⟨rfl, X2, rfl⟩
    rw [h2]
    go_wp2_with fail
    refine (specBelow_any A.l.lv A.l.st B.l.lv B.l.st _).mono ?_
    rintro e _ ⟨rfl, X3, rfl⟩
    cases hbl : belowL ⟨A.l.lv, A.l.st⟩ ⟨B.l.lv, B.l.st⟩
    · go_upto_region 12 with fail
      refine wp_region_x 22 (by kernel_rfl) (by kernel_rfl) (by kernel_rfl) ?_
      iterate 15 (apply XReg.step; (case h => (intro w' hw'; obtain ⟨X', rfl⟩ := hw'; go_wp2_with (fail); exact ⟨rfl, xt⟩)); (case hv => kernel_rfl))
      (apply XReg.step; (case h => (intro w' hw'; obtain ⟨X', rfl⟩ := hw'; go_wp2_with ((go_at_call 8; refine (implAhead_any A B _ _ _ HDa.out.ok HDb.out.ok (HNa6.out.ext rInt_stable xt) (HNb6.out.ext rInt_stable xt)).mono ?_; rintro e _ ⟨rfl, X9, rfl⟩; rw [HQ.out])); exact ⟨rfl, xt⟩)); (case hv => kernel_rfl))
      (apply XReg.step; (case h => (intro w' hw'; obtain ⟨X', rfl⟩ := hw'; go_wp2_with (fail); exact ⟨rfl, xt⟩)); (case hv => kernel_rfl))
      (apply XReg.step; (case h => (intro w' hw'; obtain ⟨X', rfl⟩ := hw'; go_wp2_with (fail); exact ⟨rfl, xt⟩)); (case hv => kernel_rfl))
      (apply XReg.step; (case h => (intro w' hw'; obtain ⟨X', rfl⟩ := hw'; go_wp2_with ((go_at_call 8; refine (implAhead_any B A _ _ _ HDb.out.ok HDa.out.ok (HNb6.out.ext rInt_stable xt) (HNa6.out.ext rInt_stable xt)).mono ?_; rintro e _ ⟨rfl, X9, rfl⟩; rw [HQ2.out])); exact ⟨rfl, xt⟩)); (case hv => kernel_rfl))
      (apply XReg.step; (case h => (intro w' hw'; obtain ⟨X', rfl⟩ := hw'; go_wp2_with (fail); exact ⟨rfl, xt⟩)); (case hv => kernel_rfl))
      (apply XReg.step; (case h => (intro w' hw'; obtain ⟨X', rfl⟩ := hw'; go_wp2_with (fail); exact ⟨rfl, xt⟩)); (case hv => kernel_rfl))
      (apply XReg.step; (case h => (intro w' hw'; obtain ⟨X', rfl⟩ := hw'; go_wp2_with (fail); exact ⟨rfl, xt⟩)); (case hv => kernel_rfl))
      refine XReg.doneN (fun X => ?_)
      go_wp2
      go_ret
      exact ⟨by first | rfl | (cases q <;> rfl), HX7.out.trans xt⟩
    · have hqt : q = true := by
        rw [← HQA.out]
        unfold belowL at hbl
        simp only [Bool.and_eq_true] at hbl
        exact blw_ahead HLA.out.1 HLA.out.2 hs hbl.2
      subst hqt
      go_wp2_with fail
      refine (implAhead_any A B _ _ _ HDa.out.ok HDb.out.ok (HNa6.out.ext rInt_stable xt) (HNb6.out.ext rInt_stable xt)).mono ?_
      rintro e _ ⟨rfl, X4, rfl⟩
      rw [HQ.out]
      go_upto_region 12 with fail
      refine wp_region_x 22 (by kernel_rfl) (by kernel_rfl) (by kernel_rfl) ?_
      iterate 15 (apply XReg.step; (case h => (intro w' hw'; obtain ⟨X', rfl⟩ := hw'; go_wp2_with (fail); exact ⟨rfl, xt⟩)); (case hv => kernel_rfl))
      (apply XReg.step; (case h => (intro w' hw'; obtain ⟨X', rfl⟩ := hw'; go_wp2_with ((go_at_call 8; refine (implAhead_any A B _ _ _ HDa.out.ok HDb.out.ok (HNa6.out.ext rInt_stable xt) (HNb6.out.ext rInt_stable xt)).mono ?_; rintro e _ ⟨rfl, X9, rfl⟩; rw [HQ.out])); exact ⟨rfl, xt⟩)); (case hv => kernel_rfl))
      (apply XReg.step; (case h => (intro w' hw'; obtain ⟨X', rfl⟩ := hw'; go_wp2_with (fail); exact ⟨rfl, xt⟩)); (case hv => kernel_rfl))
      (apply XReg.step; (case h => (intro w' hw'; obtain ⟨X', rfl⟩ := hw'; go_wp2_with (fail); exact ⟨rfl, xt⟩)); (case hv => kernel_rfl))
      (apply XReg.step; (case h => (intro w' hw'; obtain ⟨X', rfl⟩ := hw'; go_wp2_with ((go_at_call 8; refine (implAhead_any B A _ _ _ HDb.out.ok HDa.out.ok (HNb6.out.ext rInt_stable xt) (HNa6.out.ext rInt_stable xt)).mono ?_; rintro e _ ⟨rfl, X9, rfl⟩; rw [HQ2.out])); exact ⟨rfl, xt⟩)); (case hv => kernel_rfl))
      (apply XReg.step; (case h => (intro w' hw'; obtain ⟨X', rfl⟩ := hw'; go_wp2_with (fail); exact ⟨rfl, xt⟩)); (case hv => kernel_rfl))
      (apply XReg.step; (case h => (intro w' hw'; obtain ⟨X', rfl⟩ := hw'; go_wp2_with (fail); exact ⟨rfl, xt⟩)); (case hv => kernel_rfl))
      (apply XReg.step; (case h => (intro w' hw'; obtain ⟨X', rfl⟩ := hw'; go_wp2_with (fail); exact ⟨rfl, xt⟩)); (case hv => kernel_rfl))
      refine XReg.doneN (fun X => ?_)
      go_wp2
      go_ret
      exact ⟨by first | rfl | (cases q <;> rfl), HX7.out.trans xt⟩
  · cases hi : (A.id == B.id)
    · have HQ2 : Hid ((jobR B && jobR A && aheadJ B A) = !q) := Lib.hid (by
        have ht := ahead_tot (a := A) (b := B) (by rw [decide_eq_false (by simpa using hi), Bool.and_false])
        rw [h1, h2, ← HQA.out, ht]; simp)
      -- region 8: both are asked
      go_wp2_with fail
      refine (specJobRight_any A _ _ HDa.out.ok (HNa6.out.ext rInt_stable xt)).mono ?_
      rintro e _ ⟨rfl, X1, rfl⟩
      rw [h1]
      go_wp2_with fail
      refine (specJobRight_any B _ _ HDb.out.ok (HNb6.out.ext rInt_stable xt)).mono ?_
      rintro e _ ⟨rfl, X2, rfl⟩
      rw [h2]
      go_upto_region 12 with fail
      refine wp_region_x 22 (by kernel_rfl) (by kernel_rfl) (by kernel_rfl) ?_
      iterate 15 (apply XReg.step; (case h => (intro w' hw'; obtain ⟨X', rfl⟩ := hw'; go_wp2_with (fail); exact ⟨rfl, xt⟩)); (case hv => kernel_rfl))
      (apply XReg.step; (case h => (intro w' hw'; obtain ⟨X', rfl⟩ := hw'; go_wp2_with ((go_at_call 8; refine (implAhead_any A B _ _ _ HDa.out.ok HDb.out.ok (HNa6.out.ext rInt_stable xt) (HNb6.out.ext rInt_stable xt)).mono ?_; rintro e _ ⟨rfl, X9, rfl⟩; rw [HQ.out])); exact ⟨rfl, xt⟩)); (case hv => kernel_rfl))
      (apply XReg.step; (case h => (intro w' hw'; obtain ⟨X', rfl⟩ := hw'; go_wp2_with (fail); exact ⟨rfl, xt⟩)); (case hv => kernel_rfl))
      (apply XReg.step; (case h => (intro w' hw'; obtain ⟨X', rfl⟩ := hw'; go_wp2_with (fail); exact ⟨rfl, xt⟩)); (case hv => kernel_rfl))
      (apply XReg.step; (case h => (intro w' hw'; obtain ⟨X', rfl⟩ := hw'; go_wp2_with ((go_at_call 8; refine (implAhead_any B A _ _ _ HDb.out.ok HDa.out.ok (HNb6.out.ext rInt_stable xt) (HNa6.out.ext rInt_stable xt)).mono ?_; rintro e _ ⟨rfl, X9, rfl⟩; rw [HQ2.out])); exact ⟨rfl, xt⟩)); (case hv => kernel_rfl))
      (apply XReg.step; (case h => (intro w' hw'; obtain ⟨X', rfl⟩ := hw'; go_wp2_with (fail); exact ⟨rfl, xt⟩)); (case hv => kernel_rfl))
      (apply XReg.step; (case h => (intro w' hw'; obtain ⟨X', rfl⟩ := hw'; go_wp2_with (fail); exact ⟨rfl, xt⟩)); (case hv => kernel_rfl))
      (apply XReg.step; (case h => (intro w' hw'; obtain ⟨X', rfl⟩ := hw'; go_wp2_with (fail); exact ⟨rfl, xt⟩)); (case hv => kernel_rfl))
      refine XReg.doneN (fun X => ?_)
      go_wp2
      go_ret
      exact ⟨by first | rfl | (cases q <;> rfl), HX7.out.trans xt⟩
    · skip
      -- region 8: both are asked
      go_wp2_with fail
      refine (specJobRight_any A _ _ HDa.out.ok (HNa6.out.ext rInt_stable xt)).mono ?_
      rintro e _ ⟨rfl, X1, rfl⟩
      rw [h1]
      go_wp2_with fail
      refine (specJobRight_any B _ _ HDb.out.ok (HNb6.out.ext rInt_stable xt)).mono ?_
      rintro e _ ⟨rfl, X2, rfl⟩
      rw [h2]
      go_upto_region 12 with fail
      (refine wp_region_x 22 (by kernel_rfl) (by kernel_rfl) (by kernel_rfl) ?_; (iterate 22 (apply XReg.step; (case h => (intro w' hw'; obtain ⟨X', rfl⟩ := hw'; go_wp2_with (fail); exact ⟨rfl, xt⟩)); (case hv => kernel_rfl))); refine XReg.doneN (fun X => ?_))
      go_wp2
      go_ret
      exact ⟨rfl, HX7.out.trans xt⟩
end Go.Proofs.Ytkhmdhdaldbbhaa
