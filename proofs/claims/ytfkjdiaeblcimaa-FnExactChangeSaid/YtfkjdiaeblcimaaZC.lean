/- The walks of Submit. -/
import Derived.Test.YtfkjdiaeblcimaaZA
import Derived.Test.YtfkjdiaeblcimaaZ4
import Derived.Test.YtfkjdiaeblcimaaJ5
set_option maxRecDepth 100000
set_option linter.unusedVariables false
namespace Go.Proofs.Ytfkjdiaeblcimaa
open Go.RowKit Go.Fin1

/-- How many of the first k clearances have the label. -/
@[irreducible] def clN (c : List (List Lab)) (x : Lab) (k : Nat) : Nat := ((c.take k).filter (fun l => hasL l x)).length
theorem clN_zero (c : List (List Lab)) (x : Lab) : clN c x 0 = 0 := by unfold clN; simp
theorem clN_step {c : List (List Lab)} {x : Lab} {k : Nat} (hk : k < c.length) : clN c x (k + 1) = clN c x k + if hasL c[k] x then 1 else 0 := by
  unfold clN
  rw [List.take_succ_eq_append_getElem hk, List.filter_append, List.length_append]
  congr 1
  cases h : hasL c[k] x <;> simp [h]
theorem clN_le (c : List (List Lab)) (x : Lab) (k : Nat) : clN c x k ≤ k := by
  unfold clN
  refine Nat.le_trans (List.length_filter_le _ _) ?_
  rw [List.length_take]; omega
def subJ (x : Lab) (id need long prio : Int) : Jb := ⟨x, id, need, long, prio, 1, 0, []⟩
def subP (p : Pl) (x : Lab) (need long prio : Int) : Pl := ⟨p.clear, p.jobs ++ [subJ x (cntL p.jobs x + 1) need long prio], p.now⟩
@[irreducible] def subR (p : Pl) (x : Lab) (need long prio : Int) : Pl × Int × Int :=
  if poolR p = false ∨ jobR (subJ x 1 need long prio) = false then (zPl, 0, 1)
  else if (clN p.clear x p.clear.length : Int) < need then (zPl, 0, 11)
  else if (3 : Int) < (cntL p.jobs x : Int) + 1 then (zPl, 0, 9)
  else (subP p x need long prio, (cntL p.jobs x : Int) + 1, 0)
theorem subR_form {p : Pl} {x : Lab} {need long prio : Int} (h : poolR p = false ∨ jobR (subJ x 1 need long prio) = false) : subR p x need long prio = (zPl, 0, 1) := by unfold subR; rw [if_pos h]
theorem subR_lab {p : Pl} {x : Lab} {need long prio : Int} (h1 : poolR p = true) (h2 : jobR (subJ x 1 need long prio) = true) (h : (clN p.clear x p.clear.length : Int) < need) : subR p x need long prio = (zPl, 0, 11) := by
  unfold subR; rw [if_neg (by simp [h1, h2]), if_pos h]
theorem subR_full {p : Pl} {x : Lab} {need long prio : Int} (h1 : poolR p = true) (h2 : jobR (subJ x 1 need long prio) = true) (h : ¬ (clN p.clear x p.clear.length : Int) < need) (h3 : (3 : Int) < (cntL p.jobs x : Int) + 1) : subR p x need long prio = (zPl, 0, 9) := by
  unfold subR; rw [if_neg (by simp [h1, h2]), if_neg h, if_pos h3]
theorem subR_yes {p : Pl} {x : Lab} {need long prio : Int} (h1 : poolR p = true) (h2 : jobR (subJ x 1 need long prio) = true) (h : ¬ (clN p.clear x p.clear.length : Int) < need) (h3 : ¬ (3 : Int) < (cntL p.jobs x : Int) + 1) : subR p x need long prio = (subP p x need long prio, (cntL p.jobs x : Int) + 1, 0) := by
  unfold subR; rw [if_neg (by simp [h1, h2]), if_neg h, if_neg h3]
theorem subJ_ok {x : Lab} {need long prio : Int} (hx : x.ok) (h1 : I64 need) (h2 : I64 long) (h3 : I64 prio) {id : Int} (h0 : I64 id) : (subJ x id need long prio).ok := by
  have z : I64 0 := by unfold I64; omega
  have z1 : I64 1 := by unfold I64; omega
  first | exact ⟨hx, h0, h1, h2, h3, z1, z⟩ | (unfold Jb.ok subJ; simp_all)
theorem nilIntsS (w : World) : SlR w 1 rInt (.slice none 0 0) ([] : List Int) := ⟨none, 0, rfl, Nat.le_refl _, Nat.zero_le _, fun i hi => by cases hi⟩

/-- The boxes of a pool that a call hands back, under way. -/
structure OutW (w W : World) (gr gb : Nat) (cv jv : Value) (now : Int) : Prop where
  ext : Ext w W
  gr0 : w.heap.size ≤ gr
  gb0 : w.heap.size ≤ gb
  ne : gr ≠ gb
  r : CellsAt W gr [.slice none 0 0, .slice none 0 0, (.int .i64 0), (.int .i64 0), (.int .i64 0)]
  o : CellsAt W gb [cv, jv, (.int .i64 now)]
  fr : ∀ q, W.frozen? ⟨gr, q, none⟩ = false
  fo : ∀ q, W.frozen? ⟨gb, q, none⟩ = false
theorem OutW.chg {w W W' : World} {gr gb : Nat} {cv jv : Value} {now : Int} {S : List Nat} (h : OutW w W gr gb cv jv now) (hx : Chg S W W') (h0 : ∀ b ∈ S, w.heap.size ≤ b) (hr : gr ∉ S) (hb : gb ∉ S) : OutW w W' gr gb cv jv now := by
  have lr := World.block_lt_of_cell? _ _ (h.r 0 _ rfl)
  have lb := World.block_lt_of_cell? _ _ (h.o 0 _ rfl)
  refine ⟨hx.ext h.ext h0, h.gr0, h.gb0, h.ne, h.r.chg hx hr, h.o.chg hx hb, fun q => ?_, fun q => ?_⟩
  · have := h.fr q
    simp only [World.frozen?, hx.block gr lr hr] at this ⊢; exact this
  · have := h.fo q
    simp only [World.frozen?, hx.block gb lb hb] at this ⊢; exact this
set_option maxHeartbeats 3200000 in
theorem implSubmit_any (p : Pl) (v : Value) (x : Lab) (need long prio : Int) (w : World) (h : ePool w v p) (hf : p.fits 1048576) (hx : x.ok) (hn : I64 need) (hlo : I64 long) (hpr : I64 prio) :
    Calls Try.prog 35 #[v, .agg #[(.int .i64 x.lv), (.int .i64 x.st)], (.int .i64 need), (.int .i64 long), (.int .i64 prio)] w fun e w' => ∃ cv jv fc fj, e = .returned (poV (subR p x need long prio).1 (subR p x need long prio).2.1 (subR p x need long prio).2.2 cv jv) ∧ Ext w w' ∧ OwnP w.heap.size w' fc fj cv jv (subR p x need long prio).1 := by
  have HP := Lib.hid h
  obtain ⟨a, c, b, d, rfl, h0, h1, h2⟩ := h
  have HC := Lib.hid h1
  have HJ := Lib.hid h2
  have hlc : p.clear.length ≤ 1048576 := Nat.le_trans (szL_len List.length _) hf.1
  have hlj : p.jobs.length ≤ 1048576 := Nat.le_trans (szL_len Jb.sz _) (Nat.le_trans hf.2 (Nat.sub_le _ _))
  have HF := Lib.hid hf
  have HOK := Lib.hid (subJ_ok hx hn hlo hpr (id := 1) (by unfold I64; omega))
  have HI := Lib.hid (And.intro hn (And.intro hlo hpr))
  clear h0 h1 h2 hf hx hn hlo hpr
  unfold Pl.val at HP ⊢
  cases q1 : poolR p
  · rw [subR_form (.inl q1)]
    go_enter Try.func35, Try.ntmps35
    go_wp2_with fail
    refine (implPoolRight_any p _ _ (HP.out.ext (by repeat (first | exact Ext.refl _ | apply Ext.plus | apply Ext.alloc | apply Ext.drew)))).mono ?_
    rintro e _ ⟨rfl, X, rfl⟩
    rw [q1]
    go_wp2
    exact bodyPost_ret (v := .agg #[.slice none 0 0, .slice none 0 0, (.int .i64 0), (.int .i64 0), (.int .i64 1)]) (by simp [results, Try.results35, go_sem]) rfl ⟨_, _, [], [], rfl, (by repeat' (first | (with_reducible exact Ext.refl _) | (with_reducible refine Ext.plus ?_ _) | (with_reducible refine Ext.alloc ?_ _) | (with_reducible refine Ext.setCell ?_ ?_ _) | (with_reducible refine Ext.drew ?_) | (with_reducible exact Nat.le_refl _) | (dsimp only; omega))), OwnP.zero _ _ _⟩
  cases q2 : jobR (subJ x 1 need long prio)
  · rw [subR_form (.inr q2)]
    go_enter Try.func35, Try.ntmps35
    go_wp2_with fail
    refine (implPoolRight_any p _ _ (HP.out.ext (by repeat (first | exact Ext.refl _ | apply Ext.plus | apply Ext.alloc | apply Ext.drew)))).mono ?_
    rintro e _ ⟨rfl, X, rfl⟩
    rw [q1]
    go_wp2_with fail
    refine (implJobRight_any (subJ x 1 need long prio) (.slice none 0 0) _ HOK.out (nilIntsS _)).mono ?_
    rintro e _ ⟨rfl, X2, rfl⟩
    rw [q2]
    go_wp2
    exact bodyPost_ret (v := .agg #[.slice none 0 0, .slice none 0 0, (.int .i64 0), (.int .i64 0), (.int .i64 1)]) (by simp [results, Try.results35, go_sem]) rfl ⟨_, _, [], [], rfl, (by repeat' (first | (with_reducible exact Ext.refl _) | (with_reducible refine Ext.plus ?_ _) | (with_reducible refine Ext.alloc ?_ _) | (with_reducible refine Ext.setCell ?_ ?_ _) | (with_reducible refine Ext.drew ?_) | (with_reducible exact Nat.le_refl _) | (dsimp only; omega))), OwnP.zero _ _ _⟩
  have HQ1 := Lib.hid q1
  have HQ2 := Lib.hid q2
  clear q1 q2
  go_enter Try.func35, Try.ntmps35
  go_wp2_with fail
  refine (implPoolRight_any p _ _ (HP.out.ext (by repeat (first | exact Ext.refl _ | apply Ext.plus | apply Ext.alloc | apply Ext.drew)))).mono ?_
  rintro e _ ⟨rfl, X, rfl⟩
  rw [HQ1.out]
  go_wp2_with fail
  refine (implJobRight_any (subJ x 1 need long prio) (.slice none 0 0) _ HOK.out (nilIntsS _)).mono ?_
  rintro e _ ⟨rfl, X2, rfl⟩
  rw [HQ2.out]
  go_wp2
  go_loopw [12, 33, 14] (fun o i _ wr => ∃ k n : Nat, k ≤ p.clear.length ∧ i = .int .i64 k ∧ o = (.int .i64 (n : Int)) ∧ Hid (n = clN p.clear x k) ∧ n ≤ k ∧ Ext ((((w.alloc (.cells #[.slice a p.clear.length c, .slice b p.jobs.length d, (.int .i64 p.now)] 47)).alloc (.cells #[(.int .i64 x.lv), (.int .i64 x.st)] 35)).alloc (.cells #[.slice none 0 0, .slice none 0 0, (.int .i64 0), (.int .i64 0), (.int .i64 0)] 49)).alloc (.cells #[(.int .i64 x.lv), (.int .i64 x.st), (.int .i64 1), (.int .i64 need), (.int .i64 long), (.int .i64 prio), (.int .i64 1), (.int .i64 0), .slice none 0 0] 100)) wr) (fun _ i _ _ => p.clear.length - (intOf i).toNat)
  case atStart => exact ⟨0, 0, Nat.zero_le _, rfl, rfl, Lib.hid (clN_zero _ _).symm, Nat.le_refl _, (by repeat (first | exact Ext.refl _ | apply Ext.plus | apply Ext.alloc | apply Ext.drew))⟩
  case round =>
    obtain ⟨k, n, hk, rfl, rfl, HN, hnk, ⟨X3, rfl⟩⟩ := hrel
    by_cases hlt : k < p.clear.length
    · obtain ⟨b1, off, rfl⟩ := slr_some HC.out hlt
      obtain ⟨ho, vx, hsx, h0⟩ := sl_at HC.out hlt
      obtain ⟨ax, cx, rfl⟩ := hsx.len
      have HX := Lib.hid hsx
      have HST := Lib.hid (clN_step (x := x) hlt)
      clear hsx
      go_wp2_with fail
      refine (containsLab_any _ p.clear[k] x _ (HX.out.ext rLab_stable (by repeat (first | exact Ext.refl _ | apply Ext.plus | apply Ext.alloc | apply Ext.drew)))).mono ?_
      rintro e _ ⟨rfl, Y, rfl⟩
      cases hq : hasL p.clear[k] x
      · go_wp2
        exact ⟨⟨k + 1, n, by omega, by go_num, rfl, Lib.hid (by rw [HST.out, if_neg (by simp [hq]), HN.out]; simp), by omega, (by repeat (first | exact Ext.refl _ | apply Ext.plus | apply Ext.alloc | apply Ext.drew))⟩, by simp [intOf]; omega⟩
      · go_wp2
        exact ⟨⟨k + 1, n + 1, by omega, by go_num, by go_num, Lib.hid (by rw [HST.out, if_pos hq, HN.out]), by omega, (by repeat (first | exact Ext.refl _ | apply Ext.plus | apply Ext.alloc | apply Ext.drew))⟩, by simp [intOf]; omega⟩
    · obtain rfl : k = p.clear.length := by omega
      by_cases h3 : (n : Int) < need
      · have HL := Lib.hid (subR_lab HQ1.out HQ2.out (by rw [← HN.out]; exact h3))
        have hb3 : decide ((n : Int) < need) = true := decide_eq_true h3
        clear h3
        go_wp2
        refine bodyPost_ret (v := .agg #[.slice none 0 0, .slice none 0 0, (.int .i64 0), (.int .i64 0), (.int .i64 11)]) (by simp [results, Try.results35, go_sem]) rfl ?_
        rw [HL.out]
        exact ⟨_, _, [], [], rfl, (by repeat' (first | (with_reducible exact Ext.refl _) | (with_reducible refine Ext.plus ?_ _) | (with_reducible refine Ext.alloc ?_ _) | (with_reducible refine Ext.setCell ?_ ?_ _) | (with_reducible refine Ext.drew ?_) | (with_reducible exact Nat.le_refl _) | (dsimp only; omega))), OwnP.zero _ _ _⟩
      · have hb3 : decide ((n : Int) < need) = false := decide_eq_false h3
        have H3 := Lib.hid h3
        clear h3
        go_wp2_with fail
        refine (countOf_any _ p.jobs x _ (HJ.out.ext rJob_stable (by repeat (first | exact Ext.refl _ | apply Ext.plus | apply Ext.alloc | apply Ext.drew)))).mono ?_
        rintro e _ ⟨rfl, Y, rfl⟩
        obtain ⟨m, hm⟩ : ∃ m, m = cntL p.jobs x := ⟨_, rfl⟩
        have hml : m ≤ 1048576 := by rw [hm]; exact Nat.le_trans (cntL_le _ _) hlj
        rw [← hm]
        have HM := Lib.hid hm
        clear hm
        by_cases h4 : (3 : Int) < (m : Int) + 1
        · have HL := Lib.hid (subR_full HQ1.out HQ2.out (by rw [← HN.out]; exact (fun h => by have := H3.out; omega)) (by rw [← HM.out]; exact h4))
          have hb4 : decide ((3 : Int) < (m : Int) + 1) = true := decide_eq_true h4
          clear h4
          go_wp2
          refine bodyPost_ret (v := .agg #[.slice none 0 0, .slice none 0 0, (.int .i64 0), (.int .i64 0), (.int .i64 9)]) (by simp [results, Try.results35, go_sem]) rfl ?_
          rw [HL.out]
          exact ⟨_, _, [], [], rfl, (by repeat' (first | (with_reducible exact Ext.refl _) | (with_reducible refine Ext.plus ?_ _) | (with_reducible refine Ext.alloc ?_ _) | (with_reducible refine Ext.setCell ?_ ?_ _) | (with_reducible refine Ext.drew ?_) | (with_reducible exact Nat.le_refl _) | (dsimp only; omega))), OwnP.zero _ _ _⟩
        · have HL := Lib.hid (subR_yes HQ1.out HQ2.out (by rw [← HN.out]; exact (fun h => by have := H3.out; omega)) (by rw [← HM.out]; exact h4))
          have hb4 : decide ((3 : Int) < (m : Int) + 1) = false := decide_eq_false h4
          clear h4
          go_wp2_with fail
          refine (copyPool_any p _ _ (HP.out.ext (by repeat (first | exact Ext.refl _ | apply Ext.plus | apply Ext.alloc | apply Ext.drew))) HF.out).mono ?_
          rintro e _ ⟨cv, jv, fc, fj, rfl, ⟨Y2, rfl⟩, hO⟩
          obtain ⟨ac, cc, rfl⟩ := hO.1.shape
          obtain ⟨aj, cj, rfl⟩ := hO.2.1.shape
          unfold Pl.val
          go_upto_region 17 with fail
          refine gen_world (fun W1 hW => ?_)
          have r0 := CellsAt.fresh ((w.alloc (.cells #[.slice a p.clear.length c, .slice b p.jobs.length d, (.int .i64 p.now)] 47)).alloc (.cells #[(.int .i64 x.lv), (.int .i64 x.st)] 35)) [.slice none 0 0, .slice none 0 0, (.int .i64 0), (.int .i64 0), (.int .i64 0)] 49
          have j0 := CellsAt.fresh (((w.alloc (.cells #[.slice a p.clear.length c, .slice b p.jobs.length d, (.int .i64 p.now)] 47)).alloc (.cells #[(.int .i64 x.lv), (.int .i64 x.st)] 35)).alloc (.cells #[.slice none 0 0, .slice none 0 0, (.int .i64 0), (.int .i64 0), (.int .i64 0)] 49)) [(.int .i64 x.lv), (.int .i64 x.st), (.int .i64 ((m : Int) + 1)), (.int .i64 need), (.int .i64 long), (.int .i64 prio), (.int .i64 1), (.int .i64 0), .slice none 0 0] 100
          have o0 := CellsAt.fresh (((((((w.alloc (.cells #[.slice a p.clear.length c, .slice b p.jobs.length d, (.int .i64 p.now)] 47)).alloc (.cells #[(.int .i64 x.lv), (.int .i64 x.st)] 35)).alloc (.cells #[.slice none 0 0, .slice none 0 0, (.int .i64 0), (.int .i64 0), (.int .i64 0)] 49)).alloc (.cells #[(.int .i64 x.lv), (.int .i64 x.st), (.int .i64 ((m : Int) + 1)), (.int .i64 need), (.int .i64 long), (.int .i64 prio), (.int .i64 1), (.int .i64 0), .slice none 0 0] 100)).plus X3).plus Y).plus Y2) [.slice ac p.clear.length cc, .slice aj p.jobs.length cj, (.int .i64 p.now)] 47
          simp only [World.size_alloc, World.size_plus] at r0 j0 o0
          have hOW : OutW w W1 (w.heap.size + 1 + 1) (w.heap.size + 1 + 1 + 1 + 1 + X3.n + Y.n + Y2.n) (.slice ac p.clear.length cc) (.slice aj p.jobs.length cj) p.now := by
            rw [hW]
            exact ⟨(by repeat (first | exact Ext.refl _ | apply Ext.plus | apply Ext.alloc | apply Ext.drew)), by omega, by omega, by omega, r0.ext (by repeat (first | exact Ext.refl _ | apply Ext.plus | apply Ext.alloc | apply Ext.drew)), o0, fun q => by simp [go_sem], fun q => by simp [go_sem]⟩
          have hJB : CellsAt W1 (w.heap.size + 1 + 1 + 1) [(.int .i64 x.lv), (.int .i64 x.st), (.int .i64 ((m : Int) + 1)), (.int .i64 need), (.int .i64 long), (.int .i64 prio), (.int .i64 1), (.int .i64 0), .slice none 0 0] := by rw [hW]; exact j0.ext (by repeat (first | exact Ext.refl _ | apply Ext.plus | apply Ext.alloc | apply Ext.drew))
          have hOP : OwnP (w.heap.size + 1 + 1 + 1 + 1) W1 fc fj (.slice ac p.clear.length cc) (.slice aj p.jobs.length cj) p := by
            rw [hW]
            exact (hO.ext ((Ext.refl _).alloc _)).mono (by simp; omega)
          have hHI : ∀ q ∈ fc ++ fj, q < w.heap.size + 1 + 1 + 1 + 1 + X3.n + Y.n + Y2.n := fun q hq => by have := hO.high q hq; simpa using this
          have hgb : w.heap.size + 1 + 1 + 1 + 1 ≤ w.heap.size + 1 + 1 + 1 + 1 + X3.n + Y.n + Y2.n := by omega
          generalize w.heap.size + 1 + 1 + 1 + 1 + X3.n + Y.n + Y2.n = gb at hOW hHI hgb ⊢
          clear hW r0 j0 o0 hO
          have HOW := Lib.hid hOW
          have HJB := Lib.hid hJB
          have HOP := Lib.hid hOP
          have HHI := Lib.hid hHI
          have HGB := Lib.hid hgb
          have HBK : Hid (∀ q ∈ blkL (.slice aj p.jobs.length cj), q ∈ fj) := Lib.hid (fun q hq => hOP.2.1.blkL_in q hq)
          have i0 := hJB 0 _ rfl
          have i1 := hJB 1 _ rfl
          have i2 := hJB 2 _ rfl
          have i3 := hJB 3 _ rfl
          have i4 := hJB 4 _ rfl
          have i5 := hJB 5 _ rfl
          have i6 := hJB 6 _ rfl
          have i7 := hJB 7 _ rfl
          have i8 := hJB 8 _ rfl
          have k1 := hOW.o 1 _ rfl
          have gi := World.old_of_cell i0
          have gk := World.old_of_cell k1
          have HSZ : Hid (w.heap.size + 1 + 1 + 1 + 1 ≤ W1.heap.size) := Lib.hid (by have := World.block_lt_of_cell? _ _ k1; simp at this; omega)
          have HGW : Hid (gb < W1.heap.size) := Lib.hid (by have := World.block_lt_of_cell? _ _ k1; simpa using this)
          clear hOW hJB hOP hHI hgb
          go_wp2_with (at_builtin; go_must (refine Own.appN oJob_local oJob_held el_eJob rfl _ _ rfl (w.heap.size + 1 + 1 + 1 + 1) HSZ.out _ p.jobs fj rfl HOP.out.2.1 _ rfl rfl (subJ x ((m : Int) + 1) need long prio) [] ⟨⟨.slice none 0 0, rfl, (Own.nil 0 _ _ _ _).1⟩, List.nodup_nil, fun q hq => by cases hq⟩ rfl (fun q _ hq => by cases hq) ?_ ?_ ?_ ?_); (intro u hu; simp at hu; rcases hu with rfl | rfl | rfl | rfl | rfl | rfl | rfl | rfl | rfl <;> rfl); (unfold maxLen; omega); omega; intro v' W2 fp' hO2 hC2 hS2; have HO2 := Lib.hid hO2; have HS2 := Lib.hid hS2; have HOW2 := Lib.hid (HOW.out.chg hC2 (fun q hq => by have := HOP.out.low q (List.mem_append_right _ (HBK.out q hq)); omega) (fun hq => by have := HOP.out.low _ (List.mem_append_right _ (HBK.out _ hq)); omega) (fun hq => by have := HHI.out _ (List.mem_append_right _ (HBK.out _ hq)); omega)); have HJ2 := Lib.hid (HJB.out.chg hC2 (fun hq => by have := HOP.out.low _ (List.mem_append_right _ (HBK.out _ hq)); omega)); have HC2 := Lib.hid (HOP.out.1.far oLabelSS_local oLabelSS_held hC2 (fun q hq hq2 => HOP.out.2.2 q hq (HBK.out q hq2))); clear hO2 hC2 hS2 i0 i1 i2 i3 i4 i5 i6 i7 i8 k1 gi gk; obtain ⟨aj2, cj2, rfl⟩ := HO2.out.shape; have k0 := HOW2.out.o 0 _ rfl; have k1 := HOW2.out.o 1 _ rfl; have k2 := HOW2.out.o 2 _ rfl; have gk := World.old_of_cell k1; have r0 := HOW2.out.r 0 _ rfl; have r1 := HOW2.out.r 1 _ rfl; have r2 := HOW2.out.r 2 _ rfl; have r3 := HOW2.out.r 3 _ rfl; have r4 := HOW2.out.r 4 _ rfl; have gr := World.old_of_cell r0; have fr := HOW2.out.fr; have fo := HOW2.out.fo; have i2 := HJ2.out 2 _ rfl; have gi := World.old_of_cell i2; have hne1 : ¬ (gb = w.heap.size + 1 + 1) := (by have := HGB.out; omega); have hne2 : ¬ (gb = w.heap.size + 1 + 1 + 1) := (by have := HGB.out; omega); have hne3 : ¬ (w.heap.size + 1 + 1 = gb) := (by have := HGB.out; omega); have hne4 : ¬ (w.heap.size + 1 + 1 + 1 = gb) := (by have := HGB.out; omega))
          have hch : ∀ u0 u1 u2 u3 u4 u5, Chg [gb, w.heap.size + 1 + 1] W2 ((((((W2.setCell ⟨gb, 1, none⟩ u0).setCell ⟨w.heap.size + 1 + 1, 0, none⟩ u1).setCell ⟨w.heap.size + 1 + 1, 1, none⟩ u2).setCell ⟨w.heap.size + 1 + 1, 2, none⟩ u3).setCell ⟨w.heap.size + 1 + 1, 3, none⟩ u4).setCell ⟨w.heap.size + 1 + 1, 4, none⟩ u5) := fun u0 u1 u2 u3 u4 u5 => ((((((Chg.refl _ _).setCell (.inl (by simp)) _).setCell (.inl (by simp)) _).setCell (.inl (by simp)) _).setCell (.inl (by simp)) _).setCell (.inl (by simp)) _).setCell (.inl (by simp)) _
          have hv : (p.jobs ++ [subJ x ((m : Int) + 1) need long prio]).length = p.jobs.length + 1 := by simp
          have hO2 := HO2.out
          rw [hv] at hO2
          refine bodyPost_ret (v := .agg #[.slice ac p.clear.length cc, .slice aj2 (p.jobs.length + 1) cj2, (.int .i64 p.now), (.int .i64 ((m : Int) + 1)), (.int .i64 0)]) (by simp [results, Try.results35, go_sem, r0, r1, r2, r3, r4]) rfl ?_
          rw [HL.out]
          unfold subP
          rw [← HM.out]
          refine ⟨_, _, fc, fp', rfl, (hch _ _ _ _ _ _).ext HOW2.out.ext (by have := HGB.out; simp; omega), ?_, ?_, ?_⟩
          · exact (HC2.out.far oLabelSS_local oLabelSS_held (hch _ _ _ _ _ _) (fun q hq hq2 => by
              have h1 := HHI.out q (List.mem_append_left _ hq)
              have h2 := HOP.out.1.2.2 q hq
              simp at hq2; omega)).mono (by omega)
          · exact (hO2.far oJobS_local oJobS_held (hch _ _ _ _ _ _) (fun q hq hq2 => by
              have h2 := hO2.2.2 q hq
              have h4 := HGW.out
              have h5 := HGB.out
              rcases HS2.out q hq with h | h | h
              · have h3 := HHI.out q (List.mem_append_right _ h)
                simp at hq2; omega
              · cases h
              · simp at hq2; omega)).mono (by omega)
          · intro q hq hq2
            have h4 := HGW.out
            have h1 := HHI.out q (List.mem_append_left _ hq)
            rcases HS2.out q hq2 with h | h | h
            · exact HOP.out.2.2 q hq h
            · cases h
            · omega
set_option maxHeartbeats 3200000 in
theorem specSubmit_any (p : Pl) (v : Value) (x : Lab) (need long prio : Int) (w : World) (h : ePool w v p) (hf : p.fits 1048576) (hx : x.ok) (hn : I64 need) (hlo : I64 long) (hpr : I64 prio) :
    Calls Try.prog 33 #[v, .agg #[(.int .i64 x.lv), (.int .i64 x.st)], (.int .i64 need), (.int .i64 long), (.int .i64 prio)] w fun e w' => ∃ cv jv fc fj, e = .returned (poV (subR p x need long prio).1 (subR p x need long prio).2.1 (subR p x need long prio).2.2 cv jv) ∧ Ext w w' ∧ OwnP w.heap.size w' fc fj cv jv (subR p x need long prio).1 := by
  have HP := Lib.hid h
  obtain ⟨a, c, b, d, rfl, h0, h1, h2⟩ := h
  have HC := Lib.hid h1
  have HJ := Lib.hid h2
  have hlc : p.clear.length ≤ 1048576 := Nat.le_trans (szL_len List.length _) hf.1
  have hlj : p.jobs.length ≤ 1048576 := Nat.le_trans (szL_len Jb.sz _) (Nat.le_trans hf.2 (Nat.sub_le _ _))
  have HF := Lib.hid hf
  have HOK := Lib.hid (subJ_ok hx hn hlo hpr (id := 1) (by unfold I64; omega))
  have HI := Lib.hid (And.intro hn (And.intro hlo hpr))
  clear h0 h1 h2 hf hx hn hlo hpr
  unfold Pl.val at HP ⊢
  cases q1 : poolR p
  · rw [subR_form (.inl q1)]
    go_enter Try.func33, Try.ntmps33
    go_wp2_with fail
    refine (specPoolRight_any p _ _ (HP.out.ext (by repeat (first | exact Ext.refl _ | apply Ext.plus | apply Ext.alloc | apply Ext.drew)))).mono ?_
    rintro e _ ⟨rfl, X, rfl⟩
    rw [q1]
    go_wp2_with (go_at_call 115; refine (l05Ill_any _ _).mono ?_; rintro e _ ⟨rfl, X, rfl⟩)
    exact bodyPost_ret (v := .agg #[.slice none 0 0, .slice none 0 0, (.int .i64 0), (.int .i64 0), (.int .i64 1)]) (by simp [results, Try.results33, go_sem]) rfl ⟨_, _, [], [], rfl, (by repeat' (first | (with_reducible exact Ext.refl _) | (with_reducible refine Ext.plus ?_ _) | (with_reducible refine Ext.alloc ?_ _) | (with_reducible refine Ext.setCell ?_ ?_ _) | (with_reducible refine Ext.drew ?_) | (with_reducible exact Nat.le_refl _) | (dsimp only; omega))), OwnP.zero _ _ _⟩
  cases q2 : jobR (subJ x 1 need long prio)
  · rw [subR_form (.inr q2)]
    go_enter Try.func33, Try.ntmps33
    go_wp2_with fail
    refine (specPoolRight_any p _ _ (HP.out.ext (by repeat (first | exact Ext.refl _ | apply Ext.plus | apply Ext.alloc | apply Ext.drew)))).mono ?_
    rintro e _ ⟨rfl, X, rfl⟩
    rw [q1]
    go_wp2_with fail
    refine (specJobRight_any (subJ x 1 need long prio) (.slice none 0 0) _ HOK.out (nilIntsS _)).mono ?_
    rintro e _ ⟨rfl, X2, rfl⟩
    rw [q2]
    go_wp2_with (go_at_call 115; refine (l05Ill_any _ _).mono ?_; rintro e _ ⟨rfl, X, rfl⟩)
    exact bodyPost_ret (v := .agg #[.slice none 0 0, .slice none 0 0, (.int .i64 0), (.int .i64 0), (.int .i64 1)]) (by simp [results, Try.results33, go_sem]) rfl ⟨_, _, [], [], rfl, (by repeat' (first | (with_reducible exact Ext.refl _) | (with_reducible refine Ext.plus ?_ _) | (with_reducible refine Ext.alloc ?_ _) | (with_reducible refine Ext.setCell ?_ ?_ _) | (with_reducible refine Ext.drew ?_) | (with_reducible exact Nat.le_refl _) | (dsimp only; omega))), OwnP.zero _ _ _⟩
  have HQ1 := Lib.hid q1
  have HQ2 := Lib.hid q2
  clear q1 q2
  go_enter Try.func33, Try.ntmps33
  go_wp2_with fail
  refine (specPoolRight_any p _ _ (HP.out.ext (by repeat (first | exact Ext.refl _ | apply Ext.plus | apply Ext.alloc | apply Ext.drew)))).mono ?_
  rintro e _ ⟨rfl, X, rfl⟩
  rw [HQ1.out]
  go_wp2_with fail
  refine (specJobRight_any (subJ x 1 need long prio) (.slice none 0 0) _ HOK.out (nilIntsS _)).mono ?_
  rintro e _ ⟨rfl, X2, rfl⟩
  rw [HQ2.out]
  go_wp2
  go_loopw [12, 13] (fun o i wr => ∃ k n : Nat, k ≤ p.clear.length ∧ i = .int .i64 k ∧ o = (.int .i64 (n : Int)) ∧ Hid (n = clN p.clear x k) ∧ n ≤ k ∧ Ext ((((w.alloc (.cells #[.slice a p.clear.length c, .slice b p.jobs.length d, (.int .i64 p.now)] 47)).alloc (.cells #[(.int .i64 x.lv), (.int .i64 x.st)] 35)).alloc (.cells #[.slice none 0 0, .slice none 0 0, (.int .i64 0), (.int .i64 0), (.int .i64 0)] 49)).alloc (.cells #[(.int .i64 x.lv), (.int .i64 x.st), (.int .i64 1), (.int .i64 need), (.int .i64 long), (.int .i64 prio), (.int .i64 1), (.int .i64 0), .slice none 0 0] 100)) wr) (fun _ i _ => p.clear.length - (intOf i).toNat)
  case atStart => exact ⟨0, 0, Nat.zero_le _, rfl, rfl, Lib.hid (clN_zero _ _).symm, Nat.le_refl _, (by repeat (first | exact Ext.refl _ | apply Ext.plus | apply Ext.alloc | apply Ext.drew))⟩
  case round =>
    obtain ⟨k, n, hk, rfl, rfl, HN, hnk, ⟨X3, rfl⟩⟩ := hrel
    by_cases hlt : k < p.clear.length
    · obtain ⟨b1, off, rfl⟩ := slr_some HC.out hlt
      obtain ⟨ho, vx, hsx, h0⟩ := sl_at HC.out hlt
      obtain ⟨ax, cx, rfl⟩ := hsx.len
      have HX := Lib.hid hsx
      have HST := Lib.hid (clN_step (x := x) hlt)
      clear hsx
      go_upto_region 8 with fail
      cases hq : hasL p.clear[k] x
      all_goals (refine wp_region_x 7 (by kernel_rfl) (by kernel_rfl) (by kernel_rfl) ?_; (iterate 7 (apply XReg.step; (case h => (intro w' hw'; obtain ⟨X', rfl⟩ := hw'; go_wp2_with ((go_at_call 126; refine (l05Cleared_any _ p.clear[k] x _ (HX.out.ext rLab_stable (by repeat (first | exact Ext.refl _ | apply Ext.plus | apply Ext.alloc | apply Ext.drew)))).mono ?_; rintro e _ ⟨rfl, Y, rfl⟩; rw [hq])); exact ⟨rfl, (by repeat (first | exact Ext.refl _ | apply Ext.plus | apply Ext.alloc | apply Ext.drew))⟩)); (case hv => kernel_rfl))); refine XReg.doneN (fun X => ?_))
      · go_wp2
        exact ⟨⟨k + 1, n, by omega, by go_num, rfl, Lib.hid (by rw [HST.out, if_neg (by simp [hq]), HN.out]; simp), by omega, (by repeat (first | exact Ext.refl _ | apply Ext.plus | apply Ext.alloc | apply Ext.drew))⟩, by simp [intOf]; omega⟩
      · go_wp2
        exact ⟨⟨k + 1, n + 1, by omega, by go_num, by go_num, Lib.hid (by rw [HST.out, if_pos hq, HN.out]), by omega, (by repeat (first | exact Ext.refl _ | apply Ext.plus | apply Ext.alloc | apply Ext.drew))⟩, by simp [intOf]; omega⟩
    · obtain rfl : k = p.clear.length := by omega
      go_wp2_with fail
      refine (l04Many_any _ p.jobs x _ (HJ.out.ext rJob_stable (by repeat (first | exact Ext.refl _ | apply Ext.plus | apply Ext.alloc | apply Ext.drew)))).mono ?_
      rintro e _ ⟨rfl, Y, rfl⟩
      obtain ⟨m, hm⟩ : ∃ m, m = cntL p.jobs x := ⟨_, rfl⟩
      have hml : m ≤ 1048576 := by rw [hm]; exact Nat.le_trans (cntL_le _ _) hlj
      rw [← hm]
      have HM := Lib.hid hm
      clear hm
      by_cases h3 : (n : Int) < need
      · have HL := Lib.hid (subR_lab HQ1.out HQ2.out (by rw [← HN.out]; exact h3))
        have hb3 : decide ((n : Int) < need) = true := decide_eq_true h3
        clear h3
        go_wp2_with (go_at_call 115; refine (l05Ill_any _ _).mono ?_; rintro e _ ⟨rfl, X, rfl⟩)
        refine bodyPost_ret (v := .agg #[.slice none 0 0, .slice none 0 0, (.int .i64 0), (.int .i64 0), (.int .i64 11)]) (by simp [results, Try.results33, go_sem]) rfl ?_
        rw [HL.out]
        exact ⟨_, _, [], [], rfl, (by repeat' (first | (with_reducible exact Ext.refl _) | (with_reducible refine Ext.plus ?_ _) | (with_reducible refine Ext.alloc ?_ _) | (with_reducible refine Ext.setCell ?_ ?_ _) | (with_reducible refine Ext.drew ?_) | (with_reducible exact Nat.le_refl _) | (dsimp only; omega))), OwnP.zero _ _ _⟩
      · have hb3 : decide ((n : Int) < need) = false := decide_eq_false h3
        have H3 := Lib.hid h3
        clear h3
        by_cases h4 : (3 : Int) < (m : Int) + 1
        · have HL := Lib.hid (subR_full HQ1.out HQ2.out (by rw [← HN.out]; exact (fun h => by have := H3.out; omega)) (by rw [← HM.out]; exact h4))
          have hb4 : decide ((3 : Int) < (m : Int) + 1) = true := decide_eq_true h4
          clear h4
          go_wp2_with (go_at_call 115; refine (l05Ill_any _ _).mono ?_; rintro e _ ⟨rfl, X, rfl⟩)
          refine bodyPost_ret (v := .agg #[.slice none 0 0, .slice none 0 0, (.int .i64 0), (.int .i64 0), (.int .i64 9)]) (by simp [results, Try.results33, go_sem]) rfl ?_
          rw [HL.out]
          exact ⟨_, _, [], [], rfl, (by repeat' (first | (with_reducible exact Ext.refl _) | (with_reducible refine Ext.plus ?_ _) | (with_reducible refine Ext.alloc ?_ _) | (with_reducible refine Ext.setCell ?_ ?_ _) | (with_reducible refine Ext.drew ?_) | (with_reducible exact Nat.le_refl _) | (dsimp only; omega))), OwnP.zero _ _ _⟩
        · have HL := Lib.hid (subR_yes HQ1.out HQ2.out (by rw [← HN.out]; exact (fun h => by have := H3.out; omega)) (by rw [← HM.out]; exact h4))
          have hb4 : decide ((3 : Int) < (m : Int) + 1) = false := decide_eq_false h4
          clear h4
          go_wp2_with fail
          refine (l05Copy_any p _ _ (HP.out.ext (by repeat (first | exact Ext.refl _ | apply Ext.plus | apply Ext.alloc | apply Ext.drew))) HF.out).mono ?_
          rintro e _ ⟨cv, jv, fc, fj, rfl, ⟨Y2, rfl⟩, hO⟩
          obtain ⟨ac, cc, rfl⟩ := hO.1.shape
          obtain ⟨aj, cj, rfl⟩ := hO.2.1.shape
          unfold Pl.val
          go_upto_region 16 with fail
          refine gen_world (fun W1 hW => ?_)
          have r0 := CellsAt.fresh ((w.alloc (.cells #[.slice a p.clear.length c, .slice b p.jobs.length d, (.int .i64 p.now)] 47)).alloc (.cells #[(.int .i64 x.lv), (.int .i64 x.st)] 35)) [.slice none 0 0, .slice none 0 0, (.int .i64 0), (.int .i64 0), (.int .i64 0)] 49
          have j0 := CellsAt.fresh (((w.alloc (.cells #[.slice a p.clear.length c, .slice b p.jobs.length d, (.int .i64 p.now)] 47)).alloc (.cells #[(.int .i64 x.lv), (.int .i64 x.st)] 35)).alloc (.cells #[.slice none 0 0, .slice none 0 0, (.int .i64 0), (.int .i64 0), (.int .i64 0)] 49)) [(.int .i64 x.lv), (.int .i64 x.st), (.int .i64 ((m : Int) + 1)), (.int .i64 need), (.int .i64 long), (.int .i64 prio), (.int .i64 1), (.int .i64 0), .slice none 0 0] 100
          have o0 := CellsAt.fresh (((((((w.alloc (.cells #[.slice a p.clear.length c, .slice b p.jobs.length d, (.int .i64 p.now)] 47)).alloc (.cells #[(.int .i64 x.lv), (.int .i64 x.st)] 35)).alloc (.cells #[.slice none 0 0, .slice none 0 0, (.int .i64 0), (.int .i64 0), (.int .i64 0)] 49)).alloc (.cells #[(.int .i64 x.lv), (.int .i64 x.st), (.int .i64 ((m : Int) + 1)), (.int .i64 need), (.int .i64 long), (.int .i64 prio), (.int .i64 1), (.int .i64 0), .slice none 0 0] 100)).plus X3).plus Y).plus Y2) [.slice ac p.clear.length cc, .slice aj p.jobs.length cj, (.int .i64 p.now)] 47
          simp only [World.size_alloc, World.size_plus] at r0 j0 o0
          have hOW : OutW w W1 (w.heap.size + 1 + 1) (w.heap.size + 1 + 1 + 1 + 1 + X3.n + Y.n + Y2.n) (.slice ac p.clear.length cc) (.slice aj p.jobs.length cj) p.now := by
            rw [hW]
            exact ⟨(by repeat (first | exact Ext.refl _ | apply Ext.plus | apply Ext.alloc | apply Ext.drew)), by omega, by omega, by omega, r0.ext (by repeat (first | exact Ext.refl _ | apply Ext.plus | apply Ext.alloc | apply Ext.drew)), o0, fun q => by simp [go_sem], fun q => by simp [go_sem]⟩
          have hJB : CellsAt W1 (w.heap.size + 1 + 1 + 1) [(.int .i64 x.lv), (.int .i64 x.st), (.int .i64 ((m : Int) + 1)), (.int .i64 need), (.int .i64 long), (.int .i64 prio), (.int .i64 1), (.int .i64 0), .slice none 0 0] := by rw [hW]; exact j0.ext (by repeat (first | exact Ext.refl _ | apply Ext.plus | apply Ext.alloc | apply Ext.drew))
          have hOP : OwnP (w.heap.size + 1 + 1 + 1 + 1) W1 fc fj (.slice ac p.clear.length cc) (.slice aj p.jobs.length cj) p := by
            rw [hW]
            exact (hO.ext ((Ext.refl _).alloc _)).mono (by simp; omega)
          have hHI : ∀ q ∈ fc ++ fj, q < w.heap.size + 1 + 1 + 1 + 1 + X3.n + Y.n + Y2.n := fun q hq => by have := hO.high q hq; simpa using this
          have hgb : w.heap.size + 1 + 1 + 1 + 1 ≤ w.heap.size + 1 + 1 + 1 + 1 + X3.n + Y.n + Y2.n := by omega
          generalize w.heap.size + 1 + 1 + 1 + 1 + X3.n + Y.n + Y2.n = gb at hOW hHI hgb ⊢
          clear hW r0 j0 o0 hO
          have HOW := Lib.hid hOW
          have HJB := Lib.hid hJB
          have HOP := Lib.hid hOP
          have HHI := Lib.hid hHI
          have HGB := Lib.hid hgb
          have HBK : Hid (∀ q ∈ blkL (.slice aj p.jobs.length cj), q ∈ fj) := Lib.hid (fun q hq => hOP.2.1.blkL_in q hq)
          have i0 := hJB 0 _ rfl
          have i1 := hJB 1 _ rfl
          have i2 := hJB 2 _ rfl
          have i3 := hJB 3 _ rfl
          have i4 := hJB 4 _ rfl
          have i5 := hJB 5 _ rfl
          have i6 := hJB 6 _ rfl
          have i7 := hJB 7 _ rfl
          have i8 := hJB 8 _ rfl
          have k1 := hOW.o 1 _ rfl
          have gi := World.old_of_cell i0
          have gk := World.old_of_cell k1
          have HSZ : Hid (w.heap.size + 1 + 1 + 1 + 1 ≤ W1.heap.size) := Lib.hid (by have := World.block_lt_of_cell? _ _ k1; simp at this; omega)
          have HGW : Hid (gb < W1.heap.size) := Lib.hid (by have := World.block_lt_of_cell? _ _ k1; simpa using this)
          clear hOW hJB hOP hHI hgb
          go_wp2_with (at_builtin; go_must (refine Own.appN oJob_local oJob_held el_eJob rfl _ _ rfl (w.heap.size + 1 + 1 + 1 + 1) HSZ.out _ p.jobs fj rfl HOP.out.2.1 _ rfl rfl (subJ x ((m : Int) + 1) need long prio) [] ⟨⟨.slice none 0 0, rfl, (Own.nil 0 _ _ _ _).1⟩, List.nodup_nil, fun q hq => by cases hq⟩ rfl (fun q _ hq => by cases hq) ?_ ?_ ?_ ?_); (intro u hu; simp at hu; rcases hu with rfl | rfl | rfl | rfl | rfl | rfl | rfl | rfl | rfl <;> rfl); (unfold maxLen; omega); omega; intro v' W2 fp' hO2 hC2 hS2; have HO2 := Lib.hid hO2; have HS2 := Lib.hid hS2; have HOW2 := Lib.hid (HOW.out.chg hC2 (fun q hq => by have := HOP.out.low q (List.mem_append_right _ (HBK.out q hq)); omega) (fun hq => by have := HOP.out.low _ (List.mem_append_right _ (HBK.out _ hq)); omega) (fun hq => by have := HHI.out _ (List.mem_append_right _ (HBK.out _ hq)); omega)); have HJ2 := Lib.hid (HJB.out.chg hC2 (fun hq => by have := HOP.out.low _ (List.mem_append_right _ (HBK.out _ hq)); omega)); have HC2 := Lib.hid (HOP.out.1.far oLabelSS_local oLabelSS_held hC2 (fun q hq hq2 => HOP.out.2.2 q hq (HBK.out q hq2))); clear hO2 hC2 hS2 i0 i1 i2 i3 i4 i5 i6 i7 i8 k1 gi gk; obtain ⟨aj2, cj2, rfl⟩ := HO2.out.shape; have k0 := HOW2.out.o 0 _ rfl; have k1 := HOW2.out.o 1 _ rfl; have k2 := HOW2.out.o 2 _ rfl; have gk := World.old_of_cell k1; have r0 := HOW2.out.r 0 _ rfl; have r1 := HOW2.out.r 1 _ rfl; have r2 := HOW2.out.r 2 _ rfl; have r3 := HOW2.out.r 3 _ rfl; have r4 := HOW2.out.r 4 _ rfl; have gr := World.old_of_cell r0; have fr := HOW2.out.fr; have fo := HOW2.out.fo; have i2 := HJ2.out 2 _ rfl; have gi := World.old_of_cell i2; have hne1 : ¬ (gb = w.heap.size + 1 + 1) := (by have := HGB.out; omega); have hne2 : ¬ (gb = w.heap.size + 1 + 1 + 1) := (by have := HGB.out; omega); have hne3 : ¬ (w.heap.size + 1 + 1 = gb) := (by have := HGB.out; omega); have hne4 : ¬ (w.heap.size + 1 + 1 + 1 = gb) := (by have := HGB.out; omega))
          have hch : ∀ u0 u1 u2 u3 u4 u5, Chg [gb, w.heap.size + 1 + 1] W2 ((((((W2.setCell ⟨gb, 1, none⟩ u0).setCell ⟨w.heap.size + 1 + 1, 0, none⟩ u1).setCell ⟨w.heap.size + 1 + 1, 1, none⟩ u2).setCell ⟨w.heap.size + 1 + 1, 2, none⟩ u3).setCell ⟨w.heap.size + 1 + 1, 3, none⟩ u4).setCell ⟨w.heap.size + 1 + 1, 4, none⟩ u5) := fun u0 u1 u2 u3 u4 u5 => ((((((Chg.refl _ _).setCell (.inl (by simp)) _).setCell (.inl (by simp)) _).setCell (.inl (by simp)) _).setCell (.inl (by simp)) _).setCell (.inl (by simp)) _).setCell (.inl (by simp)) _
          have hv : (p.jobs ++ [subJ x ((m : Int) + 1) need long prio]).length = p.jobs.length + 1 := by simp
          have hO2 := HO2.out
          rw [hv] at hO2
          refine bodyPost_ret (v := .agg #[.slice ac p.clear.length cc, .slice aj2 (p.jobs.length + 1) cj2, (.int .i64 p.now), (.int .i64 ((m : Int) + 1)), (.int .i64 0)]) (by simp [results, Try.results33, go_sem, r0, r1, r2, r3, r4]) rfl ?_
          rw [HL.out]
          unfold subP
          rw [← HM.out]
          refine ⟨_, _, fc, fp', rfl, (hch _ _ _ _ _ _).ext HOW2.out.ext (by have := HGB.out; simp; omega), ?_, ?_, ?_⟩
          · exact (HC2.out.far oLabelSS_local oLabelSS_held (hch _ _ _ _ _ _) (fun q hq hq2 => by
              have h1 := HHI.out q (List.mem_append_left _ hq)
              have h2 := HOP.out.1.2.2 q hq
              simp at hq2; omega)).mono (by omega)
          · exact (hO2.far oJobS_local oJobS_held (hch _ _ _ _ _ _) (fun q hq hq2 => by
              have h2 := hO2.2.2 q hq
              have h4 := HGW.out
              have h5 := HGB.out
              rcases HS2.out q hq with h | h | h
              · have h3 := HHI.out q (List.mem_append_right _ h)
                simp at hq2; omega
              · cases h
              · simp at hq2; omega)).mono (by omega)
          · intro q hq hq2
            have h4 := HGW.out
            have h1 := HHI.out q (List.mem_append_left _ hq)
            rcases HS2.out q hq2 with h | h | h
            · exact HOP.out.2.2 q hq h
            · cases h
            · omega
end Go.Proofs.Ytfkjdiaeblcimaa
