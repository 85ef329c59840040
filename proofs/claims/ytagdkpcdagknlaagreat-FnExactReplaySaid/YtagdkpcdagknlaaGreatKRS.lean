/- The law of Replay. -/
import Derived.Test.YtagdkpcdagknlaaGreatKRO
import Derived.Test.YtagdkpcdagknlaaGreatKRT
import Derived.Test.YtagdkpcdagknlaaGreatKZZ9
set_option maxRecDepth 100000
set_option linter.unusedVariables false
namespace Go.Proofs.YtagdkpcdagknlaaGreat
open Go.RowKit Go.Fin1

set_option maxHeartbeats 3200000 in
theorem fnReplay0_any (a : Arg (List (List Lab))) (s : ByteArray) (w : World) (h : SlR w 1 (rSl 2 rLab) a.v a.x) (hs : s.size ≤ maxLen) :
    Calls Tryz.prog 8 #[a.v, .string s] w fun e w' => e = .returned (.bool true) ∧ Ext w w' := by
  obtain ⟨v, l⟩ := a
  change SlR w 1 rLabS v l at h
  change Calls Tryz.prog 8 #[v, .string s] w _
  by_cases h20 : s.size ≤ 1048576
  case neg =>
    have hb : decide ((1048576 : Int) < (s.size : Int)) = true := decide_eq_true (by omega)
    clear h
    unfold maxLen at hs
    go_enter Tryz.func8, Tryz.ntmps8
    go_wp2
    go_ret
    exact ⟨rfl, (by repeat (first | exact Ext.refl _ | apply Ext.plus | apply Ext.alloc | apply Ext.drew))⟩
  have hb20 : decide ((1048576 : Int) < (s.size : Int)) = false := decide_eq_false (by omega)
  clear hs
  obtain ⟨av, cv, rfl⟩ := h.len
  have HS := Lib.hid h
  have hi := Lib.hid (slr_labss h)
  clear h
  by_cases hl : szL List.length l ≤ 1048576
  · have ht : decide (((1048576 - szL List.length l : Nat) : Int) < 0) = false := decide_eq_false (by omega)
    have HRI := Lib.hid (And.intro (repR_ok l s).1.1 (repR_ok l s).1.2.2)
    have hmx : wL (wL (fun _ : Lab => 2)) l ≤ 4 * 1048576 := wL_spans hl
    generalize hR : repR l s = R at HRI
    obtain ⟨RP, RI, RC⟩ := R
    have hmr : wPl RP ≤ 64 * 1048576 := HRI.out.2
    have HEQ := Lib.hid hR
    clear hR
    go_enter Tryz.func8, Tryz.ntmps8
    go_wp2_with fail
    refine (szLabelSS_any _ l 1048576 _ (HS.out.ext rLabS_stable (by repeat (first | exact Ext.refl _ | apply Ext.plus | apply Ext.alloc | apply Ext.drew))) (Nat.le_refl _)).mono ?_
    rintro e _ ⟨rfl, ⟨X0, rfl⟩⟩
    rw [if_pos hl]
    go_wp2_with fail
    refine (toLabelSS_any _ l _ (HS.out.ext rLabS_stable (by repeat (first | exact Ext.refl _ | apply Ext.plus | apply Ext.alloc | apply Ext.drew))) hl).mono ?_
    rintro e _ ⟨v1, f1, rfl, ⟨X1, rfl⟩, hO⟩
    have H1 := Lib.hid (oLabelSS_r hO.1 hi.out)
    obtain ⟨a1, c1, rfl⟩ := hO.shape
    clear hO
    go_wp2_with fail
    refine (specReplay_any _ l s _ H1.out hl h20).mono ?_
    rintro e _ ⟨cw, jw, fw1, fw2, rfl, ⟨Y1, rfl⟩, hO⟩
    rw [HEQ.out] at hO ⊢
    obtain ⟨aw1, cw1, rfl⟩ := hO.1.shape
    obtain ⟨aw2, cw2, rfl⟩ := hO.2.1.shape
    have HW := Lib.hid ((hO.e' HRI.out.1).ext (Ext.alloc (Ext.refl _) (.cells #[.slice aw1 RP.clear.length cw1, .slice aw2 RP.jobs.length cw2, (.int .i64 RP.now), (.int .i64 RI), (.int .i64 RC)] 61)))
    have hnb := CellsAt.fresh (((w.plus X0).plus X1).plus Y1) [.slice aw1 RP.clear.length cw1, .slice aw2 RP.jobs.length cw2, (.int .i64 RP.now), (.int .i64 RI), (.int .i64 RC)] 61
    simp only [World.size_plus] at hnb
    have HB4 := Lib.hid hnb
    clear hO hnb H1
    unfold poV
    go_wp2_with fail
    refine (toLabelSS_any _ l _ (HS.out.ext rLabS_stable (by repeat (first | exact Ext.refl _ | apply Ext.plus | apply Ext.alloc | apply Ext.drew))) hl).mono ?_
    rintro e _ ⟨vx, fpx, rfl, ⟨X2, rfl⟩, hO⟩
    have HX := Lib.hid hO
    have HXU := Lib.hid (oLabelSS_held _ _ _ _ hO.1)
    have HXL := Lib.hid hO.2.2
    obtain ⟨ax, cx, rfl⟩ := hO.shape
    simp only [World.size_plus, World.size_alloc] at HXU HXL
    clear hO
    go_wp2_with fail
    refine (implReplay_any _ l s _ ((oLabelSS_r HX.out.1 hi.out).ext rLabS_stable (by repeat (first | exact Ext.refl _ | apply Ext.plus | apply Ext.alloc | apply Ext.drew))) hl h20).mono ?_
    rintro e _ ⟨cg, jg, fg1, fg2, rfl, ⟨Y2, rfl⟩, hO⟩
    rw [HEQ.out] at hO ⊢
    obtain ⟨ag1, cg1, rfl⟩ := hO.1.shape
    obtain ⟨ag2, cg2, rfl⟩ := hO.2.1.shape
    have HG := Lib.hid hO
    have HGU := Lib.hid hO.high
    have hnb := CellsAt.fresh ((((((w.plus X0).plus X1).plus Y1).alloc (.cells #[.slice aw1 RP.clear.length cw1, .slice aw2 RP.jobs.length cw2, (.int .i64 RP.now), (.int .i64 RI), (.int .i64 RC)] 61)).plus X2).plus Y2) [.slice ag1 RP.clear.length cg1, .slice ag2 RP.jobs.length cg2, (.int .i64 RP.now), (.int .i64 RI), (.int .i64 RC)] 61
    simp only [World.size_plus, World.size_alloc] at hnb HGU
    have HB6 := Lib.hid hnb
    clear hO hnb
    unfold poV
    go_wp2_with fail
    refine (eqReplayOut_self RP RI RC _ _ _ _ _ ((HG.out.ext (by repeat (first | exact Ext.refl _ | apply Ext.plus | apply Ext.alloc | apply Ext.drew))).e' HRI.out.1) (HW.out.ext (by repeat (first | exact Ext.refl _ | apply Ext.plus | apply Ext.alloc | apply Ext.drew)))).mono ?_
    rintro e _ ⟨rfl, ⟨X3, rfl⟩⟩
    go_wp2_with fail
    refine (toLabelSS_any _ l _ (HS.out.ext rLabS_stable (by repeat (first | exact Ext.refl _ | apply Ext.plus | apply Ext.alloc | apply Ext.drew))) hl).mono ?_
    rintro e _ ⟨vy, fpy, rfl, ⟨X4, rfl⟩, hO⟩
    have H2 := Lib.hid (oLabelSS_r hO.1 hi.out)
    obtain ⟨ay, cy, rfl⟩ := hO.shape
    clear hO
    go_wp2_with fail
    refine (eqLabelSS_self _ _ l _ ((oLabelSS_r HX.out.1 hi.out).ext rLabS_stable (by repeat (first | exact Ext.refl _ | apply Ext.plus | apply Ext.alloc | apply Ext.drew))) H2.out).mono ?_
    rintro e _ ⟨rfl, ⟨X5, rfl⟩⟩
    go_wp2_with fail
    refine (markLabelSS_any _ l 1 fpx _ (HX.out.ext oLabelSS_local oLabelSS_held (by repeat (first | exact Ext.refl _ | apply Ext.plus | apply Ext.alloc | apply Ext.drew))).1 HX.out.2.1 (by omega)).mono ?_
    rintro e wm ⟨rfl, hx, hmk⟩
    have hE : Ext w wm := hx.grown (by repeat (first | exact Ext.refl _ | apply Ext.plus | apply Ext.alloc | apply Ext.drew)) HXL.out (by omega)
    have HG1 := Lib.hid ((HG.out.ext (by repeat (first | exact Ext.refl _ | apply Ext.plus | apply Ext.alloc | apply Ext.drew))).chg hx (fun b hb => Nat.lt_of_lt_of_le (HXU.out b hb) (by simp)))
    have HE1 := Lib.hid (show Ext ((((w.plus X0).plus X1).plus Y1).alloc (.cells #[.slice aw1 RP.clear.length cw1, .slice aw2 RP.jobs.length cw2, (.int .i64 RP.now), (.int .i64 RI), (.int .i64 RC)] 61)) wm from hx.grown (by repeat (first | exact Ext.refl _ | apply Ext.plus | apply Ext.alloc | apply Ext.drew)) HXL.out (by simp))
    have HW1 := Lib.hid (HW.out.ext HE1.out)
    have HB41 := Lib.hid (HB4.out.ext HE1.out)
    have HB61 := Lib.hid (CellsAt.chg (HB6.out.ext (by repeat (first | exact Ext.refl _ | apply Ext.plus | apply Ext.alloc | apply Ext.drew))) hx (fun hb => by have h := HXU.out _ hb; omega))
    have hb4 := HB41.out
    have hb6 := HB61.out
    clear hmk hx HX HG HXU HXL HB6 H2
    obtain ⟨Y5, rfl⟩ := hE
    have c0 := hb4 0 _ rfl
    have c1 := hb4 1 _ rfl
    have c2 := hb4 2 _ rfl
    have c3 := hb4 3 _ rfl
    have c4 := hb4 4 _ rfl
    have ho4 := World.old_of_cell c0
    have e0 := hb6 0 _ rfl
    have e1 := hb6 1 _ rfl
    have e2 := hb6 2 _ rfl
    have e3 := hb6 3 _ rfl
    have e4 := hb6 4 _ rfl
    have ho6 := World.old_of_cell e0
    clear hb4 hb6
    go_wp2_with fail
    refine (eqReplayOut_self RP RI RC _ _ _ _ _ ((HG1.out.ext (by repeat (first | exact Ext.refl _ | apply Ext.plus | apply Ext.alloc | apply Ext.drew))).e' HRI.out.1) (HW1.out.ext (by repeat (first | exact Ext.refl _ | apply Ext.plus | apply Ext.alloc | apply Ext.drew)))).mono ?_
    rintro e _ ⟨rfl, ⟨X6, rfl⟩⟩
    go_wp2_with fail
    refine (markReplayOut_any RP RI RC _ _ 1 _ fg1 fg2 _ (HG1.out.ext (by repeat (first | exact Ext.refl _ | apply Ext.plus | apply Ext.alloc | apply Ext.drew))) (by omega)).mono ?_
    rintro e wm2 ⟨rfl, hx, hmk⟩
    have hE : Ext w wm2 := hx.grown (by repeat (first | exact Ext.refl _ | apply Ext.plus | apply Ext.alloc | apply Ext.drew)) HG1.out.low (by simp; try omega)
    have HE2 := Lib.hid (show Ext ((((w.plus X0).plus X1).plus Y1).alloc (.cells #[.slice aw1 RP.clear.length cw1, .slice aw2 RP.jobs.length cw2, (.int .i64 RP.now), (.int .i64 RI), (.int .i64 RC)] 61)) wm2 from hx.grown (HE1.out.plus X6) HG1.out.low (by simp; try omega))
    have HW2 := Lib.hid (HW.out.ext HE2.out)
    have HB42 := Lib.hid (HB4.out.ext HE2.out)
    have HB62 := Lib.hid (CellsAt.chg (HB61.out.ext (by repeat (first | exact Ext.refl _ | apply Ext.plus | apply Ext.alloc | apply Ext.drew))) hx (fun hb => Nat.lt_irrefl _ (HGU.out _ hb)))
    have HM := Lib.hid hmk.reads
    have hb4 := HB42.out
    have hb6 := HB62.out
    clear hmk hx HG1 HW1 HW HE1 HE2 HB4 HB41 HB61 HGU c0 c1 c2 c3 c4 ho4 e0 e1 e2 e3 e4 ho6
    obtain ⟨Y6, rfl⟩ := hE
    have c0 := hb4 0 _ rfl
    have c1 := hb4 1 _ rfl
    have c2 := hb4 2 _ rfl
    have c3 := hb4 3 _ rfl
    have c4 := hb4 4 _ rfl
    have ho4 := World.old_of_cell c0
    have e0 := hb6 0 _ rfl
    have e1 := hb6 1 _ rfl
    have e2 := hb6 2 _ rfl
    have e3 := hb6 3 _ rfl
    have e4 := hb6 4 _ rfl
    have ho6 := World.old_of_cell e0
    clear hb4 hb6
    go_wp2_with fail
    refine (heldReplayOut_any RP RI RC _ _ 1 _ (HM.out.1.ext (rSl_stable (rc_stable _)) (by repeat (first | exact Ext.refl _ | apply Ext.plus | apply Ext.alloc | apply Ext.drew))) (HM.out.2.ext rJm_stable (by repeat (first | exact Ext.refl _ | apply Ext.plus | apply Ext.alloc | apply Ext.drew))) (by omega)).mono ?_
    rintro e _ ⟨rfl, ⟨X7, rfl⟩⟩
    go_wp2_with fail
    refine (toLabelSS_any _ l _ (HS.out.ext rLabS_stable (by repeat (first | exact Ext.refl _ | apply Ext.plus | apply Ext.alloc | apply Ext.drew))) hl).mono ?_
    rintro e _ ⟨vh, fph, rfl, ⟨X8, rfl⟩, hO⟩
    have H3 := Lib.hid (oLabelSS_r hO.1 hi.out)
    obtain ⟨ah, ch, rfl⟩ := hO.shape
    clear hO
    go_wp2_with fail
    refine (implReplay_any _ l s _ H3.out hl h20).mono ?_
    rintro e _ ⟨c9, j9, f91, f92, rfl, ⟨Y7, rfl⟩, hO⟩
    rw [HEQ.out] at hO ⊢
    obtain ⟨a91, c91, rfl⟩ := hO.1.shape
    obtain ⟨a92, c92, rfl⟩ := hO.2.1.shape
    have HH := Lib.hid (hO.e' HRI.out.1)
    clear hO H3
    unfold poV
    go_wp2_with fail
    refine (eqReplayOut_self RP RI RC _ _ _ _ _ (HH.out.ext (by repeat (first | exact Ext.refl _ | apply Ext.plus | apply Ext.alloc | apply Ext.drew))) (HW2.out.ext (by repeat (first | exact Ext.refl _ | apply Ext.plus | apply Ext.alloc | apply Ext.drew)))).mono ?_
    rintro e _ ⟨rfl, ⟨X9, rfl⟩⟩
    go_wp2_with fail
    refine (heldReplayOut_any RP RI RC _ _ 1 _ (HM.out.1.ext (rSl_stable (rc_stable _)) (by repeat (first | exact Ext.refl _ | apply Ext.plus | apply Ext.alloc | apply Ext.drew))) (HM.out.2.ext rJm_stable (by repeat (first | exact Ext.refl _ | apply Ext.plus | apply Ext.alloc | apply Ext.drew))) (by omega)).mono ?_
    rintro e _ ⟨rfl, ⟨Z9, rfl⟩⟩
    go_wp2
    go_ret
    exact ⟨rfl, (by repeat (first | exact Ext.refl _ | apply Ext.plus | apply Ext.alloc | apply Ext.drew))⟩
  · go_enter Tryz.func8, Tryz.ntmps8
    go_wp2_with fail
    refine (szLabelSS_any _ l 1048576 _ (HS.out.ext rLabS_stable (by repeat (first | exact Ext.refl _ | apply Ext.plus | apply Ext.alloc | apply Ext.drew))) (Nat.le_refl _)).mono ?_
    rintro e _ ⟨rfl, ⟨X0, rfl⟩⟩
    rw [if_neg hl]
    go_wp2
    go_ret
    exact ⟨rfl, (by repeat (first | exact Ext.refl _ | apply Ext.plus | apply Ext.alloc | apply Ext.drew))⟩
end Go.Proofs.YtagdkpcdagknlaaGreat
