/- Act, walked: both. -/
import Derived.Test.YtagdkpcdagknlaaGreatKAF
import Derived.Test.YtagdkpcdagknlaaGreatKAG
import Derived.Test.YtagdkpcdagknlaaGreatKW2b
set_option maxRecDepth 100000
set_option linter.unusedVariables false
namespace Go.Proofs.YtagdkpcdagknlaaGreat
open Go.RowKit Go.Fin1
@[irreducible] def actR (p : Pl) (e : Ent) : Pl × Int × Int :=
  if entR e = false then (zPl, 0, 1) else if e.k = 1 then subR p e.l e.a e.b e.c else if e.k = 2 then chR p e.l e.a e.b else advR p
theorem actR_form {p : Pl} {e : Ent} (h : entR e = false) : actR p e = (zPl, 0, 1) := by unfold actR; rw [if_pos h]
theorem actR_sub {p : Pl} {e : Ent} (h : entR e = true) (h1 : e.k = 1) : actR p e = subR p e.l e.a e.b e.c := by unfold actR; rw [if_neg (by rw [h]; simp), if_pos h1]
theorem actR_ch {p : Pl} {e : Ent} (h : entR e = true) (h1 : ¬ e.k = 1) (h2 : e.k = 2) : actR p e = chR p e.l e.a e.b := by unfold actR; rw [if_neg (by rw [h]; simp), if_neg h1, if_pos h2]
theorem actR_adv {p : Pl} {e : Ent} (h : entR e = true) (h1 : ¬ e.k = 1) (h2 : ¬ e.k = 2) : actR p e = advR p := by unfold actR; rw [if_neg (by rw [h]; simp), if_neg h1, if_neg h2]
set_option maxHeartbeats 1600000 in
theorem implAct_any (p : Pl) (v : Value) (x : Ent) (w : World) (h : ePool w v p) (hf : p.fits 1048576) (hx : x.ok) :
    Calls Tryz.prog 44 #[v, x.val] w fun e w' => ∃ cv jv fc fj, e = .returned (poV (actR p x).1 (actR p x).2.1 (actR p x).2.2 cv jv) ∧ Ext w w' ∧ OwnP w.heap.size w' fc fj cv jv (actR p x).1 := by
  have HP := Lib.hid h
  obtain ⟨k, ⟨lv, st⟩, xa, xb, xc⟩ := x
  obtain ⟨hk, hl, ha, hb, hc⟩ := hx
  have HX := Lib.hid (And.intro hl (And.intro ha (And.intro hb hc)))
  obtain ⟨a, c, b, d, rfl, h0, h1, h2⟩ := h
  clear h0 h1 h2 hk hl ha hb hc
  unfold Pl.val at HP ⊢
  unfold Ent.val
  cases hq : entR ⟨k, ⟨lv, st⟩, xa, xb, xc⟩
  · rw [actR_form hq]
    have HQ := Lib.hid hq
    clear hq
    go_enter Tryz.func44, Tryz.ntmps44
    go_wp2_with fail
    refine (implEntryRight_any _ _ _ _ _ _ _).mono ?_
    rintro e _ ⟨rfl, X, rfl⟩
    rw [HQ.out]
    skip
    go_wp2
    exact bodyPost_ret (v := .agg #[.slice none 0 0, .slice none 0 0, (.int .i64 0), (.int .i64 0), (.int .i64 1)]) (by simp [results, Tryz.results44, go_sem]) rfl ⟨_, _, [], [], rfl, (by repeat' (first | (with_reducible exact Ext.refl _) | (with_reducible refine Ext.plus ?_ _) | (with_reducible refine Ext.alloc ?_ _) | (with_reducible refine Ext.setCell ?_ ?_ _) | (with_reducible refine Ext.drew ?_) | (with_reducible exact Nat.le_refl _) | (dsimp only; omega))), OwnP.zero _ _ _⟩
  · by_cases h1 : k = 1
    · rw [actR_sub hq h1]
      subst h1
      have HQ := Lib.hid hq
      clear hq
      go_enter Tryz.func44, Tryz.ntmps44
      go_wp2_with fail
      refine (implEntryRight_any _ _ _ _ _ _ _).mono ?_
      rintro e _ ⟨rfl, X, rfl⟩
      rw [HQ.out]
      go_wp2_with fail
      refine (implSubmit_any p _ ⟨lv, st⟩ xa xb xc _ (HP.out.ext (by repeat (first | exact Ext.refl _ | apply Ext.plus | apply Ext.alloc | apply Ext.drew))) hf HX.out.1 HX.out.2.1 HX.out.2.2.1 HX.out.2.2.2).mono ?_
      rintro e _ ⟨cv, jv, fc, fj, rfl, ⟨Y, rfl⟩, hO⟩
      obtain ⟨ac, cc, rfl⟩ := hO.1.shape
      obtain ⟨aj, cj, rfl⟩ := hO.2.1.shape
      have HO := Lib.hid hO
      clear hO
      unfold poV
      go_wp2
      exact bodyPost_ret (v := .agg #[.slice ac (subR p ⟨lv, st⟩ xa xb xc).1.clear.length cc, .slice aj (subR p ⟨lv, st⟩ xa xb xc).1.jobs.length cj, (.int .i64 (subR p ⟨lv, st⟩ xa xb xc).1.now), (.int .i64 (subR p ⟨lv, st⟩ xa xb xc).2.1), (.int .i64 (subR p ⟨lv, st⟩ xa xb xc).2.2)]) (by simp [results, Tryz.results44, go_sem]) rfl ⟨_, _, fc, fj, rfl, (by repeat' (first | (with_reducible exact Ext.refl _) | (with_reducible refine Ext.plus ?_ _) | (with_reducible refine Ext.alloc ?_ _) | (with_reducible refine Ext.setCell ?_ ?_ _) | (with_reducible refine Ext.drew ?_) | (with_reducible exact Nat.le_refl _) | (dsimp only; omega))), (HO.out.swap (Nat.le_refl _) (by simp)).mono (by simp; try omega)⟩
    · by_cases h2 : k = 2
      · rw [actR_ch hq h1 h2]
        subst h2
        have HQ := Lib.hid hq
        clear hq h1
        go_enter Tryz.func44, Tryz.ntmps44
        go_wp2_with fail
        refine (implEntryRight_any _ _ _ _ _ _ _).mono ?_
        rintro e _ ⟨rfl, X, rfl⟩
        rw [HQ.out]
        go_wp2_with fail
        refine (implChange_any p _ ⟨lv, st⟩ xa xb _ (HP.out.ext (by repeat (first | exact Ext.refl _ | apply Ext.plus | apply Ext.alloc | apply Ext.drew))) hf).mono ?_
        rintro e _ ⟨cv, jv, fc, fj, rfl, ⟨Y, rfl⟩, hO⟩
        obtain ⟨ac, cc, rfl⟩ := hO.1.shape
        obtain ⟨aj, cj, rfl⟩ := hO.2.1.shape
        have HO := Lib.hid hO
        clear hO
        unfold poV
        go_wp2
        exact bodyPost_ret (v := .agg #[.slice ac (chR p ⟨lv, st⟩ xa xb).1.clear.length cc, .slice aj (chR p ⟨lv, st⟩ xa xb).1.jobs.length cj, (.int .i64 (chR p ⟨lv, st⟩ xa xb).1.now), (.int .i64 (chR p ⟨lv, st⟩ xa xb).2.1), (.int .i64 (chR p ⟨lv, st⟩ xa xb).2.2)]) (by simp [results, Tryz.results44, go_sem]) rfl ⟨_, _, fc, fj, rfl, (by repeat' (first | (with_reducible exact Ext.refl _) | (with_reducible refine Ext.plus ?_ _) | (with_reducible refine Ext.alloc ?_ _) | (with_reducible refine Ext.setCell ?_ ?_ _) | (with_reducible refine Ext.drew ?_) | (with_reducible exact Nat.le_refl _) | (dsimp only; omega))), (HO.out.swap (Nat.le_refl _) (by simp)).mono (by simp; try omega)⟩
      · rw [actR_adv hq h1 h2]
        have b1 : (k == 1) = false := by simp [h1]
        have b2 : (k == 2) = false := by simp [h2]
        have HQ := Lib.hid hq
        clear hq h1 h2
        go_enter Tryz.func44, Tryz.ntmps44
        go_wp2_with fail
        refine (implEntryRight_any _ _ _ _ _ _ _).mono ?_
        rintro e _ ⟨rfl, X, rfl⟩
        rw [HQ.out]
        go_wp2_with fail
        refine (implAdvance_any p _ _ (HP.out.ext (by repeat (first | exact Ext.refl _ | apply Ext.plus | apply Ext.alloc | apply Ext.drew))) hf).mono ?_
        rintro e _ ⟨cv, jv, fc, fj, rfl, ⟨Y, rfl⟩, hO⟩
        obtain ⟨ac, cc, rfl⟩ := hO.1.shape
        obtain ⟨aj, cj, rfl⟩ := hO.2.1.shape
        have HO := Lib.hid hO
        clear hO
        unfold poV
        go_wp2
        exact bodyPost_ret (v := .agg #[.slice ac (advR p).1.clear.length cc, .slice aj (advR p).1.jobs.length cj, (.int .i64 (advR p).1.now), (.int .i64 (advR p).2.1), (.int .i64 (advR p).2.2)]) (by simp [results, Tryz.results44, go_sem]) rfl ⟨_, _, fc, fj, rfl, (by repeat' (first | (with_reducible exact Ext.refl _) | (with_reducible refine Ext.plus ?_ _) | (with_reducible refine Ext.alloc ?_ _) | (with_reducible refine Ext.setCell ?_ ?_ _) | (with_reducible refine Ext.drew ?_) | (with_reducible exact Nat.le_refl _) | (dsimp only; omega))), (HO.out.swap (Nat.le_refl _) (by simp)).mono (by simp; try omega)⟩
set_option maxHeartbeats 1600000 in
theorem specAct_any (p : Pl) (v : Value) (x : Ent) (w : World) (h : ePool w v p) (hf : p.fits 1048576) (hx : x.ok) :
    Calls Tryz.prog 45 #[v, x.val] w fun e w' => ∃ cv jv fc fj, e = .returned (poV (actR p x).1 (actR p x).2.1 (actR p x).2.2 cv jv) ∧ Ext w w' ∧ OwnP w.heap.size w' fc fj cv jv (actR p x).1 := by
  have HP := Lib.hid h
  obtain ⟨k, ⟨lv, st⟩, xa, xb, xc⟩ := x
  obtain ⟨hk, hl, ha, hb, hc⟩ := hx
  have HX := Lib.hid (And.intro hl (And.intro ha (And.intro hb hc)))
  obtain ⟨a, c, b, d, rfl, h0, h1, h2⟩ := h
  clear h0 h1 h2 hk hl ha hb hc
  unfold Pl.val at HP ⊢
  unfold Ent.val
  cases hq : entR ⟨k, ⟨lv, st⟩, xa, xb, xc⟩
  · rw [actR_form hq]
    have HQ := Lib.hid hq
    clear hq
    go_enter Tryz.func45, Tryz.ntmps45
    go_wp2_with fail
    refine (specEntryRight_any _ _ _ _ _ _ _).mono ?_
    rintro e _ ⟨rfl, X, rfl⟩
    rw [HQ.out]
    (go_wp2_with fail; refine (l05IllA_any 1 _).mono ?_; rintro e _ ⟨rfl, X2, rfl⟩)
    go_wp2
    exact bodyPost_ret (v := .agg #[.slice none 0 0, .slice none 0 0, (.int .i64 0), (.int .i64 0), (.int .i64 1)]) (by simp [results, Tryz.results45, go_sem]) rfl ⟨_, _, [], [], rfl, (by repeat' (first | (with_reducible exact Ext.refl _) | (with_reducible refine Ext.plus ?_ _) | (with_reducible refine Ext.alloc ?_ _) | (with_reducible refine Ext.setCell ?_ ?_ _) | (with_reducible refine Ext.drew ?_) | (with_reducible exact Nat.le_refl _) | (dsimp only; omega))), OwnP.zero _ _ _⟩
  · by_cases h1 : k = 1
    · rw [actR_sub hq h1]
      subst h1
      have HQ := Lib.hid hq
      clear hq
      go_enter Tryz.func45, Tryz.ntmps45
      go_wp2_with fail
      refine (specEntryRight_any _ _ _ _ _ _ _).mono ?_
      rintro e _ ⟨rfl, X, rfl⟩
      rw [HQ.out]
      go_wp2_with fail
      refine (specSubmit_any p _ ⟨lv, st⟩ xa xb xc _ (HP.out.ext (by repeat (first | exact Ext.refl _ | apply Ext.plus | apply Ext.alloc | apply Ext.drew))) hf HX.out.1 HX.out.2.1 HX.out.2.2.1 HX.out.2.2.2).mono ?_
      rintro e _ ⟨cv, jv, fc, fj, rfl, ⟨Y, rfl⟩, hO⟩
      obtain ⟨ac, cc, rfl⟩ := hO.1.shape
      obtain ⟨aj, cj, rfl⟩ := hO.2.1.shape
      have HO := Lib.hid hO
      clear hO
      unfold poV
      go_wp2
      exact bodyPost_ret (v := .agg #[.slice ac (subR p ⟨lv, st⟩ xa xb xc).1.clear.length cc, .slice aj (subR p ⟨lv, st⟩ xa xb xc).1.jobs.length cj, (.int .i64 (subR p ⟨lv, st⟩ xa xb xc).1.now), (.int .i64 (subR p ⟨lv, st⟩ xa xb xc).2.1), (.int .i64 (subR p ⟨lv, st⟩ xa xb xc).2.2)]) (by simp [results, Tryz.results45, go_sem]) rfl ⟨_, _, fc, fj, rfl, (by repeat' (first | (with_reducible exact Ext.refl _) | (with_reducible refine Ext.plus ?_ _) | (with_reducible refine Ext.alloc ?_ _) | (with_reducible refine Ext.setCell ?_ ?_ _) | (with_reducible refine Ext.drew ?_) | (with_reducible exact Nat.le_refl _) | (dsimp only; omega))), (HO.out.swap (Nat.le_refl _) (by simp)).mono (by simp; try omega)⟩
    · by_cases h2 : k = 2
      · rw [actR_ch hq h1 h2]
        subst h2
        have HQ := Lib.hid hq
        clear hq h1
        go_enter Tryz.func45, Tryz.ntmps45
        go_wp2_with fail
        refine (specEntryRight_any _ _ _ _ _ _ _).mono ?_
        rintro e _ ⟨rfl, X, rfl⟩
        rw [HQ.out]
        go_wp2_with fail
        refine (specChange_any p _ ⟨lv, st⟩ xa xb _ (HP.out.ext (by repeat (first | exact Ext.refl _ | apply Ext.plus | apply Ext.alloc | apply Ext.drew))) hf).mono ?_
        rintro e _ ⟨cv, jv, fc, fj, rfl, ⟨Y, rfl⟩, hO⟩
        obtain ⟨ac, cc, rfl⟩ := hO.1.shape
        obtain ⟨aj, cj, rfl⟩ := hO.2.1.shape
        have HO := Lib.hid hO
        clear hO
        unfold poV
        go_wp2
        exact bodyPost_ret (v := .agg #[.slice ac (chR p ⟨lv, st⟩ xa xb).1.clear.length cc, .slice aj (chR p ⟨lv, st⟩ xa xb).1.jobs.length cj, (.int .i64 (chR p ⟨lv, st⟩ xa xb).1.now), (.int .i64 (chR p ⟨lv, st⟩ xa xb).2.1), (.int .i64 (chR p ⟨lv, st⟩ xa xb).2.2)]) (by simp [results, Tryz.results45, go_sem]) rfl ⟨_, _, fc, fj, rfl, (by repeat' (first | (with_reducible exact Ext.refl _) | (with_reducible refine Ext.plus ?_ _) | (with_reducible refine Ext.alloc ?_ _) | (with_reducible refine Ext.setCell ?_ ?_ _) | (with_reducible refine Ext.drew ?_) | (with_reducible exact Nat.le_refl _) | (dsimp only; omega))), (HO.out.swap (Nat.le_refl _) (by simp)).mono (by simp; try omega)⟩
      · rw [actR_adv hq h1 h2]
        have b1 : (k == 1) = false := by simp [h1]
        have b2 : (k == 2) = false := by simp [h2]
        have HQ := Lib.hid hq
        clear hq h1 h2
        go_enter Tryz.func45, Tryz.ntmps45
        go_wp2_with fail
        refine (specEntryRight_any _ _ _ _ _ _ _).mono ?_
        rintro e _ ⟨rfl, X, rfl⟩
        rw [HQ.out]
        go_wp2_with fail
        refine (specAdvance_any p _ _ (HP.out.ext (by repeat (first | exact Ext.refl _ | apply Ext.plus | apply Ext.alloc | apply Ext.drew))) hf).mono ?_
        rintro e _ ⟨cv, jv, fc, fj, rfl, ⟨Y, rfl⟩, hO⟩
        obtain ⟨ac, cc, rfl⟩ := hO.1.shape
        obtain ⟨aj, cj, rfl⟩ := hO.2.1.shape
        have HO := Lib.hid hO
        clear hO
        unfold poV
        go_wp2
        exact bodyPost_ret (v := .agg #[.slice ac (advR p).1.clear.length cc, .slice aj (advR p).1.jobs.length cj, (.int .i64 (advR p).1.now), (.int .i64 (advR p).2.1), (.int .i64 (advR p).2.2)]) (by simp [results, Tryz.results45, go_sem]) rfl ⟨_, _, fc, fj, rfl, (by repeat' (first | (with_reducible exact Ext.refl _) | (with_reducible refine Ext.plus ?_ _) | (with_reducible refine Ext.alloc ?_ _) | (with_reducible refine Ext.setCell ?_ ?_ _) | (with_reducible refine Ext.drew ?_) | (with_reducible exact Nat.le_refl _) | (dsimp only; omega))), (HO.out.swap (Nat.le_refl _) (by simp)).mono (by simp; try omega)⟩
end Go.Proofs.YtagdkpcdagknlaaGreat
