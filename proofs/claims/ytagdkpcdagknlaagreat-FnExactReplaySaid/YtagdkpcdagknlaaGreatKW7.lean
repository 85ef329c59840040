/- The laws of GetNum and GetText. -/
import Derived.Test.YtagdkpcdagknlaaGreatKW6
import Derived.Test.YtagdkpcdagknlaaGreatKBG
import Derived.Test.YtagdkpcdagknlaaGreatKBA
set_option maxRecDepth 100000
namespace Go.Proofs.YtagdkpcdagknlaaGreat
open Go.RowKit Go.Fin1

theorem gn_bd {s : ByteArray} {a : Nat} : ∀ (f k : Nat) (u : Int), (gn s a f k u).c = 0 → 0 ≤ (gn s a f k u).at_ ∧ (gn s a f k u).at_ ≤ s.size
  | 0, _, _, h => by simp [gn] at h
  | f + 1, k, u, h => by
    unfold gn at h ⊢
    split at h
    · simp at h
    · rename_i h1
      rw [if_neg h1]
      split at h
      · simp at h
      · rename_i h2
        rw [if_neg h2]
        split at h
        · rename_i h3
          rw [if_pos h3]
          exact gn_bd f (k + 1) _ h
        · rename_i h3
          rw [if_neg h3]
          split at h
          · simp at h
          · rename_i h4
            rw [if_neg h4]
            exact ⟨Int.natCast_nonneg _, by show ((a + k + 1 : Nat) : Int) ≤ _; omega⟩
theorem getNum_bd {s : ByteArray} {n : Int} (h : (getNum s n).c = 0) : s.size ≤ 8000 ∧ 0 ≤ (getNum s n).at_ ∧ (getNum s n).at_ ≤ s.size := by
  unfold getNum at h ⊢
  split at h
  · simp at h
  · rename_i h1
    rw [if_neg h1]
    split at h
    · simp at h
    · rename_i h2
      rw [if_neg h2]
      split at h
      · simp at h
      · rename_i h3
        rw [if_neg h3]
        unfold getNumG at h ⊢
        exact ⟨by omega, gn_bd 10 0 0 h⟩

/-- What GetText answers. -/
structure TextO where
  t : ByteArray
  at_ : Int
  c : Int
abbrev textV (T : TextO) : Value := .agg #[.string T.t, (.int .i64 T.at_), (.int .i64 T.c)]
@[irreducible] def getText (s : ByteArray) (n : Int) : TextO :=
  if (getNum s n).c ≠ 0 then ⟨⟨#[]⟩, 0, (getNum s n).c⟩
  else if (getNum s n).n < 0 ∨ 8000 < (getNum s n).n then ⟨⟨#[]⟩, 0, 3⟩
  else if s.size < (getNum s n).at_ + (getNum s n).n then ⟨⟨#[]⟩, 0, 4⟩
  else ⟨s.extract (getNum s n).at_.toNat ((getNum s n).at_.toNat + (getNum s n).n.toNat), (getNum s n).at_ + (getNum s n).n, 0⟩

set_option maxHeartbeats 1600000 in
theorem implGetText_any (s : ByteArray) (n : Int) (w : World) (hs : s.size ≤ 1048576) :
    Calls Tryz.prog 106 #[.string s, (.int .i64 n)] w fun e w' => e = .returned (textV (getText s n)) ∧ Ext w w' := by
  have hi : ∀ w, Calls Tryz.prog 158 #[.string s, (.int .i64 n)] w fun e w' => e = .returned (numV (getNum s n)) ∧ Ext w w' := fun w => implGetNum_any s n w hs
  have hb := getNum_bd (s := s) (n := n)
  unfold getText
  generalize getNum s n = G at hi hb ⊢
  obtain ⟨gn, ga, gc⟩ := G
  simp only [numV] at hi hb ⊢
  have Hi := Lib.hid hi
  clear hi
  by_cases hc : gc = 0
  · obtain ⟨h8, hb0, hb1⟩ := hb hc
    subst hc
    clear hb
    simp only [ne_eq, not_true, if_false]
    obtain ⟨a, rfl⟩ : ∃ a : Nat, ga = a := ⟨ga.toNat, by omega⟩
    by_cases hr : gn < 0 ∨ 8000 < gn
    · rw [if_pos hr]
      have hin : isIn gn 0 8000 = false := by cases e : isIn gn 0 8000; rfl; rw [isIn_iff] at e; omega
      go_enter Tryz.func106, Tryz.ntmps106
      go_wp2_with (first | (go_at_call 158; refine (Hi.out _).mono ?_; rintro e _ ⟨rfl, X, rfl⟩) | (go_at_call 116; refine (within_any _ _ _ _).mono ?_; rintro e _ ⟨rfl, rfl⟩))
      exact bodyPost_ret (v := textV ⟨⟨#[]⟩, 0, 3⟩) (by simp [results, Tryz.results106, go_sem]) rfl ⟨rfl, (by repeat' (first | exact Ext.refl _ | exact Nat.le_refl _ | (dsimp only; omega) | apply Ext.setCell | apply Ext.plus | apply Ext.alloc | apply Ext.drew))⟩
    rw [if_neg hr]
    have hin : isIn gn 0 8000 = true := isIn_iff.2 (by omega)
    obtain ⟨g, rfl⟩ : ∃ g : Nat, gn = g := ⟨gn.toNat, by omega⟩
    by_cases hl : (s.size : Int) < (a : Int) + g
    · rw [if_pos hl]
      go_enter Tryz.func106, Tryz.ntmps106
      go_wp2_with (first | (go_at_call 158; refine (Hi.out _).mono ?_; rintro e _ ⟨rfl, X, rfl⟩) | (go_at_call 116; refine (within_any _ _ _ _).mono ?_; rintro e _ ⟨rfl, rfl⟩))
      exact bodyPost_ret (v := textV ⟨⟨#[]⟩, 0, 4⟩) (by simp [results, Tryz.results106, go_sem]) rfl ⟨rfl, (by repeat' (first | exact Ext.refl _ | exact Nat.le_refl _ | (dsimp only; omega) | apply Ext.setCell | apply Ext.plus | apply Ext.alloc | apply Ext.drew))⟩
    rw [if_neg hl]
    simp only [Int.toNat_natCast]
    go_enter Tryz.func106, Tryz.ntmps106
    go_upto_region 8 with (first | (go_at_call 158; refine (Hi.out _).mono ?_; rintro e _ ⟨rfl, X, rfl⟩) | (go_at_call 116; refine (within_any _ _ _ _).mono ?_; rintro e _ ⟨rfl, rfl⟩))
    (refine wp_region_x 15 (by kernel_rfl) (by kernel_rfl) (by kernel_rfl) ?_; (iterate 15 (apply XReg.step; (case h => (intro w' hw'; obtain ⟨X', rfl⟩ := hw'; go_wp2_with (fail); exact ⟨rfl, xt⟩)); (case hv => kernel_rfl))); refine XReg.done1 (fun X => ?_))
    go_wp2
    exact bodyPost_ret (v := textV ⟨s.extract a (a + g), a + g, 0⟩) (by simp [results, Tryz.results106, go_sem]) rfl ⟨rfl, (by repeat' (first | exact Ext.refl _ | exact Nat.le_refl _ | (dsimp only; omega) | apply Ext.setCell | apply Ext.plus | apply Ext.alloc | apply Ext.drew))⟩
  · rw [if_pos hc]
    clear hb
    go_enter Tryz.func106, Tryz.ntmps106
    go_wp2_with (first | (go_at_call 158; refine (Hi.out _).mono ?_; rintro e _ ⟨rfl, X, rfl⟩) | (go_at_call 116; refine (within_any _ _ _ _).mono ?_; rintro e _ ⟨rfl, rfl⟩))
    exact bodyPost_ret (v := textV ⟨⟨#[]⟩, 0, gc⟩) (by simp [results, Tryz.results106, go_sem]) rfl ⟨rfl, (by repeat' (first | exact Ext.refl _ | exact Nat.le_refl _ | (dsimp only; omega) | apply Ext.setCell | apply Ext.plus | apply Ext.alloc | apply Ext.drew))⟩

set_option maxHeartbeats 1600000 in
theorem specGetText_any (s : ByteArray) (n : Int) (w : World) (hs : s.size ≤ 1048576) (hn : I64 n) :
    Calls Tryz.prog 107 #[.string s, (.int .i64 n)] w fun e w' => e = .returned (textV (getText s n)) ∧ Ext w w' := by
  have hi : ∀ w, Calls Tryz.prog 115 #[.string s, (.int .i64 n)] w fun e w' => e = .returned (numV (getNum s n)) ∧ Ext w w' := fun w => specGetNum_any s n w hs hn
  have hb := getNum_bd (s := s) (n := n)
  unfold getText
  generalize getNum s n = G at hi hb ⊢
  obtain ⟨gn, ga, gc⟩ := G
  simp only [numV] at hi hb ⊢
  have Hi := Lib.hid hi
  clear hi
  by_cases hc : gc = 0
  · obtain ⟨h8, hb0, hb1⟩ := hb hc
    subst hc
    clear hb
    simp only [ne_eq, not_true, if_false]
    obtain ⟨a, rfl⟩ : ∃ a : Nat, ga = a := ⟨ga.toNat, by omega⟩
    by_cases hr : gn < 0 ∨ 8000 < gn
    · rw [if_pos hr]
      go_enter Tryz.func107, Tryz.ntmps107
      go_wp2_with (go_at_call 115; refine (Hi.out _).mono ?_; rintro e _ ⟨rfl, X, rfl⟩)
      all_goals exact bodyPost_ret (v := textV ⟨⟨#[]⟩, 0, 3⟩) (by simp [results, Tryz.results107, go_sem]) rfl ⟨rfl, (by repeat' (first | exact Ext.refl _ | exact Nat.le_refl _ | (dsimp only; omega) | apply Ext.setCell | apply Ext.plus | apply Ext.alloc | apply Ext.drew))⟩
    rw [if_neg hr]
    obtain ⟨g, rfl⟩ : ∃ g : Nat, gn = g := ⟨gn.toNat, by omega⟩
    by_cases hl : (s.size : Int) < (a : Int) + g
    · rw [if_pos hl]
      go_enter Tryz.func107, Tryz.ntmps107
      go_wp2_with (go_at_call 115; refine (Hi.out _).mono ?_; rintro e _ ⟨rfl, X, rfl⟩)
      exact bodyPost_ret (v := textV ⟨⟨#[]⟩, 0, 4⟩) (by simp [results, Tryz.results107, go_sem]) rfl ⟨rfl, (by repeat' (first | exact Ext.refl _ | exact Nat.le_refl _ | (dsimp only; omega) | apply Ext.setCell | apply Ext.plus | apply Ext.alloc | apply Ext.drew))⟩
    rw [if_neg hl]
    simp only [Int.toNat_natCast]
    go_enter Tryz.func107, Tryz.ntmps107
    go_upto_region 8 with (go_at_call 115; refine (Hi.out _).mono ?_; rintro e _ ⟨rfl, X, rfl⟩)
    (refine wp_region_x 15 (by kernel_rfl) (by kernel_rfl) (by kernel_rfl) ?_; (iterate 15 (apply XReg.step; (case h => (intro w' hw'; obtain ⟨X', rfl⟩ := hw'; go_wp2_with (fail); exact ⟨rfl, xt⟩)); (case hv => kernel_rfl))); refine XReg.done1 (fun X => ?_))
    go_wp2
    exact bodyPost_ret (v := textV ⟨s.extract a (a + g), a + g, 0⟩) (by simp [results, Tryz.results107, go_sem]) rfl ⟨rfl, (by repeat' (first | exact Ext.refl _ | exact Nat.le_refl _ | (dsimp only; omega) | apply Ext.setCell | apply Ext.plus | apply Ext.alloc | apply Ext.drew))⟩
  · rw [if_pos hc]
    clear hb
    go_enter Tryz.func107, Tryz.ntmps107
    go_wp2_with (go_at_call 115; refine (Hi.out _).mono ?_; rintro e _ ⟨rfl, X, rfl⟩)
    exact bodyPost_ret (v := textV ⟨⟨#[]⟩, 0, gc⟩) (by simp [results, Tryz.results107, go_sem]) rfl ⟨rfl, (by repeat' (first | exact Ext.refl _ | exact Nat.le_refl _ | (dsimp only; omega) | apply Ext.setCell | apply Ext.plus | apply Ext.alloc | apply Ext.drew))⟩

