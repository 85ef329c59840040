/- The draws of lists of spans. -/
import Derived.Test.YtkekfncgpbileaaT5
set_option maxRecDepth 100000
set_option linter.unusedVariables false
namespace Go.Proofs.Ytkekfncgpbileaa
open Go.RowKit Go.Fin1


set_option maxHeartbeats 3200000 in
theorem srcSpans_any (g : Nat) (w : World) (cv : Value) (l : List Int) (h : SrcA w g cv l) :
    Calls Try.prog 85 #[.pointer (some ⟨g, 0, none⟩)] w fun e w' => ∃ v' xs, e = .returned v' ∧ Chg [g] w w' ∧ SrcA w' g cv l ∧ Row w.heap.size w' 45 2 Spn.cells v' xs ∧ (∀ y ∈ xs, y.ok) ∧ xs.length ≤ 1048577 := by
  have HS := Lib.hid h
  have HG := Lib.hid h.old
  clear h
  have H6 : Hid (I64 6) := Lib.hid (by unfold I64; omega)
  have H2 : Hid (I64 2) := Lib.hid (by unfold I64; omega)
  have H15 : Hid (I64 15) := Lib.hid (by unfold I64; omega)
  have H25 : Hid (I64 25) := Lib.hid (by unfold I64; omega)
  go_enter Try.func85, Try.ntmps85
  go_wp2_with fail
  refine (srcN' g 6 _ cv l (HS.out.ext (by repeat (first | exact Ext.refl _ | apply Ext.plus | apply Ext.alloc | apply Ext.drew))) H6.out).mono ?_
  rintro e w2 ⟨n, rfl, hb, hc, hs⟩
  have HC := Lib.hid (((Ext.refl w).alloc _ |>.chg [g]).trans hc)
  have HA := Lib.hid hs
  have HR := Lib.hid ((Row.made w 45 2 Spn.cells).chg hc (fun b hb => by have := HG.out; simp [blkL] at hb; simp; omega))
  have hn : n ≤ 6 := by omega
  clear hc hs hb
  go_wp2
  go_loopw [4, 3] (fun i o wr => ∃ k : Nat, ∃ xs : List Spn, k ≤ 6 ∧ i = .int .i64 k ∧ Hid (Chg [g] w wr) ∧ Hid (SrcA wr g cv l) ∧ Hid (Row w.heap.size wr 45 2 Spn.cells o xs) ∧ Hid (∀ y ∈ xs, y.ok) ∧ Hid (xs.length ≤ 1048576)) (fun i _ _ => (intOf i).toNat)
  case atStart => exact ⟨n, [], hn, rfl, HC, HA, HR, Lib.hid (fun y hy => by cases hy), Lib.hid (by simp)⟩
  case round =>
    clear HC HA HR hn
    obtain ⟨k, xs, hk, rfl, HC, HA, HR, HK, HL⟩ := hrel
    obtain ⟨a1, c1, rfl⟩ := HR.out.shape
    by_cases hlt : 0 < k
    · have hb1 : decide ((k : Int) > 0) = true := decide_eq_true (by omega)
      go_wp2_with fail
      refine (srcSpan_any g _ cv l HA.out).mono ?_
      rintro e w3 ⟨x, rfl, hxo, hc, hs⟩
      have HC3 := Lib.hid (HC.out.trans hc)
      have HA3 := Lib.hid hs
      have HR3 := Lib.hid (row_spn (HR.out.chg hc (fun b hb => by have := (HR.out.blk b hb).1; have := HG.out; simp; omega)) HK.out)
      have HXO := Lib.hid hxo
      clear hc hs hxo
      go_wp2_with fail
      refine (specSpanPut_any _ xs x _ HR3.out).mono ?_
      rintro e w4 ⟨v4, rfl, hx4, hR4⟩
      have HC4 := Lib.hid (HC3.out.trans (hx4.chg _))
      have HA4 := Lib.hid (HA3.out.ext hx4)
      have HR4 := Lib.hid (hR4.mono HC3.out.size)
      clear hx4 hR4
      go_wp2
      exact ⟨⟨k - 1, _, by omega, by go_num, HC4, HA4, HR4, Lib.hid (putL_ok HK.out HXO.out), Lib.hid (putL_len _ _)⟩, by simp [intOf]; omega⟩
    · have hb1 : decide ((k : Int) > 0) = false := decide_eq_false (by omega)
      go_wp2_with fail
      refine (srcOne_any g 15 _ cv l HA.out H15.out).mono ?_
      rintro e w3 ⟨b, rfl, hc, hs⟩
      have HC3 := Lib.hid (HC.out.trans hc)
      have HA3 := Lib.hid hs
      have HR3 := Lib.hid (HR.out.chg hc (fun b hb => by have := (HR.out.blk b hb).1; have := HG.out; simp; omega))
      clear hc hs HC HA HR
      cases b
      · have HL3 := Lib.hid (Nat.le_succ_of_le HL.out)
        go_wp2_with fail
        refine (srcOne_any g 25 _ cv l HA3.out H25.out).mono ?_
        rintro e w5 ⟨b2, rfl, hc, hs⟩
        have HC5 := Lib.hid (HC3.out.trans hc)
        have HA5 := Lib.hid hs
        have HR5 := Lib.hid (HR3.out.chg hc (fun b hb => by have := (HR3.out.blk b hb).1; have := HG.out; simp; omega))
        clear hc hs
        cases b2
        · go_wp2
          go_ret
          exact ⟨_, xs, rfl, HC5.out, HA5.out, HR5.out, HK.out, HL3.out⟩
        · go_wp2
          clear HR5
          go_loopw [5, 3] (fun i o wr => ∃ k : Nat, ∃ xs : List Spn, k ≤ 22 ∧ i = .int .i64 k ∧ Hid (Chg [g] w wr) ∧ Hid (SrcA wr g cv l) ∧ Hid (Row w.heap.size wr 45 2 Spn.cells o xs) ∧ Hid (∀ y ∈ xs, y.ok) ∧ Hid (xs.length ≤ k)) (fun i _ _ => 22 - (intOf i).toNat)
          case atStart => exact ⟨0, [], by omega, rfl, HC5, HA5, Lib.hid (Row.nil _ _ _ _ _), Lib.hid (fun y hy => by cases hy), Lib.hid (Nat.le_refl _)⟩
          case round =>
            obtain ⟨k, xs, hk, rfl, HC6, HA6, HR6, HK6, HL6⟩ := hrel
            obtain ⟨a6, c6, rfl⟩ := HR6.out.shape
            go_wp2_with fail
            refine (srcN' g 2 _ cv l HA6.out H2.out).mono ?_
            rintro e w7 ⟨q, rfl, hb, hc, hs⟩
            have hq : q < 2 := by omega
            have HC7 := Lib.hid (HC6.out.trans hc)
            have HA7 := Lib.hid hs
            have HR7 := Lib.hid (HR6.out.chg hc (fun b hb => by have := (HR6.out.blk b hb).1; have := HG.out; simp; omega))
            clear hc hs hb HC6 HA6 HR6
            have hw1 : wrap64 (20 + (q : Int)) = 20 + (q : Int) := by unfold wrap64; omega
            by_cases hlt : k < 20 + q
            · have hb1 : decide ((k : Int) < 20 + (q : Int)) = true := decide_eq_true (by omega)
              have hw2 : wrap64 (2 * (k : Int)) = 2 * (k : Int) := by unfold wrap64; omega
              have hw3 : wrap64 (2 * (k : Int) + 1) = 2 * (k : Int) + 1 := by unfold wrap64; omega
              have hxl := HL6.out
              go_wp2_with (at_builtin; go_must (refine Row.appN (f := Spn.cells) el_Span rfl _ _ rfl w.heap.size HC7.out.size _ xs rfl HR7.out ⟨2 * (k : Int), 2 * (k : Int) + 1⟩ rfl _ rfl rfl (fun _ => rfl) ?_ ?_ ?_ ?_); (simp [Value.oneCell']); (unfold maxLen; omega); omega; intro v' w8 hR8 hc8; have HR8 := Lib.hid hR8; have HC8 := Lib.hid hc8; clear hR8 hc8)
              exact ⟨⟨k + 1, _, by omega, by go_num, Lib.hid (HC7.out.past HC8.out (fun b hb => (HR7.out.blk b hb).1)), Lib.hid (HA7.out.chg HS.out HC8.out (fun b hb => (HR7.out.blk b hb).1)), HR8, Lib.hid (fun y hy => by
                rcases List.mem_append.1 hy with hy | hy
                · exact HK6.out y hy
                · obtain rfl := List.mem_singleton.1 hy
                  exact ⟨show I64 (2 * (k : Int)) by unfold I64; omega, show I64 (2 * (k : Int) + 1) by unfold I64; omega⟩), Lib.hid (by simp; omega)⟩, by simp [intOf]; omega⟩
            · have hb1 : decide ((k : Int) < 20 + (q : Int)) = false := decide_eq_false (by omega)
              go_wp2
              go_ret
              exact ⟨_, xs, rfl, HC7.out, HA7.out, HR7.out, HK6.out, by have := HL6.out; omega⟩
      · go_wp2_with fail
        refine (srcSpan_any g _ cv l HA3.out).mono ?_
        rintro e w4 ⟨x, rfl, hxo, hc, hs⟩
        have HC4 := Lib.hid (HC3.out.trans hc)
        have HA4 := Lib.hid hs
        have HR4 := Lib.hid (HR3.out.chg hc (fun b hb => by have := (HR3.out.blk b hb).1; have := HG.out; simp; omega))
        have HK4 : Hid (∀ y ∈ xs ++ [x], y.ok) := Lib.hid (fun y hy => by
          rcases List.mem_append.1 hy with hy | hy
          · exact HK.out y hy
          · obtain rfl := List.mem_singleton.1 hy
            exact hxo)
        have HL4 : Hid ((xs ++ [x]).length ≤ 1048577) := Lib.hid (by have := HL.out; simp; omega)
        have hxl := HL.out
        clear hc hs hxo
        go_upto_region 8 with (at_builtin; go_must (refine Row.appN (f := Spn.cells) el_Span rfl _ _ rfl w.heap.size HC4.out.size _ xs rfl HR4.out x rfl _ rfl rfl (fun _ => rfl) ?_ ?_ ?_ ?_); (simp [Value.oneCell']); (unfold maxLen; omega); omega; intro v' w8 hR8 hc8; have HR8 := Lib.hid hR8; have HC8 := Lib.hid hc8; clear hR8 hc8)
        have HC9 := Lib.hid (HC4.out.past HC8.out (fun b hb => (HR4.out.blk b hb).1))
        have HA9 := Lib.hid (HA4.out.chg HS.out HC8.out (fun b hb => (HR4.out.blk b hb).1))
        clear HC8
        go_wp2_with fail
        refine (srcOne_any g 25 _ cv l HA9.out H25.out).mono ?_
        rintro e w5 ⟨b2, rfl, hc, hs⟩
        have HC5 := Lib.hid (HC9.out.trans hc)
        have HA5 := Lib.hid hs
        have HR5 := Lib.hid (HR8.out.chg hc (fun b hb => by have := (HR8.out.blk b hb).1; have := HG.out; simp; omega))
        clear hc hs
        cases b2
        · go_wp2
          go_ret
          exact ⟨_, (xs ++ [x]), rfl, HC5.out, HA5.out, HR5.out, HK4.out, HL4.out⟩
        · go_wp2
          clear HR5
          go_loopw [5, 3] (fun i o wr => ∃ k : Nat, ∃ xs : List Spn, k ≤ 22 ∧ i = .int .i64 k ∧ Hid (Chg [g] w wr) ∧ Hid (SrcA wr g cv l) ∧ Hid (Row w.heap.size wr 45 2 Spn.cells o xs) ∧ Hid (∀ y ∈ xs, y.ok) ∧ Hid (xs.length ≤ k)) (fun i _ _ => 22 - (intOf i).toNat)
          case atStart => exact ⟨0, [], by omega, rfl, HC5, HA5, Lib.hid (Row.nil _ _ _ _ _), Lib.hid (fun y hy => by cases hy), Lib.hid (Nat.le_refl _)⟩
          case round =>
            obtain ⟨k, xs, hk, rfl, HC6, HA6, HR6, HK6, HL6⟩ := hrel
            obtain ⟨a6, c6, rfl⟩ := HR6.out.shape
            go_wp2_with fail
            refine (srcN' g 2 _ cv l HA6.out H2.out).mono ?_
            rintro e w7 ⟨q, rfl, hb, hc, hs⟩
            have hq : q < 2 := by omega
            have HC7 := Lib.hid (HC6.out.trans hc)
            have HA7 := Lib.hid hs
            have HR7 := Lib.hid (HR6.out.chg hc (fun b hb => by have := (HR6.out.blk b hb).1; have := HG.out; simp; omega))
            clear hc hs hb HC6 HA6 HR6
            have hw1 : wrap64 (20 + (q : Int)) = 20 + (q : Int) := by unfold wrap64; omega
            by_cases hlt : k < 20 + q
            · have hb1 : decide ((k : Int) < 20 + (q : Int)) = true := decide_eq_true (by omega)
              have hw2 : wrap64 (2 * (k : Int)) = 2 * (k : Int) := by unfold wrap64; omega
              have hw3 : wrap64 (2 * (k : Int) + 1) = 2 * (k : Int) + 1 := by unfold wrap64; omega
              have hxl := HL6.out
              go_wp2_with (at_builtin; go_must (refine Row.appN (f := Spn.cells) el_Span rfl _ _ rfl w.heap.size HC7.out.size _ xs rfl HR7.out ⟨2 * (k : Int), 2 * (k : Int) + 1⟩ rfl _ rfl rfl (fun _ => rfl) ?_ ?_ ?_ ?_); (simp [Value.oneCell']); (unfold maxLen; omega); omega; intro v' w8 hR8 hc8; have HR8 := Lib.hid hR8; have HC8 := Lib.hid hc8; clear hR8 hc8)
              exact ⟨⟨k + 1, _, by omega, by go_num, Lib.hid (HC7.out.past HC8.out (fun b hb => (HR7.out.blk b hb).1)), Lib.hid (HA7.out.chg HS.out HC8.out (fun b hb => (HR7.out.blk b hb).1)), HR8, Lib.hid (fun y hy => by
                rcases List.mem_append.1 hy with hy | hy
                · exact HK6.out y hy
                · obtain rfl := List.mem_singleton.1 hy
                  exact ⟨show I64 (2 * (k : Int)) by unfold I64; omega, show I64 (2 * (k : Int) + 1) by unfold I64; omega⟩), Lib.hid (by simp; omega)⟩, by simp [intOf]; omega⟩
            · have hb1 : decide ((k : Int) < 20 + (q : Int)) = false := decide_eq_false (by omega)
              go_wp2
              go_ret
              exact ⟨_, xs, rfl, HC7.out, HA7.out, HR7.out, HK6.out, by have := HL6.out; omega⟩
end Go.Proofs.Ytkekfncgpbileaa
