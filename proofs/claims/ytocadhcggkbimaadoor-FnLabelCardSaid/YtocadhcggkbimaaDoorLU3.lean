/- The draw of a text of a label. -/
import Derived.Test.YtocadhcggkbimaaDoorLU2
set_option maxRecDepth 100000
set_option linter.unusedVariables false
namespace Go.Proofs.YtocadhcggkbimaaDoor
open Go.RowKit Go.Fin1
theorem lblN_len (x : Lab) : ∀ k, (lblN x k).length ≤ 2 + k
  | 0 => by simp [lblN]
  | k + 1 => by have := lblN_len x k; rw [lblN]; split <;> simp <;> omega
theorem lblT_len (x : Lab) : (lblT x).length ≤ 5 := by
  cases h : labR x
  · rw [lblT_no h]; simp
  · rw [lblT_yes h]; exact lblN_len x 3
theorem lblT_size (x : Lab) : (⟨(lblT x).toArray⟩ : ByteArray).size ≤ 5 := by
  have := lblT_len x
  simpa [ByteArray.size] using this
set_option maxHeartbeats 3200000 in
theorem drawLabelRead_any (v : Value) (l : List Int) (w : World) (h : SlR w 1 rU8 v l) (hl : l.length ≤ 1048576) :
    Calls Tryd.prog 10 #[v] w fun e w' => ∃ s : ByteArray, e = .returned (.string s) ∧ s.size ≤ 100 ∧ Ext w w' := by
  have HS := Lib.hid h
  have H4 : Hid (I64 4) := Lib.hid (by unfold I64; omega)
  clear h
  go_enter Tryd.func10, Tryd.ntmps10
  go_wp2_with fail
  refine (l01Source_any v l _ (HS.out.ext rU8_stable (by repeat (first | exact Ext.refl _ | apply Ext.plus | apply Ext.alloc | apply Ext.drew))) hl).mono ?_
  rintro e w2 ⟨g, rfl, hg, hx, hs⟩
  have HG := Lib.hid hg
  have HX := Lib.hid hx
  have HA := Lib.hid hs
  clear hx hs hg
  go_wp2_with fail
  refine (srcLabel_any g _ v l HA.out).mono ?_
  rintro e w3 ⟨x, rfl, hxo, hc, hs⟩
  have HC := Lib.hid hc
  have HA3 := Lib.hid hs
  clear hc hs hxo HA
  go_wp2_with fail
  refine (specLabelText_any x _).mono ?_
  rintro e _ ⟨rfl, X, rfl⟩
  obtain ⟨t, htt, hts⟩ : ∃ t : ByteArray, (⟨(lblT x).toArray⟩ : ByteArray) = t ∧ t.size ≤ 5 := ⟨_, rfl, lblT_size x⟩
  rw [htt]
  clear htt
  go_wp2_with fail
  refine (srcN' g 4 _ v l (HA3.out.ext (by repeat (first | exact Ext.refl _ | apply Ext.plus | apply Ext.alloc | apply Ext.drew))) H4.out).mono ?_
  rintro e w4 ⟨k, rfl, hb, hc, hs⟩
  have HC4 := Lib.hid ((HC.out.trans (((Ext.refl w3).plus X).chg [g])).trans hc)
  have HA4 := Lib.hid hs
  clear hc hs hb HC HA3
  have HTS := Lib.hid hts
  by_cases k0 : k = 0
  · subst k0
    go_wp2_with fail
    refine (srcSpoil_any g t _ v l HA4.out (by have := HTS.out; omega)).mono ?_
    rintro e w5 ⟨s, rfl, hss, hc, hs⟩
    have HC5 := Lib.hid (HC4.out.trans hc)
    have HSS := Lib.hid hss
    clear hc hs hss
    go_wp2
    go_ret
    exact ⟨s, rfl, by have := HSS.out; have := HTS.out; omega, HC5.out.ext HX.out (by simpa using HG.out)⟩
  · have kb0 : ((k : Int) == 0) = false := by simp; omega
    by_cases k1 : k = 1
    · subst k1
      go_wp2_with fail
      have hne : w4.heap.size ≠ g := by have := HA4.out.old; unfold World.old at this; omega
      refine (srcPick6_any g _ _ _ _ _ _ w4 _ w4.heap.size v l (HA4.out.ext ((Ext.refl w4).alloc _)) (Blk.new rfl) hne ?_).mono ?_
      · intro y hy
        simp only [List.mem_cons, List.not_mem_nil, or_false] at hy
        rcases hy with rfl | rfl | rfl | rfl | rfl | rfl <;> decide
      rintro e w5 ⟨s, rfl, hss, hc, hs⟩
      have HC5 := Lib.hid ((HC4.out.trans (((Ext.refl w4).alloc _).chg [g])).trans hc)
      have HSS := Lib.hid hss
      clear hc hs hss
      go_wp2
      go_ret
      exact ⟨s, rfl, HSS.out, HC5.out.ext HX.out (by simpa using HG.out)⟩
    · have kb1 : ((k : Int) == 1) = false := by simp; omega
      go_wp2
      go_ret
      exact ⟨t, rfl, by have := HTS.out; omega, HC4.out.ext HX.out (by simpa using HG.out)⟩
end Go.Proofs.YtocadhcggkbimaaDoor
