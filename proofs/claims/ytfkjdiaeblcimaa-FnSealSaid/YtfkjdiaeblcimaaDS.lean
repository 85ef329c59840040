/- FnSeal: a drawn text is got back out of what it was closed into; with one byte turned it is refused; a CRC goes on from text to text. -/
import Derived.Test.YtfkjdiaeblcimaaDN
import Derived.Test.YtfkjdiaeblcimaaX1
import Derived.Test.YtfkjdiaeblcimaaW9
import Derived.Laws.BitsAllLaws
import Derived.Laws.IdiomStrings
set_option maxRecDepth 100000
set_option linter.unusedVariables false
namespace Go.Proofs.Ytfkjdiaeblcimaa
open Go.ChangeShapes Go.WideShapes Go.ChangeAt Go.RowKit Go.Fin1

/-- The bytes bs lie in block g. -/
structure ByB (W : World) (g : Nat) (bs : List UInt8) : Prop where
  old : W.old g
  cell : ∀ j (hj : j < bs.length), W.cell? ⟨g, j, none⟩ = some (.int .u8 (bs[j].toNat : Int))
  fz : ∀ j, j < bs.length → W.frozen? ⟨g, j, none⟩ = false
theorem ByB.ext {W W' : World} {g : Nat} {bs : List UInt8} (h : ByB W g bs) (hx : Ext W W') : ByB W' g bs := by
  refine ⟨by have := hx.below.size; have := h.old; unfold World.old at *; omega, fun j hj => hx.cell (h.cell j hj), fun j hj => ?_⟩
  obtain ⟨X, rfl⟩ := hx
  rw [World.frozen?_plus _ _ _ _ h.old]; exact h.fz j hj
theorem ByB.made (w : World) (s : ByteArray) (cap : Nat) (e : TypeId) (hc : s.size ≤ cap) : ByB (w.drew.alloc (.cells (bytesRow s cap) e ((bytesRow s cap).size, (bytesRow s cap).size + 1))) w.heap.size s.data.toList := by
  have hz : s.data.toList.length = s.size := by simp
  have hsz : (bytesRow s cap).size = cap := by unfold bytesRow; simp; omega
  have hh : (w.drew.alloc (.cells (bytesRow s cap) e ((bytesRow s cap).size, (bytesRow s cap).size + 1))).heap[w.heap.size]? = some (.cells (bytesRow s cap) e ((bytesRow s cap).size, (bytesRow s cap).size + 1)) := heap_alloc_new w.drew _
  refine ⟨(Array.getElem?_eq_some_iff.1 hh).1, fun j hj => ?_, fun j hj => ?_⟩
  · have hj' : j < s.data.size := by simpa using hj
    simp only [World.cell?, hh]
    have hj2 : j < s.size := hj'
    simp [bytesRow, Array.getElem?_append, hj2]
  · simp only [World.frozen?, hh]
    simp [hsz]
    omega
theorem ByB.set {W : World} {g : Nat} {bs : List UInt8} (h : ByB W g bs) {k : Nat} (hk : k < bs.length) (x : UInt8) : ByB (W.setCell ⟨g, k, none⟩ (.int .u8 (x.toNat : Int))) g (bs.set k x) := by
  refine ⟨by rw [World.old_setCell]; exact h.old, fun j hj => ?_, fun j hj => by rw [World.frozen?_setCell]; exact h.fz j (by simpa using hj)⟩
  have hj' : j < bs.length := by simpa using hj
  by_cases e : j = k
  · subst e
    rw [World.cell?_setCell_same _ _ _ (h.cell j hj')]
    simp
  · rw [World.cell?_setCell_other _ _ _ _ (by intro h; simp at h; try exact e h.symm), h.cell j hj']
    rw [List.getElem_set_ne (Ne.symm e)]
theorem u8_turn (c : UInt8) (k : Nat) (hk : k < 255) : ∃ x : UInt8, x ≠ c ∧ bits .xor .u8 (c.toNat : Int) ((1 + k : Nat) : Int) = (x.toNat : Int) := by
  have hc := c.toNat_lt
  have hx : c.toNat ^^^ (1 + k) < 2 ^ 8 := Nat.xor_lt_two_pow (by omega) (by omega)
  refine ⟨UInt8.ofNat (c.toNat ^^^ (1 + k)), fun e => ?_, ?_⟩
  · have h2 := congrArg UInt8.toNat e
    rw [UInt8.toNat_ofNat', Nat.mod_eq_of_lt hx] at h2
    have h3 : (1 + k) ^^^ c.toNat = 0 ^^^ c.toNat := by rw [Nat.xor_comm, h2]; simp
    have := nat_xor_cancel h3
    omega
  · rw [u8_xor_nat _ _ hc (by omega), UInt8.toNat_ofNat', Nat.mod_eq_of_lt hx]

theorem unseal_bad' {t s b : ByteArray} (ht : t.size ≤ 7996) (hs : s = t ++ four (crcOf 0 t)) {i : Nat} {x : UInt8} (hi : i < s.data.toList.length) (hx : x ≠ s.data.toList[i]) (hb : b.data.toList = s.data.toList.set i x) : (unsealS b).c = 5 := by
  subst hs; exact unseal_bad ht hi hx hb
theorem crc_more_eq {t u : ByteArray} (h : t.size + u.size ≤ 8000) : crcMore (crc0 t) u = crc0 (t ++ u) := by
  have hb := crcOf_bd' t 0
  have hs : (t ++ u).size = t.size + u.size := ByteArray.size_append
  unfold crcMore crc0
  rw [if_pos (show t.size ≤ 8000 by omega), if_pos ⟨by omega, hb.1, hb.2⟩, if_pos (by omega), crcOf_more]

set_option maxHeartbeats 1600000 in
theorem fnSeal2_any (a b : Arg (List Int)) (w : World) (ha : SlR w 1 rU8 a.v a.x) (hb : SlR w 1 rU8 b.v b.x) :
    Calls Try.prog 9 #[a.v, b.v] w fun e w' => e = .returned (.bool true) ∧ Ext w w' := by
  obtain ⟨v, l⟩ := a
  obtain ⟨v2, l2⟩ := b
  change SlR w 1 rU8 v l at ha
  change SlR w 1 rU8 v2 l2 at hb
  change Calls Try.prog 9 #[v, v2] w _
  obtain ⟨ad, cap, rfl⟩ := ha.len
  obtain ⟨ad2, cap2, rfl⟩ := hb.len
  have H1 := Lib.hid ha
  have H2 := Lib.hid hb
  clear ha hb
  by_cases hl : l.length ≤ 1048576
  · by_cases hl2 : l2.length ≤ 1048576
    · go_enter Try.func9, Try.ntmps9
      go_wp2_with fail
      refine (drawSeal_any _ l _ H1.out hl).mono ?_
      rintro e w2 ⟨t, rfl, ht, hx⟩
      have HX := Lib.hid hx
      have HT := Lib.hid ht
      have hm : t.size ≤ maxLen := by unfold maxLen; omega
      have HM := Lib.hid hm
      clear hx ht hm
      by_cases h8 : t.size ≤ 7996
      · have hse : sealS t = t ++ four (crcOf 0 t) := by unfold sealS; rw [if_pos h8]
        have hsp := seal_parts t (crcOf 0 t)
        have hne : (sealS t).toList.isEmpty = false := by
          rw [hse, toList_data, List.isEmpty_eq_false_iff]
          intro h
          have h2 : (t ++ four (crcOf 0 t)).size = 0 := by
            have := congrArg List.length h
            simpa using this
          omega
        have hsz : (sealS t).size = t.size + 4 := by rw [hse]; exact hsp.1
        have HSE := Lib.hid hse
        have HSZ := Lib.hid hsz
        clear hse hsp hsz
        have HG := Lib.hid (unseal_good h8)
        have H8 := Lib.hid h8
        clear h8
        have hcv : ∀ (w : World) (s : ByteArray), (convert 9 80 (.string s)).run Try.prog w = .ok (.slice (some ⟨w.heap.size, 0, none⟩) s.size (grownCap w s.size 0 5))
            (w.drew.alloc (.cells (bytesRow s (grownCap w s.size 0 5)) 5 ((bytesRow s (grownCap w s.size 0 5)).size, (bytesRow s (grownCap w s.size 0 5)).size + 1))) := fun w s => run_bytes_of_string w _ _ _ s Try.underlying9 Try.underlying80 Try.underlying5
        obtain ⟨k, hk, hkb⟩ := lwV_nat l2 0 (sealS t).size
        obtain ⟨k2, hk2, hkb2⟩ := lwV_nat l2 1 255
        have HK := Lib.hid hk
        have HK2 := Lib.hid hk2
        clear hk hk2
        go_wp2_with fail
        refine (implSeal_any t _ HM.out).mono ?_
        rintro e _ ⟨rfl, X1, rfl⟩
        go_wp2_with fail
        refine (specSeal_any t _ HM.out).mono ?_
        rintro e _ ⟨rfl, X2, rfl⟩
        go_wp2_with fail
        refine (lwAt_any _ l2 0 _ _ ((H2.out.ext rU8_stable (HX.out.trans (by repeat (first | exact Ext.refl _ | apply Ext.plus | apply Ext.alloc | apply Ext.drew))))) hl2 (by omega)).mono ?_
        rintro e _ ⟨rfl, rfl⟩
        rw [HK.out]
        go_upto_region 10 with fail
        refine gen_world (fun W3 hW3 => ?_)
        have hW4 : W3 = ((w2.plus X1).plus X2).drew.alloc (.cells (bytesRow (sealS t) (grownCap ((w2.plus X1).plus X2) (sealS t).size 0 5)) 5 ((bytesRow (sealS t) (grownCap ((w2.plus X1).plus X2) (sealS t).size 0 5)).size, (bytesRow (sealS t) (grownCap ((w2.plus X1).plus X2) (sealS t).size 0 5)).size + 1)) := hW3
        have hB : ByB W3 (w2.heap.size + X1.n + X2.n) (sealS t).data.toList := by
          rw [hW4]
          have := ByB.made ((w2.plus X1).plus X2) (sealS t) (grownCap ((w2.plus X1).plus X2) (sealS t).size 0 5) 5 (grownCap_ge _ _ _ _)
          rw [World.size_plus, World.size_plus] at this
          exact this
        have hX3 : Ext w2 W3 := by rw [hW4]; exact ((((Ext.refl w2).plus X1).plus X2).drew).alloc _
        clear hW3 hW4
        generalize grownCap ((w2.plus X1).plus X2) (sealS t).size 0 5 = cp
        have hgb : w2.heap.size ≤ w2.heap.size + X1.n + X2.n := by omega
        generalize w2.heap.size + X1.n + X2.n = g at hB hgb ⊢
        have hkl : k < (sealS t).data.toList.length := by have := HSZ.out; simp; omega
        have hks : k < (sealS t).size := by simpa using hkl
        have hck := hB.cell k hkl
        have hfk := hB.fz k hkl
        have hog := hB.old
        have HB := Lib.hid hB
        have HX3 := Lib.hid hX3
        have HGB := Lib.hid hgb
        clear hB hX3 hgb
        have HL : Hid (∀ W, Ext w W → Calls Try.prog 59 #[.slice ad2 l2.length cap2, (.int .i64 1), (.int .i64 255)] W fun e w' => e = .returned (.int .i64 (k2 : Int)) ∧ W = w') := Lib.hid (fun W hW => by
          have := lwAt_any _ l2 1 255 W (H2.out.ext rU8_stable hW) hl2 (by omega)
          rw [HK2.out] at this
          exact this)
        have HW3 := Lib.hid (HX.out.trans HX3.out)
        clear hkb
        (refine wp_region_x 12 (by kernel_rfl) (by kernel_rfl) (by kernel_rfl) ?_; (iterate 12 (apply XReg.step; (case h => (intro w' hw'; obtain ⟨X', rfl⟩ := hw'; go_wp2_with ((go_at_call 59; refine (HL.out _ (HW3.out.trans (by repeat (first | exact Ext.refl _ | apply Ext.plus | apply Ext.alloc | apply Ext.drew)))).mono ?_; rintro e _ ⟨rfl, rfl⟩)); exact ⟨rfl, (by repeat (first | exact Ext.refl _ | apply Ext.plus | apply Ext.alloc | apply Ext.drew))⟩)); (case hv => kernel_rfl))); refine XReg.done1 (fun X => ?_))
        go_upto_region 11 with fail
        have hk255 : k2 < 255 := by omega
        obtain ⟨x, hx, hxe⟩ := u8_turn (sealS t).data.toList[k] k2 hk255
        have e : bits .xor .u8 ((sealS t).data[k].toNat : Int) (1 + (k2 : Int)) = (x.toNat : Int) := by simpa using hxe
        refine gen_world (fun W5 hW5 => ?_)
        rw [e] at hW5
        have hB5 : ByB W5 g ((sealS t).data.toList.set k x) := by rw [hW5]; exact (HB.out.set hkl x).ext ((Ext.refl _).plus _)
        have HX5 : Hid (Ext w W5) := Lib.hid (by
          have h1 : Chg [g] w2 W5 := by rw [hW5]; exact ((HX3.out.chg [g]).setCell (.inl (by simp)) _).plus _
          exact h1.ext HX.out (by have := HGB.out; have := HX.out.below.size; simp; omega))
        have hlen : ((sealS t).data.toList.set k x).length = (sealS t).size := by simp
        have hbk : ∀ X : More, (convert 80 9 (.slice (some ⟨g, 0, none⟩) (sealS t).size cp)).run Try.prog (W5.plus X) = .ok (.string ⟨((sealS t).data.toList.set k x).toArray⟩) (W5.plus X) := fun X => by
          have := run_convert_bytes_back (P := Try.prog) (W5.plus X) 80 9 5 ⟨g, 0, none⟩ cp ((sealS t).data.toList.set k x) Try.underlying80 Try.underlying5 Try.underlying9 (fun j hj => by
            rw [Addr.add_lit, Nat.zero_add]; exact (hB5.ext ((Ext.refl _).plus X)).cell j hj)
          rwa [hlen] at this
        have HBAD := Lib.hid (unseal_bad' (b := ⟨((sealS t).data.toList.set k x).toArray⟩) H8.out HSE.out hkl hx (by simp))
        have HBZ : Hid ((⟨((sealS t).data.toList.set k x).toArray⟩ : ByteArray).size ≤ 1048576) := Lib.hid (by
          have h1 : (⟨((sealS t).data.toList.set k x).toArray⟩ : ByteArray).size = (sealS t).size := by show ((sealS t).data.toList.set k x).toArray.size = _; simp
          have := HSZ.out; have := H8.out; omega)
        have HGD : Hid (unsealS (sealS t) = ⟨t, 0, 0⟩) := Lib.hid (by rw [HSE.out]; exact HG.out)
        have hfd : ∀ (w : World) (s : ByteArray) (b c : Int), (Instr.field 89 (.agg #[.string s, (.int .i64 b), (.int .i64 c)]) 2).run Try.prog w = .ok (.int .i64 c) w := fun _ _ _ _ => by kernel_rfl
        clear hW5 hB5 hlen hck hfk hog hxe e hx hcv
        generalize hbs : (⟨((sealS t).data.toList.set k x).toArray⟩ : ByteArray) = bs at hbk HBAD HBZ
        clear hbs
        go_wp2_with fail
        refine (implUnseal_any _ _ (by have := HSZ.out; have := H8.out; omega)).mono ?_
        rintro e _ ⟨rfl, Y1, rfl⟩
        rw [HGD.out]
        unfold textV
        go_wp2_with fail
        refine (implUnseal_any _ _ HBZ.out).mono ?_
        rintro e _ ⟨rfl, Y2, rfl⟩
        unfold textV
        rw [HBAD.out]
        clear hbk
        go_wp2_with fail
        refine (drawCrcMore_any _ l2 _ (H2.out.ext rU8_stable ((HX5.out.trans (by repeat (first | exact Ext.refl _ | apply Ext.plus | apply Ext.alloc | apply Ext.drew))))) hl2).mono ?_
        rintro e w7 ⟨n, u, rfl, hn, hu, hx7⟩
        have HX7 := Lib.hid (Ext.trans ((HX5.out.trans (by repeat (first | exact Ext.refl _ | apply Ext.plus | apply Ext.alloc | apply Ext.drew)))) hx7)
        have HU := Lib.hid hu
        have hw : wrap64 ((t.size : Int) + (u.size : Int)) = (t.size : Int) + (u.size : Int) := by have := HT.out; unfold wrap64; omega
        clear hn hu hx7
        by_cases h8k : t.size + u.size ≤ 8000
        · have hb : decide ((8000 : Int) < (t.size : Int) + (u.size : Int)) = false := decide_eq_false (by omega)
          have hEq := crc_more_eq h8k
          have hsum : ¬ 9223372036854775807 < t.size + u.size := by omega
          go_wp2_with (first | (go_at_call 62; refine (implCrcMore_any _ u _).mono ?_; rintro e _ ⟨rfl, rfl⟩) | (go_at_call 63; refine (specCrcMore_any _ u _).mono ?_; rintro e _ ⟨rfl, rfl⟩) | (go_at_call 64; refine (implCrc_any _ _).mono ?_; rintro e _ ⟨rfl, rfl⟩))
          go_ret
          exact ⟨rfl, HX7.out⟩
        · have hb : decide ((8000 : Int) < (t.size : Int) + (u.size : Int)) = true := decide_eq_true (by omega)
          clear h8k
          go_wp2
          go_ret
          exact ⟨rfl, HX7.out⟩
      · have hse : sealS t = ⟨#[]⟩ := by unfold sealS; rw [if_neg h8]
        have HSE := Lib.hid hse
        clear hse
        go_wp2_with fail
        refine (implSeal_any t _ HM.out).mono ?_
        rintro e _ ⟨rfl, X1, rfl⟩
        rw [HSE.out]
        go_wp2_with fail
        refine (specSeal_any t _ HM.out).mono ?_
        rintro e _ ⟨rfl, X2, rfl⟩
        rw [HSE.out]
        go_wp2_with fail
        refine (drawCrcMore_any _ l2 _ (H2.out.ext rU8_stable ((HX.out.trans (by repeat (first | exact Ext.refl _ | apply Ext.plus | apply Ext.alloc | apply Ext.drew))))) hl2).mono ?_
        rintro e w7 ⟨n, u, rfl, hn, hu, hx7⟩
        have HX7 := Lib.hid (Ext.trans ((HX.out.trans (by repeat (first | exact Ext.refl _ | apply Ext.plus | apply Ext.alloc | apply Ext.drew)))) hx7)
        have HU := Lib.hid hu
        have hw : wrap64 ((t.size : Int) + (u.size : Int)) = (t.size : Int) + (u.size : Int) := by have := HT.out; unfold wrap64; omega
        clear hn hu hx7
        by_cases h8k : t.size + u.size ≤ 8000
        · have hb : decide ((8000 : Int) < (t.size : Int) + (u.size : Int)) = false := decide_eq_false (by omega)
          have hEq := crc_more_eq h8k
          have hsum : ¬ 9223372036854775807 < t.size + u.size := by omega
          go_wp2_with (first | (go_at_call 62; refine (implCrcMore_any _ u _).mono ?_; rintro e _ ⟨rfl, rfl⟩) | (go_at_call 63; refine (specCrcMore_any _ u _).mono ?_; rintro e _ ⟨rfl, rfl⟩) | (go_at_call 64; refine (implCrc_any _ _).mono ?_; rintro e _ ⟨rfl, rfl⟩))
          go_ret
          exact ⟨rfl, HX7.out⟩
        · have hb : decide ((8000 : Int) < (t.size : Int) + (u.size : Int)) = true := decide_eq_true (by omega)
          clear h8k
          go_wp2
          go_ret
          exact ⟨rfl, HX7.out⟩
    · go_enter Try.func9, Try.ntmps9
      go_wp2
      go_ret
      exact ⟨rfl, (by repeat (first | exact Ext.refl _ | apply Ext.plus | apply Ext.alloc | apply Ext.drew))⟩
  · go_enter Try.func9, Try.ntmps9
    go_wp2
    go_ret
    exact ⟨rfl, (by repeat (first | exact Ext.refl _ | apply Ext.plus | apply Ext.alloc | apply Ext.drew))⟩
end Go.Proofs.Ytfkjdiaeblcimaa
