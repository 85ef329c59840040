/- The draws of the laws over numbers, texts and seals. -/
import Derived.Test.YtkhmdhdaldbbhaaGreatKDR2
import Derived.Test.YtkhmdhdaldbbhaaGreatKW8
set_option maxRecDepth 100000
set_option linter.unusedVariables false
namespace Go
open Go.RowKit
section
variable {P : Program} {ops : Array Oper} {rest : List Oper} {op : Oper} {a : Act} {Q : Exit → Act → World → Prop}
end
end Go
namespace Go.Proofs.YtkhmdhdaldbbhaaGreat
open Go.RowKit Go.Fin1

theorem u64_wrap_bd (x : Int) : 0 ≤ IntKind.u64.wrap x ∧ IntKind.u64.wrap x ≤ 18446744073709551615 := by
  have hw : IntKind.u64.wrap x = x % 18446744073709551616 := by simp [IntKind.wrap, IntKind.bits, IntKind.signed]
  rw [hw]; omega

theorem SrcM.set3 {w W : World} {g : Nat} {cv : Value} {k m : Int} (h : SrcM w W g cv k m) (u : Value) : SrcM w (W.setCell ⟨g, 3, none⟩ u) g cv k m :=
  ⟨by rw [World.old_setCell]; exact h.old, by rw [World.cell?_setCell_other _ _ _ _ (by simp)]; exact h.c0, by rw [World.cell?_setCell_other _ _ _ _ (by simp)]; exact h.c1, by rw [World.cell?_setCell_other _ _ _ _ (by simp)]; exact h.c2, fun j => by rw [World.frozen?_setCell]; exact h.fz j, h.chg.setCell (.inl (by simp)) _⟩
theorem SrcM.fin {w W : World} {cv : Value} {m : Int} {l : List Int} (h : SrcM w W w.heap.size cv 0 m) (h0 : 0 ≤ m) (h1 : m ≤ 18446744073709551615) (hs : SlR w 1 rU8 cv l) : Ext w W ∧ SrcA W w.heap.size cv l :=
  ⟨h.chg.ext (Ext.refl _) (by simp), SrcM.src (k := 0) h (Nat.zero_le _) h0 h1, u8s_past hs h.chg (by simp), fun hl a n c e => by
    subst e
    obtain ⟨b, off, he⟩ := slr_some hs hl
    simp at he
    subst he
    have := (u8_at hs hl).1
    unfold World.old at this
    simp; omega⟩
set_option maxHeartbeats 1600000 in
theorem l01Source_any (v : Value) (l : List Int) (w : World) (h : SlR w 1 rU8 v l) (hl : l.length ≤ 1048576) :
    Calls Tryz.prog 47 #[v] w fun e w' => ∃ g, e = .returned (.pointer (some ⟨g, 0, none⟩)) ∧ w.heap.size ≤ g ∧ Ext w w' ∧ SrcA w' g v l := by
  obtain ⟨a, cap, rfl⟩ := h.len
  have HS := Lib.hid h
  clear h
  go_enter Tryz.func47, Tryz.ntmps47
  go_wp2
  go_loopw [4] (fun i wr => ∃ k : Nat, ∃ m : Int, k ≤ l.length ∧ i = .int .i64 k ∧ 0 ≤ m ∧ m ≤ 18446744073709551615 ∧ Hid (SrcM w wr w.heap.size (.slice a l.length cap) 0 m) ∧ Hid (wr.cell? ⟨w.heap.size, 3, none⟩ = some (.int .i64 0))) (fun i _ => l.length - (intOf i).toNat)
  case atStart => exact ⟨0, 88172645463325252, Nat.zero_le _, rfl, by omega, by omega, Lib.hid ⟨by simp [World.old], by simp, by simp, by simp, fun j => by simp, (Chg.refl _ _).alloc _⟩, Lib.hid (by simp)⟩
  case round =>
    obtain ⟨k, m, hk, rfl, hm0, hm1, HM, H3⟩ := hrel
    obtain ⟨ho, c0, c1, c2, hfz, hch⟩ := HM.out
    have c3 := H3.out
    have HS1 := Lib.hid (u8s_past HS.out hch (by simp))
    clear hch
    by_cases hlt : k < l.length
    · by_cases h64 : k < 64
      · have hb64 : decide ((k : Int) < 64) = true := decide_eq_true (by omega)
        obtain ⟨b, off, rfl⟩ := slr_some HS1.out hlt
        obtain ⟨hob, b0, b1, hcb⟩ := u8_at HS1.out hlt
        have hbw : b ≠ w.heap.size := by have := (u8_at HS.out hlt).1; unfold World.old at this; omega
        clear c3
        go_upto_region 5 with fail
        (refine wp_region_x 14 (by kernel_rfl) (by kernel_rfl) (by kernel_rfl) ?_; (iterate 14 (apply XReg.step; (case h => (intro w' hw'; obtain ⟨X', rfl⟩ := hw'; go_wp2_with (fail); exact ⟨rfl, xt⟩)); (case hv => kernel_rfl))); refine XReg.done1 (fun X => ?_))
        go_upto_region 4 with fail
        refine gen_world (fun W2 hW => ?_)
        obtain ⟨m2, hn0, hn1, hn⟩ : ∃ n : Int, 0 ≤ n ∧ n ≤ 18446744073709551615 ∧ SrcM w W2 w.heap.size _ 0 n := ⟨_, (u64_wrap_bd _).1, (u64_wrap_bd _).2, by rw [hW]; exact (HM.out.set2 _).plus _⟩
        have H33 : Hid (W2.cell? ⟨w.heap.size, 3, none⟩ = some (.int .i64 0)) := Lib.hid (by
          rw [hW]
          refine ((Ext.refl _).plus _).cell ?_
          rw [World.cell?_setCell_other _ _ _ _ (by simp)]
          exact H3.out)
        have HN := Lib.hid hn
        clear hn hW c0 c1 c2 hfz ho hcb hob
        go_wp2
        exact ⟨⟨k + 1, m2, by omega, by go_num, hn0, hn1, HN, H33⟩, by simp [intOf]; omega⟩
      · have hb64 : decide ((k : Int) < 64) = false := decide_eq_false (by omega)
        go_wp2
        all_goals go_ret
        all_goals (refine ⟨w.heap.size, rfl, Nat.le_refl _, ?_⟩; exact SrcM.fin (by first | exact HM.out.set3 _ | exact (HM.out.set3 _).set3 _) hm0 hm1 HS.out)
    · have hkk : decide ((k : Int) < (l.length : Int)) = false := decide_eq_false (by omega)
      go_wp2
      all_goals go_ret
      all_goals (refine ⟨w.heap.size, rfl, Nat.le_refl _, ?_⟩; exact SrcM.fin (by first | exact HM.out.set3 _ | exact (HM.out.set3 _).set3 _) hm0 hm1 HS.out)

end Go.Proofs.YtkhmdhdaldbbhaaGreat
