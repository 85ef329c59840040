/- FnNums: a drawn number is got back from its bytes, a drawn text from its own. -/
import Derived.Test.YtfkjdiaeblcimaaDR3
import Derived.Test.YtfkjdiaeblcimaaX2
import Derived.Test.YtfkjdiaeblcimaaW7
set_option maxRecDepth 100000
set_option linter.unusedVariables false
namespace Go.Proofs.Ytfkjdiaeblcimaa
open Go.ChangeShapes Go.WideShapes Go.ChangeAt Go.RowKit Go.Fin1

section
variable {H : Type} {enc : TypeId × Value → H} {w : World} {base : Nat} {spare : Nat → Bool} {held : Bool} {fuel : Nat} {cs : List Value} {x : DataW H × List MemPlace}
theorem b_u8 (h : DataW.trod enc Try.prog w base spare held fuel 5 cs = some x) : ∃ n : Int, rU8 w cs n := by
  obtain ⟨n, h1, _, h2⟩ := DataW.trod_int Try.underlying5 h
  have h3 : 0 ≤ n ∧ n ≤ 255 := by
    simpa [Lit.wf, IntKind.min, IntKind.max, IntKind.signed, IntKind.bits] using h2
  exact ⟨n, h1, h3.1, h3.2⟩
theorem b_bytes (h : DataW.trod enc Try.prog w base spare held fuel 80 cs = some x) : ∃ v xs, cs = [v] ∧ SlR w 1 rU8 v xs :=
  b_slice Try.underlying80 (by kernel_rfl) (by decide) (fun _ _ _ h => b_u8 h) h
end
section
variable {H : Type} {enc : TypeId × Value → H} {w : World} {base : Nat} {spare : Nat → Bool} {held : Bool} {r : Reach} {b0 : Nat} {v : Value} {d : DataW H} {ps : List MemPlace}
theorem open_bytes (hv : Value.okWide Try.prog w r b0 80 v) (h : DataW.Trod enc Try.prog w base spare held 80 v d ps) : ∃ a : Arg (List Int), v = a.v ∧ SlR w 1 rU8 a.v a.x := slice_arg Try.underlying80 hv (fun _ _ _ h => b_bytes h) h
end

set_option maxHeartbeats 1600000 in
theorem fnNums_any (a b : Arg (List Int)) (w : World) (ha : SlR w 1 rU8 a.v a.x) (hb : SlR w 1 rU8 b.v b.x) :
    Calls Try.prog 8 #[a.v, b.v] w fun e w' => e = .returned (.bool true) ∧ Ext w w' := by
  obtain ⟨v, l⟩ := a
  obtain ⟨v2, l2⟩ := b
  change SlR w 1 rU8 v l at ha
  change SlR w 1 rU8 v2 l2 at hb
  change Calls Try.prog 8 #[v, v2] w _
  obtain ⟨ad, cap, rfl⟩ := ha.len
  obtain ⟨ad2, cap2, rfl⟩ := hb.len
  have H1 := Lib.hid ha
  have H2 := Lib.hid hb
  clear ha hb
  by_cases hl : l.length ≤ 1048576
  · by_cases hl2 : l2.length ≤ 1048576
    · go_enter Try.func8, Try.ntmps8
      go_wp2_with fail
      refine (drawPutNum_any _ l _ H1.out hl).mono ?_
      rintro e w2 ⟨n, rfl, hn, hx⟩
      have HN := Lib.hid hn
      have HX := Lib.hid hx
      clear hn hx
      have hz := putNum_len n
      go_wp2_with (first | (go_at_call 49; refine (implPutNum_any n HN.out _).mono ?_; rintro e _ ⟨rfl, X, rfl⟩) | (go_at_call 50; refine (specPutNum_any n HN.out _).mono ?_; rintro e _ ⟨rfl, X, rfl⟩))
      have HB := Lib.hid hz
      have hs1 : ((⟨#[120, 121]⟩ : ByteArray) ++ putNum n ++ ⟨#[122]⟩).size = (putNum n).size + 3 := by rw [ByteArray.size_append, ByteArray.size_append, show (⟨#[120, 121]⟩ : ByteArray).size = 2 from rfl, show (⟨#[122]⟩ : ByteArray).size = 1 from rfl]; omega
      have HG := Lib.hid (getNum_put (s := (⟨#[120, 121]⟩ : ByteArray) ++ putNum n ++ ⟨#[122]⟩) (x := [120, 121]) (z := [122]) HN.out (by rw [ByteArray.data_append, ByteArray.data_append, Array.toList_append, Array.toList_append]) (by rw [hs1]; omega))
      refine (implGetNum_any _ 2 _ (by rw [hs1]; omega)).mono ?_
      rintro e _ ⟨rfl, Y, rfl⟩
      rw [show getNum ((⟨#[120, 121]⟩ : ByteArray) ++ putNum n ++ ⟨#[122]⟩) 2 = _ from HG.out]
      go_wp2_with fail
      have H4 := Lib.hid (getNum_cut (s := (putNum n).extract 0 ((putNum n).size - 1)) HN.out (by rw [extract_data]; simp))
      refine (implGetNum_any _ 0 _ (by rw [ByteArray.size_extract]; omega)).mono ?_
      rintro e _ ⟨rfl, Y2, rfl⟩
      rw [H4.out]
      have hfd : ∀ (w : World) (a b c : Int), (Instr.field 84 (.agg #[(.int .i64 a), (.int .i64 b), (.int .i64 c)]) 2).run Try.prog w = .ok (.int .i64 c) w := fun _ _ _ _ => by kernel_rfl
      go_wp2_with fail
      refine (drawPutText_any _ l2 _ (H2.out.ext rU8_stable (HX.out.trans (by repeat (first | exact Ext.refl _ | apply Ext.plus | apply Ext.alloc | apply Ext.drew)))) hl2).mono ?_
      rintro e w5 ⟨u, rfl, hu, hx5⟩
      have HX5 : Hid (Ext w w5) := Lib.hid ((HX.out.trans (by repeat (first | exact Ext.refl _ | apply Ext.plus | apply Ext.alloc | apply Ext.drew))).trans hx5)
      have HU := Lib.hid hu
      clear hx5 hu
      have hum : u.size ≤ maxLen := by have := HU.out; unfold maxLen; omega
      have HUM := Lib.hid hum
      clear hum
      clear hfd hz hs1
      by_cases h8 : u.size ≤ 8000
      · have hps := putText_some h8
        have hz := putNum_len u.size
        have hpz : (putText u).size = (putNum u.size).size + u.size := by rw [hps, ByteArray.size_append]
        have hpe : (putText u).toList.isEmpty = false := by
          rw [toList_data, List.isEmpty_eq_false_iff]
          intro h
          have h2 : (putText u).size = 0 := by
            have := congrArg List.length h
            simpa using this
          omega
        have hw : wrap64 (((putText u).size : Int) + 1) = ((putText u).size : Int) + 1 := by unfold wrap64; omega
        by_cases h9 : (putText u).size + 1 ≤ 8000
        · have hb9 : decide ((8000 : Int) < ((putText u).size : Int) + 1) = false := decide_eq_false (by omega)
          have hs1 : ((⟨#[120]⟩ : ByteArray) ++ putText u).size = (putText u).size + 1 := by rw [ByteArray.size_append, show (⟨#[120]⟩ : ByteArray).size = 1 from rfl]; omega
          have HG2 := Lib.hid (getText_put (s := (⟨#[120]⟩ : ByteArray) ++ putText u) (x := [120]) h8 (by rw [ByteArray.data_append, Array.toList_append]) (by rw [hs1]; omega))
          have HC2 := Lib.hid (getText_cut (s := (putText u).extract 0 ((putText u).size - 1)) h8 (by rw [extract_data]; simp) (by rw [ByteArray.size_extract]; omega))
          have HS1 := Lib.hid hs1
          have HS2 : Hid (((putText u).extract 0 ((putText u).size - 1)).size ≤ 1048576) := Lib.hid (by rw [ByteArray.size_extract]; omega)
          have HZ9 := Lib.hid h9
          have hpos : 1 ≤ (putText u).size := by omega
          clear hs1 hps hz hpz h8
          have hfd : ∀ (w : World) (s : ByteArray) (b c : Int), (Instr.field 89 (.agg #[.string s, (.int .i64 b), (.int .i64 c)]) 2).run Try.prog w = .ok (.int .i64 c) w := fun _ _ _ _ => by kernel_rfl
          go_wp2_with (first | (go_at_call 53; refine (implPutText_any u _ HUM.out).mono ?_; rintro e _ ⟨rfl, X, rfl⟩) | (go_at_call 54; refine (specPutText_any u _ HUM.out).mono ?_; rintro e _ ⟨rfl, X, rfl⟩))
          refine (implGetText_any _ 1 _ (by rw [HS1.out]; have := HZ9.out; omega)).mono ?_
          rintro e _ ⟨rfl, Y5, rfl⟩
          rw [show getText ((⟨#[120]⟩ : ByteArray) ++ putText u) 1 = _ from HG2.out]
          unfold textV
          go_wp2_with fail
          refine (implGetText_any _ 0 _ HS2.out).mono ?_
          rintro e _ ⟨rfl, Y6, rfl⟩
          unfold textV
          rw [HC2.out]
          go_wp2
          go_ret
          exact ⟨rfl, HX5.out.trans (by repeat (first | exact Ext.refl _ | apply Ext.plus | apply Ext.alloc | apply Ext.drew))⟩
        · have hb9 : decide ((8000 : Int) < ((putText u).size : Int) + 1) = true := decide_eq_true (by omega)
          clear hps hz hpz h8 h9
          go_wp2_with (first | (go_at_call 53; refine (implPutText_any u _ HUM.out).mono ?_; rintro e _ ⟨rfl, X, rfl⟩) | (go_at_call 54; refine (specPutText_any u _ HUM.out).mono ?_; rintro e _ ⟨rfl, X, rfl⟩))
          go_ret
          exact ⟨rfl, HX5.out.trans (by repeat (first | exact Ext.refl _ | apply Ext.plus | apply Ext.alloc | apply Ext.drew))⟩
      · have hps : putText u = ⟨#[]⟩ := by unfold putText; rw [if_neg h8]
        have HP := Lib.hid hps
        clear hps h8
        go_wp2_with (first | ((go_at_call 53; refine (implPutText_any u _ HUM.out).mono ?_; rintro e _ ⟨rfl, X, rfl⟩); rw [HP.out]) | ((go_at_call 54; refine (specPutText_any u _ HUM.out).mono ?_; rintro e _ ⟨rfl, X, rfl⟩); rw [HP.out]))
        go_ret
        exact ⟨rfl, HX5.out.trans (by repeat (first | exact Ext.refl _ | apply Ext.plus | apply Ext.alloc | apply Ext.drew))⟩
    · go_enter Try.func8, Try.ntmps8
      go_wp2
      go_ret
      exact ⟨rfl, (by repeat (first | exact Ext.refl _ | apply Ext.plus | apply Ext.alloc | apply Ext.drew))⟩
  · go_enter Try.func8, Try.ntmps8
    go_wp2
    go_ret
    exact ⟨rfl, (by repeat (first | exact Ext.refl _ | apply Ext.plus | apply Ext.alloc | apply Ext.drew))⟩
end Go.Proofs.Ytfkjdiaeblcimaa
