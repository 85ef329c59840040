/- The law of Ahead. -/
import Derived.Test.YtofpknobahccdaaC2
set_option maxRecDepth 100000
set_option linter.unusedVariables false
namespace Go.Proofs.Ytofpknobahccdaa
open Go.RowKit Go.Fin1

set_option maxHeartbeats 3200000 in
theorem fnAhead_any (a b : Arg Jb) (w : World) (h : ∃ nv, a.v = a.x.val nv ∧ a.x.ok ∧ SlR w 1 rInt nv a.x.nodes) (h' : ∃ nv, b.v = b.x.val nv ∧ b.x.ok ∧ SlR w 1 rInt nv b.x.nodes) :
    Calls Try.prog 3 #[a.v, b.v] w fun e w' => e = .returned (.bool true) ∧ Ext w w' := by
  obtain ⟨v, j⟩ := a
  obtain ⟨nv, h1, hok, h⟩ := h
  obtain ⟨v', i⟩ := b
  obtain ⟨nv', h1', hok', h'⟩ := h'
  simp only at h1 hok h h1' hok' h' ⊢
  subst h1 h1'
  obtain ⟨an, cn, rfl⟩ := h.len
  obtain ⟨bn, dn, rfl⟩ := h'.len
  have HS := Lib.hid h
  have HT := Lib.hid h'
  have hi := Lib.hid (slr_ints h)
  have hi' := Lib.hid (slr_ints h')
  have Hok := Lib.hid hok
  have Hok' := Lib.hid hok'
  clear h hok h' hok'
  by_cases hl : j.nodes.length ≤ 1048576
  · have ht : decide (((1048576 - j.nodes.length : Nat) : Int) < 0) = false := decide_eq_false (by omega)
    by_cases hl' : i.nodes.length ≤ 1048576 - j.nodes.length
    · have ht' : decide (((1048576 - j.nodes.length - i.nodes.length : Nat) : Int) < 0) = false := decide_eq_false (by omega)
      have hl2 : i.nodes.length ≤ 1048576 := by omega
      go_enter Try.func3, Try.ntmps3
      unfold Jb.val
      go_wp2_with fail
      refine (szJob_any j _ 1048576 _ (HS.out.ext rInt_stable (by repeat (first | exact Ext.refl _ | apply Ext.plus | apply Ext.alloc | apply Ext.drew))) (Nat.le_refl _)).mono ?_
      rintro e _ ⟨rfl, X0, rfl⟩
      rw [if_pos hl]
      go_wp2_with fail
      refine (szJob_any i _ _ _ (HT.out.ext rInt_stable (by repeat (first | exact Ext.refl _ | apply Ext.plus | apply Ext.alloc | apply Ext.drew))) (Nat.sub_le _ _)).mono ?_
      rintro e _ ⟨rfl, X0', rfl⟩
      rw [if_pos hl']
      go_upto_region 8 with fail
      (refine wp_region_y 6 [(fun u _ => u = (j.val (.slice an j.nodes.length cn))), kJob j, (fun u _ => u = (i.val (.slice bn i.nodes.length dn))), kJob i, (fun u _ => u = (.bool (jobR j && jobR i && aheadJ j i))), (fun u _ => u = (.bool (jobR j && jobR i && aheadJ j i)))] (by kernel_rfl) (by kernel_rfl) (by kernel_rfl) rfl ?_ (by (repeat' (first | exact trivial | exact XReg.GoodK.same _ default | refine And.intro ?_ ?_)); all_goals (first | exact kJob_good HS.out | exact kJob_good HT.out)))
      (apply YReg.val (j.val (.slice an j.nodes.length cn)); (case h => (intro w' hw' hF'; obtain ⟨X', rfl⟩ := hw'; have HF' := Lib.hid hF'; clear hF'; go_wp2_with (fail); exact ⟨rfl, (by repeat (first | exact Ext.refl _ | apply Ext.plus | apply Ext.alloc | apply Ext.drew))⟩)); (case hv => kernel_rfl))
      refine YReg.kind (fun w' hw' hF' => ?_) (fun v w1 hK => ?_)
      · obtain ⟨X', rfl⟩ := hw'
        clear hF'
        go_wp2_with fail
        refine (toJob_any j _ _ (HS.out.ext rInt_stable (by repeat (first | exact Ext.refl _ | apply Ext.plus | apply Ext.alloc | apply Ext.drew))) hl).mono ?_
        rintro e _ ⟨v3, fp3, rfl, ⟨X3, rfl⟩, hO⟩
        have H3 := Lib.hid (oIntS_r hO.1 hi.out)
        clear hO
        obtain ⟨a3, c3, rfl⟩ := H3.out.len
        unfold Jb.val
        go_wp2
        exact ⟨(by repeat (first | exact Ext.refl _ | apply Ext.plus | apply Ext.alloc | apply Ext.drew)), _, _, rfl, H3.out⟩
      obtain ⟨a3, c3, rfl, hs3⟩ := hK
      clear hs3 w1
      unfold Jb.val
      (apply YReg.val (i.val (.slice bn i.nodes.length dn)); (case h => (intro w' hw' hF'; obtain ⟨X', rfl⟩ := hw'; have HF' := Lib.hid hF'; clear hF'; go_wp2_with (fail); exact ⟨rfl, (by repeat (first | exact Ext.refl _ | apply Ext.plus | apply Ext.alloc | apply Ext.drew))⟩)); (case hv => kernel_rfl))
      refine YReg.kind (fun w' hw' hF' => ?_) (fun v w1 hK => ?_)
      · obtain ⟨X', rfl⟩ := hw'
        clear hF'
        go_wp2_with fail
        refine (toJob_any i _ _ (HT.out.ext rInt_stable (by repeat (first | exact Ext.refl _ | apply Ext.plus | apply Ext.alloc | apply Ext.drew))) hl2).mono ?_
        rintro e _ ⟨v3, fp3, rfl, ⟨X3, rfl⟩, hO⟩
        have H3 := Lib.hid (oIntS_r hO.1 hi'.out)
        clear hO
        obtain ⟨a3, c3, rfl⟩ := H3.out.len
        unfold Jb.val
        go_wp2
        exact ⟨(by repeat (first | exact Ext.refl _ | apply Ext.plus | apply Ext.alloc | apply Ext.drew)), _, _, rfl, H3.out⟩
      obtain ⟨b3, d3, rfl, hs3⟩ := hK
      clear hs3 w1
      unfold Jb.val
      (apply YReg.val (.bool (jobR j && jobR i && aheadJ j i)); (case h => (intro w' hw' hF'; obtain ⟨X', rfl⟩ := hw'; have HF' := Lib.hid hF'; clear hF'; go_wp2_with ((go_at_call 14; have hk := (HF'.out.get 1 (p := (kJob j, j.val (.slice a3 j.nodes.length c3))) (by kernel_rfl) (by kernel_rfl)); have hk2 := (HF'.out.get 3 (p := (kJob i, i.val (.slice b3 i.nodes.length d3))) (by kernel_rfl) (by kernel_rfl)); refine (specAhead_any j i _ _ _ Hok.out Hok'.out (kJob_r hk) (kJob_r hk2)).mono ?_; clear hk hk2; rintro e _ ⟨rfl, Y3, rfl⟩)); exact ⟨rfl, (by repeat (first | exact Ext.refl _ | apply Ext.plus | apply Ext.alloc | apply Ext.drew))⟩)); (case hv => kernel_rfl))
      (apply YReg.val (.bool (jobR j && jobR i && aheadJ j i)); (case h => (intro w' hw' hF'; obtain ⟨X', rfl⟩ := hw'; have HF' := Lib.hid hF'; clear hF'; go_wp2_with (fail); exact ⟨rfl, (by repeat (first | exact Ext.refl _ | apply Ext.plus | apply Ext.alloc | apply Ext.drew))⟩)); (case hv => kernel_rfl))
      refine YReg.doneN (fun X _ => ?_)
      go_wp2_with fail
      refine (toJob_any j _ _ (HS.out.ext rInt_stable (by repeat (first | exact Ext.refl _ | apply Ext.plus | apply Ext.alloc | apply Ext.drew))) hl).mono ?_
      rintro e _ ⟨v2, fp2, rfl, ⟨X2, rfl⟩, hO⟩
      have H1 := Lib.hid (oIntS_r hO.1 hi.out)
      clear hO
      obtain ⟨a1, c1, rfl⟩ := H1.out.len
      unfold Jb.val
      go_wp2_with fail
      refine (toJob_any i _ _ (HT.out.ext rInt_stable (by repeat (first | exact Ext.refl _ | apply Ext.plus | apply Ext.alloc | apply Ext.drew))) hl2).mono ?_
      rintro e _ ⟨v2, fp2, rfl, ⟨X3, rfl⟩, hO⟩
      have H2 := Lib.hid (oIntS_r hO.1 hi'.out)
      clear hO
      obtain ⟨a2, c2, rfl⟩ := H2.out.len
      unfold Jb.val
      go_wp2_with fail
      refine (implAhead_any j i _ _ _ Hok.out Hok'.out (H1.out.ext rInt_stable (by repeat (first | exact Ext.refl _ | apply Ext.plus | apply Ext.alloc | apply Ext.drew))) (H2.out.ext rInt_stable (by repeat (first | exact Ext.refl _ | apply Ext.plus | apply Ext.alloc | apply Ext.drew)))).mono ?_
      rintro e _ ⟨rfl, ⟨Y4, rfl⟩⟩
      go_upto_region 14 with fail
      (refine wp_region_y 5 [(fun u _ => u = (Jb.val j (.slice a1 (Jb.nodes j).length c1))), (fun u _ => u = (Jb.val j (.slice an (Jb.nodes j).length cn))), kJob j, (fun u _ => u = (.bool true)), (fun u _ => u = (.bool false))] (by kernel_rfl) (by kernel_rfl) (by kernel_rfl) rfl ?_ (by (repeat' (first | exact trivial | exact XReg.GoodK.same _ default | refine And.intro ?_ ?_)); all_goals exact kJob_good H1.out))
      (apply YReg.val (Jb.val j (.slice a1 (Jb.nodes j).length c1)); (case h => (intro w' hw' hF'; obtain ⟨X', rfl⟩ := hw'; have HF' := Lib.hid hF'; clear hF'; go_wp2_with (fail); exact ⟨rfl, (by repeat (first | exact Ext.refl _ | apply Ext.plus | apply Ext.alloc | apply Ext.drew))⟩)); (case hv => kernel_rfl))
      (apply YReg.val (Jb.val j (.slice an (Jb.nodes j).length cn)); (case h => (intro w' hw' hF'; obtain ⟨X', rfl⟩ := hw'; have HF' := Lib.hid hF'; clear hF'; go_wp2_with (fail); exact ⟨rfl, (by repeat (first | exact Ext.refl _ | apply Ext.plus | apply Ext.alloc | apply Ext.drew))⟩)); (case hv => kernel_rfl))
      refine YReg.kind (fun w' hw' hF' => ?_) (fun v w1 hK => ?_)
      · obtain ⟨X', rfl⟩ := hw'
        clear hF'
        go_wp2_with fail
        refine (toJob_any j _ _ (HS.out.ext rInt_stable (by repeat (first | exact Ext.refl _ | apply Ext.plus | apply Ext.alloc | apply Ext.drew))) hl).mono ?_
        rintro e _ ⟨v3, fp3, rfl, ⟨X3, rfl⟩, hO⟩
        have H3 := Lib.hid (oIntS_r hO.1 hi.out)
        clear hO
        obtain ⟨a3, c3, rfl⟩ := H3.out.len
        unfold Jb.val
        go_wp2
        exact ⟨(by repeat (first | exact Ext.refl _ | apply Ext.plus | apply Ext.alloc | apply Ext.drew)), _, _, rfl, H3.out⟩
      obtain ⟨a3, c3, rfl, hs3⟩ := hK
      clear hs3 w1
      unfold Jb.val
      (apply YReg.val (.bool true); (case h => (intro w' hw' hF'; obtain ⟨X', rfl⟩ := hw'; have HF' := Lib.hid hF'; clear hF'; go_wp2_with ((go_at_call 17; have hk := (HF'.out.get 2 (p := (kJob j, Jb.val j (.slice a3 (Jb.nodes j).length c3))) (by kernel_rfl) (by kernel_rfl)); refine (eqJob_self j _ _ _ (H1.out.ext rInt_stable (by repeat (first | exact Ext.refl _ | apply Ext.plus | apply Ext.alloc | apply Ext.drew))) (kJob_r hk)).mono ?_; clear hk; rintro e _ ⟨rfl, Y3, rfl⟩)); exact ⟨rfl, (by repeat (first | exact Ext.refl _ | apply Ext.plus | apply Ext.alloc | apply Ext.drew))⟩)); (case hv => kernel_rfl))
      (apply YReg.val (.bool false); (case h => (intro w' hw' hF'; obtain ⟨X', rfl⟩ := hw'; have HF' := Lib.hid hF'; clear hF'; go_wp2_with (fail); exact ⟨rfl, (by repeat (first | exact Ext.refl _ | apply Ext.plus | apply Ext.alloc | apply Ext.drew))⟩)); (case hv => kernel_rfl))
      refine YReg.doneN (fun X _ => ?_)
      go_upto_region 16 with fail
      (refine wp_region_y 5 [(fun u _ => u = (Jb.val i (.slice a2 (Jb.nodes i).length c2))), (fun u _ => u = (Jb.val i (.slice bn (Jb.nodes i).length dn))), kJob i, (fun u _ => u = (.bool true)), (fun u _ => u = (.bool false))] (by kernel_rfl) (by kernel_rfl) (by kernel_rfl) rfl ?_ (by (repeat' (first | exact trivial | exact XReg.GoodK.same _ default | refine And.intro ?_ ?_)); all_goals exact kJob_good H2.out))
      (apply YReg.val (Jb.val i (.slice a2 (Jb.nodes i).length c2)); (case h => (intro w' hw' hF'; obtain ⟨X', rfl⟩ := hw'; have HF' := Lib.hid hF'; clear hF'; go_wp2_with (fail); exact ⟨rfl, (by repeat (first | exact Ext.refl _ | apply Ext.plus | apply Ext.alloc | apply Ext.drew))⟩)); (case hv => kernel_rfl))
      (apply YReg.val (Jb.val i (.slice bn (Jb.nodes i).length dn)); (case h => (intro w' hw' hF'; obtain ⟨X', rfl⟩ := hw'; have HF' := Lib.hid hF'; clear hF'; go_wp2_with (fail); exact ⟨rfl, (by repeat (first | exact Ext.refl _ | apply Ext.plus | apply Ext.alloc | apply Ext.drew))⟩)); (case hv => kernel_rfl))
      refine YReg.kind (fun w' hw' hF' => ?_) (fun v w1 hK => ?_)
      · obtain ⟨X', rfl⟩ := hw'
        clear hF'
        go_wp2_with fail
        refine (toJob_any i _ _ (HT.out.ext rInt_stable (by repeat (first | exact Ext.refl _ | apply Ext.plus | apply Ext.alloc | apply Ext.drew))) hl2).mono ?_
        rintro e _ ⟨v3, fp3, rfl, ⟨X3, rfl⟩, hO⟩
        have H3 := Lib.hid (oIntS_r hO.1 hi'.out)
        clear hO
        obtain ⟨a3, c3, rfl⟩ := H3.out.len
        unfold Jb.val
        go_wp2
        exact ⟨(by repeat (first | exact Ext.refl _ | apply Ext.plus | apply Ext.alloc | apply Ext.drew)), _, _, rfl, H3.out⟩
      obtain ⟨a3, c3, rfl, hs3⟩ := hK
      clear hs3 w1
      unfold Jb.val
      (apply YReg.val (.bool true); (case h => (intro w' hw' hF'; obtain ⟨X', rfl⟩ := hw'; have HF' := Lib.hid hF'; clear hF'; go_wp2_with ((go_at_call 17; have hk := (HF'.out.get 2 (p := (kJob i, Jb.val i (.slice a3 (Jb.nodes i).length c3))) (by kernel_rfl) (by kernel_rfl)); refine (eqJob_self i _ _ _ (H2.out.ext rInt_stable (by repeat (first | exact Ext.refl _ | apply Ext.plus | apply Ext.alloc | apply Ext.drew))) (kJob_r hk)).mono ?_; clear hk; rintro e _ ⟨rfl, Y3, rfl⟩)); exact ⟨rfl, (by repeat (first | exact Ext.refl _ | apply Ext.plus | apply Ext.alloc | apply Ext.drew))⟩)); (case hv => kernel_rfl))
      (apply YReg.val (.bool false); (case h => (intro w' hw' hF'; obtain ⟨X', rfl⟩ := hw'; have HF' := Lib.hid hF'; clear hF'; go_wp2_with (fail); exact ⟨rfl, (by repeat (first | exact Ext.refl _ | apply Ext.plus | apply Ext.alloc | apply Ext.drew))⟩)); (case hv => kernel_rfl))
      refine YReg.doneN (fun X _ => ?_)
      go_wp2
      go_ret
      exact ⟨rfl, (by repeat (first | exact Ext.refl _ | apply Ext.plus | apply Ext.alloc | apply Ext.drew))⟩
    · go_enter Try.func3, Try.ntmps3
      unfold Jb.val
      go_wp2_with fail
      refine (szJob_any j _ 1048576 _ (HS.out.ext rInt_stable (by repeat (first | exact Ext.refl _ | apply Ext.plus | apply Ext.alloc | apply Ext.drew))) (Nat.le_refl _)).mono ?_
      rintro e _ ⟨rfl, X0, rfl⟩
      rw [if_pos hl]
      go_wp2_with fail
      refine (szJob_any i _ _ _ (HT.out.ext rInt_stable (by repeat (first | exact Ext.refl _ | apply Ext.plus | apply Ext.alloc | apply Ext.drew))) (Nat.sub_le _ _)).mono ?_
      rintro e _ ⟨rfl, X0', rfl⟩
      rw [if_neg hl']
      go_wp2
      go_ret
      exact ⟨rfl, (by repeat (first | exact Ext.refl _ | apply Ext.plus | apply Ext.alloc | apply Ext.drew))⟩
  · go_enter Try.func3, Try.ntmps3
    unfold Jb.val
    go_wp2_with fail
    refine (szJob_any j _ 1048576 _ (HS.out.ext rInt_stable (by repeat (first | exact Ext.refl _ | apply Ext.plus | apply Ext.alloc | apply Ext.drew))) (Nat.le_refl _)).mono ?_
    rintro e _ ⟨rfl, X0, rfl⟩
    rw [if_neg hl]
    go_wp2
    go_ret
    exact ⟨rfl, (by repeat (first | exact Ext.refl _ | apply Ext.plus | apply Ext.alloc | apply Ext.drew))⟩
end Go.Proofs.Ytofpknobahccdaa
