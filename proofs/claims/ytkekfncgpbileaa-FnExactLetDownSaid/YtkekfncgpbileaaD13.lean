/- The walks of Reads. -/
import Derived.Test.YtkekfncgpbileaaD11
import Derived.Test.YtkekfncgpbileaaE3
import Derived.Deep.Cut
import Derived.Test.YtkekfncgpbileaaBG
set_option maxRecDepth 100000
set_option linter.unusedVariables false
namespace Go.Proofs.Ytkekfncgpbileaa
open Go.RowKit Go.Fin1

/-- The words, of the first k letters, that the label may read. -/
def rdN (l : List Ltr) (x : Lab) (k : Nat) : List Int := ((l.take k).filter (fun y => blw y.b x)).map Ltr.q
theorem rdN_zero (l : List Ltr) (x : Lab) : rdN l x 0 = [] := by simp [rdN]
theorem rdN_step {l : List Ltr} {x : Lab} {k : Nat} (h : k < l.length) : rdN l x (k + 1) = if blw l[k].b x = true then rdN l x k ++ [l[k].q] else rdN l x k := by
  unfold rdN; rw [List.take_succ_eq_append_getElem h, List.filter_append, List.map_append]
  cases hb : blw l[k].b x <;> simp [hb]
theorem rdN_len (l : List Ltr) (x : Lab) (k : Nat) : (rdN l x k).length ≤ k := by
  unfold rdN; rw [List.length_map]
  exact Nat.le_trans (List.length_filter_le _ _) (by simp; omega)
@[irreducible] def readsD (d : Dk) (x : Lab) : List Int := if (boxR d && labR x) = true then rdN d.box x d.box.length else []
theorem readsD_no {d : Dk} {x : Lab} (h : (boxR d && labR x) = false) : readsD d x = [] := by unfold readsD; rw [h]; rfl
theorem readsD_yes {d : Dk} {x : Lab} (h1 : boxR d = true) (h2 : labR x = true) : readsD d x = rdN d.box x d.box.length := by unfold readsD; rw [h1, h2]; rfl
theorem readsD_len (d : Dk) (x : Lab) : (readsD d x).length ≤ d.box.length := by
  unfold readsD; split
  · exact rdN_len _ _ _
  · exact Nat.zero_le _
theorem readsD_i64 {d : Dk} (h : ∀ y ∈ d.box, y.ok) (x : Lab) : ∀ n ∈ readsD d x, I64 n := fun n hn => by
  unfold readsD at hn
  split at hn
  · unfold rdN at hn
    obtain ⟨y, hy, rfl⟩ := List.mem_map.1 hn
    exact (h y (List.mem_of_mem_take (List.mem_filter.1 hy).1)).2.2.2
  · cases hn



set_option maxHeartbeats 1600000 in
theorem implReads_any (d : Dk) (v : Value) (x : Lab) (w : World) (h : eDesk w v d) (hl : d.sz ≤ 1048576) :
    Calls Try.prog 42 #[v, .agg #[(.int .i64 x.lv), (.int .i64 x.st)]] w fun e w' => ∃ v', e = .returned v' ∧ Ext w w' ∧ Row w.heap.size w' 2 1 intCell v' (readsD d x) := by
  have HD := Lib.hid h
  obtain ⟨a1, c1, a2, c2, a3, c3, rfl, z1, z2, p1, p2, p3⟩ := h
  have hlb : d.box.length ≤ 1048576 := by unfold Dk.sz at hl; omega
  have H2 := Lib.hid p2
  have HOK := Lib.hid (slr_ltrs p2)
  clear p1 p2 p3 z1 z2 hl
  unfold Dk.val at HD ⊢
  have hcs : boxR d = false ∨ (boxR d = true ∧ labR ⟨x.lv, x.st⟩ = false) ∨ (boxR d = true ∧ labR ⟨x.lv, x.st⟩ = true) := by
    cases boxR d <;> cases labR ⟨x.lv, x.st⟩ <;> simp
  rcases hcs with q1 | ⟨q1, q2⟩ | ⟨q1, q2⟩
  · have HR := Lib.hid (readsD_no (x := x) (by rw [q1]; rfl))
    go_enter Try.func42, Try.ntmps42
    go_wp2_with (first | (go_at_call 44; refine (implBoxRight_any d _ _ (HD.out.ext (by repeat (first | exact Ext.refl _ | apply Ext.plus | apply Ext.alloc | apply Ext.drew)))).mono ?_; rintro e _ ⟨rfl, X, rfl⟩) | (go_at_call 97; refine (implLabelRight_any _ _ _).mono ?_; rintro e _ ⟨rfl, X, rfl⟩))
    go_ret
    exact ⟨_, rfl, (by repeat (first | exact Ext.refl _ | apply Ext.plus | apply Ext.alloc | apply Ext.drew)), (by rw [HR.out]; exact Row.nil _ _ _ _ _)⟩
  · have HR := Lib.hid (readsD_no (x := x) (d := d) (by rw [show labR x = false from q2, Bool.and_false]))
    go_enter Try.func42, Try.ntmps42
    go_wp2_with (first | (go_at_call 44; refine (implBoxRight_any d _ _ (HD.out.ext (by repeat (first | exact Ext.refl _ | apply Ext.plus | apply Ext.alloc | apply Ext.drew)))).mono ?_; rintro e _ ⟨rfl, X, rfl⟩) | (go_at_call 97; refine (implLabelRight_any _ _ _).mono ?_; rintro e _ ⟨rfl, X, rfl⟩))
    go_ret
    exact ⟨_, rfl, (by repeat (first | exact Ext.refl _ | apply Ext.plus | apply Ext.alloc | apply Ext.drew)), (by rw [HR.out]; exact Row.nil _ _ _ _ _)⟩
  have HR := Lib.hid (readsD_yes (x := x) q1 q2)
  go_enter Try.func42, Try.ntmps42
  go_wp2_with (first | (go_at_call 44; refine (implBoxRight_any d _ _ (HD.out.ext (by repeat (first | exact Ext.refl _ | apply Ext.plus | apply Ext.alloc | apply Ext.drew)))).mono ?_; rintro e _ ⟨rfl, X, rfl⟩) | (go_at_call 97; refine (implLabelRight_any _ _ _).mono ?_; rintro e _ ⟨rfl, X, rfl⟩))
  clear q1 q2
  go_loopw [20, 5, 7] (fun i o _ wr => ∃ k : Nat, k ≤ d.box.length ∧ i = .int .i64 k ∧ Ext ((w.alloc (.cells #[.slice a1 d.pairs.length c1, .slice a2 d.box.length c2, .slice a3 d.audit.length c3, (.int .i64 d.used), (.int .i64 d.now)] 30)).alloc (.cells #[(.int .i64 x.lv), (.int .i64 x.st)] 35)) wr ∧ Hid (Row ((w.alloc (.cells #[.slice a1 d.pairs.length c1, .slice a2 d.box.length c2, .slice a3 d.audit.length c3, (.int .i64 d.used), (.int .i64 d.now)] 30)).alloc (.cells #[(.int .i64 x.lv), (.int .i64 x.st)] 35)).heap.size wr 2 1 intCell o (rdN d.box x k))) (fun i _ _ _ => d.box.length - (intOf i).toNat)
  case atStart => exact ⟨0, Nat.zero_le _, rfl, (by repeat (first | exact Ext.refl _ | apply Ext.plus | apply Ext.alloc | apply Ext.drew)), Lib.hid (by rw [rdN_zero]; exact (by repeat (first | (refine Row.madeB' ?_ ?_ <;> (simp <;> omega)) | refine Row.plus ?_ _)))⟩
  case round =>
    obtain ⟨k, hk, rfl, ⟨X, rfl⟩, HH⟩ := hrel
    obtain ⟨ao, co, rfl⟩ := HH.out.shape
    by_cases hlt : k < d.box.length
    · obtain ⟨b, off, rfl⟩ := slr_some H2.out hlt
      obtain ⟨ho, hok, h0, h1, h2, h3, h4, h5⟩ := ltr_at H2.out hlt
      have HB := Lib.hid hok.2.1.2
      have hN := Lib.hid (rdN_step (x := x) hlt)
      have hZ := rdN_len d.box x k
      go_wp2_with fail
      refine (implbelow_any _ _ _ _ _ HB.out).mono ?_
      rintro e _ ⟨rfl, Y, rfl⟩
      cases hf : blw ⟨d.box[k].b.lv, d.box[k].b.st⟩ ⟨x.lv, x.st⟩
      · go_wp2
        exact ⟨⟨k + 1, by omega, by go_num, (by repeat (first | exact Ext.refl _ | apply Ext.plus | apply Ext.alloc | apply Ext.drew)), Lib.hid (by rw [hN.out, if_neg (by rw [show blw d.box[k].b x = false from hf]; simp)]; exact HH.out.ext (by repeat (first | exact Ext.refl _ | apply Ext.plus | apply Ext.alloc | apply Ext.drew)))⟩, by simp [intOf]; omega⟩
      · go_wp2_with (at_builtin; go_must (refine Row.app el_Int rfl _ _ rfl ((w.alloc (.cells #[.slice a1 d.pairs.length c1, .slice (some ⟨b, off, none⟩) d.box.length c2, .slice a3 d.audit.length c3, (.int .i64 d.used), (.int .i64 d.now)] 30)).alloc (.cells #[(.int .i64 x.lv), (.int .i64 x.st)] 35)) (by repeat (first | exact Ext.refl _ | apply Ext.plus | apply Ext.alloc | apply Ext.drew)) _ _ rfl (HH.out.ext (by repeat (first | exact Ext.refl _ | apply Ext.plus | apply Ext.alloc | apply Ext.drew))) d.box[k].q rfl _ ?_ rfl rfl ?_ ?_ ?_ ?_); (simp [go_sem]); (simp [Value.oneCell']); (unfold maxLen; omega); omega; intro v' X' hown' hne; have HO' := Lib.hid hown'; clear hown' hne)
        exact ⟨⟨k + 1, by omega, by go_num, (by repeat (first | exact Ext.refl _ | apply Ext.plus | apply Ext.alloc | apply Ext.drew)), Lib.hid (by rw [hN.out, if_pos (show blw d.box[k].b x = true from hf)]; exact HO'.out)⟩, by simp [intOf]; omega⟩
    · go_wp2
      obtain rfl : k = d.box.length := by omega
      go_ret
      exact ⟨_, rfl, (by repeat (first | exact Ext.refl _ | apply Ext.plus | apply Ext.alloc | apply Ext.drew)), (by rw [HR.out]; exact HH.out.mono (B' := w.heap.size) (by simp; omega))⟩

set_option maxHeartbeats 1600000 in
theorem specReads_any (d : Dk) (v : Value) (x : Lab) (w : World) (h : eDesk w v d) (hl : d.sz ≤ 1048576) :
    Calls Try.prog 43 #[v, .agg #[(.int .i64 x.lv), (.int .i64 x.st)]] w fun e w' => ∃ v', e = .returned v' ∧ Ext w w' ∧ Row w.heap.size w' 2 1 intCell v' (readsD d x) := by
  have HD := Lib.hid h
  obtain ⟨a1, c1, a2, c2, a3, c3, rfl, z1, z2, p1, p2, p3⟩ := h
  have hlb : d.box.length ≤ 1048576 := by unfold Dk.sz at hl; omega
  have H2 := Lib.hid p2
  clear p1 p2 p3 z1 z2 hl
  unfold Dk.val at HD ⊢
  have hcs : boxR d = false ∨ (boxR d = true ∧ labR ⟨x.lv, x.st⟩ = false) ∨ (boxR d = true ∧ labR ⟨x.lv, x.st⟩ = true) := by
    cases boxR d <;> cases labR ⟨x.lv, x.st⟩ <;> simp
  rcases hcs with q1 | ⟨q1, q2⟩ | ⟨q1, q2⟩
  · have HR := Lib.hid (readsD_no (x := x) (by rw [q1]; rfl))
    go_enter Try.func43, Try.ntmps43
    go_wp2_with (first | (go_at_call 45; refine (specBoxRight_any d _ _ (HD.out.ext (by repeat (first | exact Ext.refl _ | apply Ext.plus | apply Ext.alloc | apply Ext.drew)))).mono ?_; rintro e _ ⟨rfl, X, rfl⟩) | (go_at_call 99; refine (specLabelRight_any _ _ _).mono ?_; rintro e _ ⟨rfl, X, rfl⟩))
    go_ret
    exact ⟨_, rfl, (by repeat (first | exact Ext.refl _ | apply Ext.plus | apply Ext.alloc | apply Ext.drew)), (by rw [HR.out]; exact (by repeat (first | (refine Row.madeB' ?_ ?_ <;> (simp <;> omega)) | refine Row.plus ?_ _)))⟩
  · have HR := Lib.hid (readsD_no (x := x) (d := d) (by rw [show labR x = false from q2, Bool.and_false]))
    go_enter Try.func43, Try.ntmps43
    go_wp2_with (first | (go_at_call 45; refine (specBoxRight_any d _ _ (HD.out.ext (by repeat (first | exact Ext.refl _ | apply Ext.plus | apply Ext.alloc | apply Ext.drew)))).mono ?_; rintro e _ ⟨rfl, X, rfl⟩) | (go_at_call 99; refine (specLabelRight_any _ _ _).mono ?_; rintro e _ ⟨rfl, X, rfl⟩))
    go_ret
    exact ⟨_, rfl, (by repeat (first | exact Ext.refl _ | apply Ext.plus | apply Ext.alloc | apply Ext.drew)), (by rw [HR.out]; exact (by repeat (first | (refine Row.madeB' ?_ ?_ <;> (simp <;> omega)) | refine Row.plus ?_ _)))⟩
  have HR := Lib.hid (readsD_yes (x := x) q1 q2)
  go_enter Try.func43, Try.ntmps43
  go_wp2_with (first | (go_at_call 45; refine (specBoxRight_any d _ _ (HD.out.ext (by repeat (first | exact Ext.refl _ | apply Ext.plus | apply Ext.alloc | apply Ext.drew)))).mono ?_; rintro e _ ⟨rfl, X, rfl⟩) | (go_at_call 99; refine (specLabelRight_any _ _ _).mono ?_; rintro e _ ⟨rfl, X, rfl⟩))
  clear q1 q2
  go_loopw [5, 6] (fun o i wr => ∃ k : Nat, k ≤ d.box.length ∧ i = .int .i64 k ∧ Ext ((w.alloc (.cells #[.slice a1 d.pairs.length c1, .slice a2 d.box.length c2, .slice a3 d.audit.length c3, (.int .i64 d.used), (.int .i64 d.now)] 30)).alloc (.cells #[(.int .i64 x.lv), (.int .i64 x.st)] 35)) wr ∧ Hid (Row ((w.alloc (.cells #[.slice a1 d.pairs.length c1, .slice a2 d.box.length c2, .slice a3 d.audit.length c3, (.int .i64 d.used), (.int .i64 d.now)] 30)).alloc (.cells #[(.int .i64 x.lv), (.int .i64 x.st)] 35)).heap.size wr 2 1 intCell o (rdN d.box x k))) (fun _ i _ => d.box.length - (intOf i).toNat)
  case atStart => exact ⟨0, Nat.zero_le _, rfl, (by repeat (first | exact Ext.refl _ | apply Ext.plus | apply Ext.alloc | apply Ext.drew)), Lib.hid (by rw [rdN_zero]; exact (by repeat (first | (refine Row.madeB' ?_ ?_ <;> (simp <;> omega)) | refine Row.plus ?_ _)))⟩
  case round =>
    obtain ⟨k, hk, rfl, ⟨X, rfl⟩, HH⟩ := hrel
    obtain ⟨ao, co, rfl⟩ := HH.out.shape
    by_cases hlt : k < d.box.length
    · obtain ⟨b, off, rfl⟩ := slr_some H2.out hlt
      obtain ⟨ho, hok, h0, h1, h2, h3, h4, h5⟩ := ltr_at H2.out hlt
      have hN := Lib.hid (rdN_step (x := x) hlt)
      have hZ := rdN_len d.box x k
      go_upto_region 7 with fail
      cases hf : blw ⟨d.box[k].b.lv, d.box[k].b.st⟩ ⟨x.lv, x.st⟩
      all_goals (refine wp_region_x 8 (by kernel_rfl) (by kernel_rfl) (by kernel_rfl) ?_; (iterate 8 (apply XReg.step; (case h => (intro w' hw'; obtain ⟨X', rfl⟩ := hw'; go_wp2_with ((go_at_call 100; refine (specbelow_any _ _ _ _ _).mono ?_; rintro e _ ⟨rfl, X, rfl⟩)); exact ⟨rfl, (by repeat (first | exact Ext.refl _ | apply Ext.plus | apply Ext.alloc | apply Ext.drew))⟩)); (case hv => kernel_rfl))); refine XReg.doneN (fun X => ?_))
      · go_wp2
        exact ⟨⟨k + 1, by omega, by go_num, (by repeat (first | exact Ext.refl _ | apply Ext.plus | apply Ext.alloc | apply Ext.drew)), Lib.hid (by rw [hN.out, if_neg (by rw [show blw d.box[k].b x = false from hf]; simp)]; exact HH.out.ext (by repeat (first | exact Ext.refl _ | apply Ext.plus | apply Ext.alloc | apply Ext.drew)))⟩, by simp [intOf]; omega⟩
      · go_wp2_with (at_builtin; go_must (refine Row.app el_Int rfl _ _ rfl ((w.alloc (.cells #[.slice a1 d.pairs.length c1, .slice (some ⟨b, off, none⟩) d.box.length c2, .slice a3 d.audit.length c3, (.int .i64 d.used), (.int .i64 d.now)] 30)).alloc (.cells #[(.int .i64 x.lv), (.int .i64 x.st)] 35)) (by repeat (first | exact Ext.refl _ | apply Ext.plus | apply Ext.alloc | apply Ext.drew)) _ _ rfl (HH.out.ext (by repeat (first | exact Ext.refl _ | apply Ext.plus | apply Ext.alloc | apply Ext.drew))) d.box[k].q rfl _ ?_ rfl rfl ?_ ?_ ?_ ?_); (simp [go_sem]); (simp [Value.oneCell']); (unfold maxLen; omega); omega; intro v' X' hown' hne; have HO' := Lib.hid hown'; clear hown' hne)
        exact ⟨⟨k + 1, by omega, by go_num, (by repeat (first | exact Ext.refl _ | apply Ext.plus | apply Ext.alloc | apply Ext.drew)), Lib.hid (by rw [hN.out, if_pos (show blw d.box[k].b x = true from hf)]; exact HO'.out)⟩, by simp [intOf]; omega⟩
    · go_wp2
      obtain rfl : k = d.box.length := by omega
      go_ret
      exact ⟨_, rfl, (by repeat (first | exact Ext.refl _ | apply Ext.plus | apply Ext.alloc | apply Ext.drew)), (by rw [HR.out]; exact HH.out.mono (B' := w.heap.size) (by simp; omega))⟩
end Go.Proofs.Ytkekfncgpbileaa
