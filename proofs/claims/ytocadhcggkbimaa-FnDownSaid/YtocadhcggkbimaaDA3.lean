/- The walks of Reads. -/
import Derived.Test.YtocadhcggkbimaaD11
import Derived.Test.YtocadhcggkbimaaE3
import Derived.Deep.Cut
import Derived.Test.YtocadhcggkbimaaBG
import Derived.Test.YtocadhcggkbimaaD12
import Derived.Test.YtocadhcggkbimaaDA1
import Derived.Test.YtocadhcggkbimaaC1
import Derived.Lib.SliceRun
import Derived.Test.YtocadhcggkbimaaI4
set_option maxRecDepth 100000
set_option linter.unusedVariables false
namespace Go.Proofs.Ytocadhcggkbimaa
open Go.RowKit Go.Fin1

/-- The words, of the first k letters, that the label may read. -/
def rdN (l : List Ltr) (x : Lab) (k : Nat) : List Int := ((l.take k).filter (fun y => blw y.b x)).map Ltr.q
theorem rdN_zero (l : List Ltr) (x : Lab) : rdN l x 0 = [] := by simp [rdN]
theorem rdN_step {l : List Ltr} {x : Lab} {k : Nat} (h : k < l.length) : rdN l x (k + 1) = if blw l[k].b x = true then rdN l x k ++ [l[k].q] else rdN l x k := by
  unfold rdN; rw [List.take_succ_eq_append_getElem h, List.filter_append, List.map_append]
  cases hb : blw l[k].b x <;> simp [hb]
theorem rdN_len (l : List Ltr) (x : Lab) (k : Nat) : (rdN l x k).length ≤ k := by
  unfold rdN; rw [List.length_map]
  exact Nat.le_trans (List.length_filter_le _ _) (by simp; omega)
@[irreducible] def readsD (d : Dk) (x : Lab) : List Int := if (boxR d && labR x) = true then rdN d.box x d.box.length else []
theorem readsD_no {d : Dk} {x : Lab} (h : (boxR d && labR x) = false) : readsD d x = [] := by unfold readsD; rw [h]; rfl
theorem readsD_yes {d : Dk} {x : Lab} (h1 : boxR d = true) (h2 : labR x = true) : readsD d x = rdN d.box x d.box.length := by unfold readsD; rw [h1, h2]; rfl
theorem readsD_len (d : Dk) (x : Lab) : (readsD d x).length ≤ d.box.length := by
  unfold readsD; split
  · exact rdN_len _ _ _
  · exact Nat.zero_le _
theorem readsD_i64 {d : Dk} (h : ∀ y ∈ d.box, y.ok) (x : Lab) : ∀ n ∈ readsD d x, I64 n := fun n hn => by
  unfold readsD at hn
  split at hn
  · unfold rdN at hn
    obtain ⟨y, hy, rfl⟩ := List.mem_map.1 hn
    exact (h y (List.mem_of_mem_take (List.mem_filter.1 hy).1)).2.2.2
  · cases hn



set_option maxHeartbeats 1600000 in
theorem implReads_any (d : Dk) (v : Value) (x : Lab) (w : World) (h : eDesk w v d) (hl : d.sz ≤ 1048576) :
    Calls Try.prog 15 #[v, .agg #[(.int .i64 x.lv), (.int .i64 x.st)]] w fun e w' => ∃ v', e = .returned v' ∧ Ext w w' ∧ Row w.heap.size w' 2 1 intCell v' (readsD d x) := by
  have HD := Lib.hid h
  obtain ⟨a1, c1, a2, c2, a3, c3, rfl, z1, z2, p1, p2, p3⟩ := h
  have hlb : d.box.length ≤ 1048576 := by unfold Dk.sz at hl; omega
  have H2 := Lib.hid p2
  have HOK := Lib.hid (slr_ltrs p2)
  clear p1 p2 p3 z1 z2 hl
  unfold Dk.val at HD ⊢
  have hcs : boxR d = false ∨ (boxR d = true ∧ labR ⟨x.lv, x.st⟩ = false) ∨ (boxR d = true ∧ labR ⟨x.lv, x.st⟩ = true) := by
    cases boxR d <;> cases labR ⟨x.lv, x.st⟩ <;> simp
  rcases hcs with q1 | ⟨q1, q2⟩ | ⟨q1, q2⟩
  · have HR := Lib.hid (readsD_no (x := x) (by rw [q1]; rfl))
    go_enter Try.func15, Try.ntmps15
    go_wp2_with (first | (go_at_call 17; refine (implBoxRight_any d _ _ (HD.out.ext (by repeat (first | exact Ext.refl _ | apply Ext.plus | apply Ext.alloc | apply Ext.drew)))).mono ?_; rintro e _ ⟨rfl, X, rfl⟩) | (go_at_call 50; refine (implLabelRight_any _ _ _).mono ?_; rintro e _ ⟨rfl, X, rfl⟩))
    go_ret
    exact ⟨_, rfl, (by repeat (first | exact Ext.refl _ | apply Ext.plus | apply Ext.alloc | apply Ext.drew)), (by rw [HR.out]; exact Row.nil _ _ _ _ _)⟩
  · have HR := Lib.hid (readsD_no (x := x) (d := d) (by rw [show labR x = false from q2, Bool.and_false]))
    go_enter Try.func15, Try.ntmps15
    go_wp2_with (first | (go_at_call 17; refine (implBoxRight_any d _ _ (HD.out.ext (by repeat (first | exact Ext.refl _ | apply Ext.plus | apply Ext.alloc | apply Ext.drew)))).mono ?_; rintro e _ ⟨rfl, X, rfl⟩) | (go_at_call 50; refine (implLabelRight_any _ _ _).mono ?_; rintro e _ ⟨rfl, X, rfl⟩))
    go_ret
    exact ⟨_, rfl, (by repeat (first | exact Ext.refl _ | apply Ext.plus | apply Ext.alloc | apply Ext.drew)), (by rw [HR.out]; exact Row.nil _ _ _ _ _)⟩
  have HR := Lib.hid (readsD_yes (x := x) q1 q2)
  go_enter Try.func15, Try.ntmps15
  go_wp2_with (first | (go_at_call 17; refine (implBoxRight_any d _ _ (HD.out.ext (by repeat (first | exact Ext.refl _ | apply Ext.plus | apply Ext.alloc | apply Ext.drew)))).mono ?_; rintro e _ ⟨rfl, X, rfl⟩) | (go_at_call 50; refine (implLabelRight_any _ _ _).mono ?_; rintro e _ ⟨rfl, X, rfl⟩))
  clear q1 q2
  go_loopw [20, 5, 7] (fun i o _ wr => ∃ k : Nat, k ≤ d.box.length ∧ i = .int .i64 k ∧ Ext ((w.alloc (.cells #[.slice a1 d.pairs.length c1, .slice a2 d.box.length c2, .slice a3 d.audit.length c3, (.int .i64 d.used), (.int .i64 d.now)] 25)).alloc (.cells #[(.int .i64 x.lv), (.int .i64 x.st)] 27)) wr ∧ Hid (Row ((w.alloc (.cells #[.slice a1 d.pairs.length c1, .slice a2 d.box.length c2, .slice a3 d.audit.length c3, (.int .i64 d.used), (.int .i64 d.now)] 25)).alloc (.cells #[(.int .i64 x.lv), (.int .i64 x.st)] 27)).heap.size wr 2 1 intCell o (rdN d.box x k))) (fun i _ _ _ => d.box.length - (intOf i).toNat)
  case atStart => exact ⟨0, Nat.zero_le _, rfl, (by repeat (first | exact Ext.refl _ | apply Ext.plus | apply Ext.alloc | apply Ext.drew)), Lib.hid (by rw [rdN_zero]; exact (by repeat (first | (refine Row.madeB' ?_ ?_ <;> (simp <;> omega)) | refine Row.plus ?_ _)))⟩
  case round =>
    obtain ⟨k, hk, rfl, ⟨X, rfl⟩, HH⟩ := hrel
    obtain ⟨ao, co, rfl⟩ := HH.out.shape
    by_cases hlt : k < d.box.length
    · obtain ⟨b, off, rfl⟩ := slr_some H2.out hlt
      obtain ⟨ho, hok, h0, h1, h2, h3, h4, h5⟩ := ltr_at H2.out hlt
      have HB := Lib.hid hok.2.1.2
      have hN := Lib.hid (rdN_step (x := x) hlt)
      have hZ := rdN_len d.box x k
      go_wp2_with fail
      refine (implbelow_any _ _ _ _ _ HB.out).mono ?_
      rintro e _ ⟨rfl, Y, rfl⟩
      cases hf : blw ⟨d.box[k].b.lv, d.box[k].b.st⟩ ⟨x.lv, x.st⟩
      · go_wp2
        exact ⟨⟨k + 1, by omega, by go_num, (by repeat (first | exact Ext.refl _ | apply Ext.plus | apply Ext.alloc | apply Ext.drew)), Lib.hid (by rw [hN.out, if_neg (by rw [show blw d.box[k].b x = false from hf]; simp)]; exact HH.out.ext (by repeat (first | exact Ext.refl _ | apply Ext.plus | apply Ext.alloc | apply Ext.drew)))⟩, by simp [intOf]; omega⟩
      · go_wp2_with (at_builtin; go_must (refine Row.app el_Int rfl _ _ rfl ((w.alloc (.cells #[.slice a1 d.pairs.length c1, .slice (some ⟨b, off, none⟩) d.box.length c2, .slice a3 d.audit.length c3, (.int .i64 d.used), (.int .i64 d.now)] 25)).alloc (.cells #[(.int .i64 x.lv), (.int .i64 x.st)] 27)) (by repeat (first | exact Ext.refl _ | apply Ext.plus | apply Ext.alloc | apply Ext.drew)) _ _ rfl (HH.out.ext (by repeat (first | exact Ext.refl _ | apply Ext.plus | apply Ext.alloc | apply Ext.drew))) d.box[k].q rfl _ ?_ rfl rfl ?_ ?_ ?_ ?_); (simp [go_sem]); (simp [Value.oneCell']); (unfold maxLen; omega); omega; intro v' X' hown' hne; have HO' := Lib.hid hown'; clear hown' hne)
        exact ⟨⟨k + 1, by omega, by go_num, (by repeat (first | exact Ext.refl _ | apply Ext.plus | apply Ext.alloc | apply Ext.drew)), Lib.hid (by rw [hN.out, if_pos (show blw d.box[k].b x = true from hf)]; exact HO'.out)⟩, by simp [intOf]; omega⟩
    · go_wp2
      obtain rfl : k = d.box.length := by omega
      go_ret
      exact ⟨_, rfl, (by repeat (first | exact Ext.refl _ | apply Ext.plus | apply Ext.alloc | apply Ext.drew)), (by rw [HR.out]; exact HH.out.mono (B' := w.heap.size) (by simp; omega))⟩

set_option maxHeartbeats 1600000 in
theorem specReads_any (d : Dk) (v : Value) (x : Lab) (w : World) (h : eDesk w v d) (hl : d.sz ≤ 1048576) :
    Calls Try.prog 16 #[v, .agg #[(.int .i64 x.lv), (.int .i64 x.st)]] w fun e w' => ∃ v', e = .returned v' ∧ Ext w w' ∧ Row w.heap.size w' 2 1 intCell v' (readsD d x) := by
  have HD := Lib.hid h
  obtain ⟨a1, c1, a2, c2, a3, c3, rfl, z1, z2, p1, p2, p3⟩ := h
  have hlb : d.box.length ≤ 1048576 := by unfold Dk.sz at hl; omega
  have H2 := Lib.hid p2
  clear p1 p2 p3 z1 z2 hl
  unfold Dk.val at HD ⊢
  have hcs : boxR d = false ∨ (boxR d = true ∧ labR ⟨x.lv, x.st⟩ = false) ∨ (boxR d = true ∧ labR ⟨x.lv, x.st⟩ = true) := by
    cases boxR d <;> cases labR ⟨x.lv, x.st⟩ <;> simp
  rcases hcs with q1 | ⟨q1, q2⟩ | ⟨q1, q2⟩
  · have HR := Lib.hid (readsD_no (x := x) (by rw [q1]; rfl))
    go_enter Try.func16, Try.ntmps16
    go_wp2_with (first | (go_at_call 18; refine (specBoxRight_any d _ _ (HD.out.ext (by repeat (first | exact Ext.refl _ | apply Ext.plus | apply Ext.alloc | apply Ext.drew)))).mono ?_; rintro e _ ⟨rfl, X, rfl⟩) | (go_at_call 52; refine (specLabelRight_any _ _ _).mono ?_; rintro e _ ⟨rfl, X, rfl⟩))
    go_ret
    exact ⟨_, rfl, (by repeat (first | exact Ext.refl _ | apply Ext.plus | apply Ext.alloc | apply Ext.drew)), (by rw [HR.out]; exact (by repeat (first | (refine Row.madeB' ?_ ?_ <;> (simp <;> omega)) | refine Row.plus ?_ _)))⟩
  · have HR := Lib.hid (readsD_no (x := x) (d := d) (by rw [show labR x = false from q2, Bool.and_false]))
    go_enter Try.func16, Try.ntmps16
    go_wp2_with (first | (go_at_call 18; refine (specBoxRight_any d _ _ (HD.out.ext (by repeat (first | exact Ext.refl _ | apply Ext.plus | apply Ext.alloc | apply Ext.drew)))).mono ?_; rintro e _ ⟨rfl, X, rfl⟩) | (go_at_call 52; refine (specLabelRight_any _ _ _).mono ?_; rintro e _ ⟨rfl, X, rfl⟩))
    go_ret
    exact ⟨_, rfl, (by repeat (first | exact Ext.refl _ | apply Ext.plus | apply Ext.alloc | apply Ext.drew)), (by rw [HR.out]; exact (by repeat (first | (refine Row.madeB' ?_ ?_ <;> (simp <;> omega)) | refine Row.plus ?_ _)))⟩
  have HR := Lib.hid (readsD_yes (x := x) q1 q2)
  go_enter Try.func16, Try.ntmps16
  go_wp2_with (first | (go_at_call 18; refine (specBoxRight_any d _ _ (HD.out.ext (by repeat (first | exact Ext.refl _ | apply Ext.plus | apply Ext.alloc | apply Ext.drew)))).mono ?_; rintro e _ ⟨rfl, X, rfl⟩) | (go_at_call 52; refine (specLabelRight_any _ _ _).mono ?_; rintro e _ ⟨rfl, X, rfl⟩))
  clear q1 q2
  go_loopw [5, 6] (fun o i wr => ∃ k : Nat, k ≤ d.box.length ∧ i = .int .i64 k ∧ Ext ((w.alloc (.cells #[.slice a1 d.pairs.length c1, .slice a2 d.box.length c2, .slice a3 d.audit.length c3, (.int .i64 d.used), (.int .i64 d.now)] 25)).alloc (.cells #[(.int .i64 x.lv), (.int .i64 x.st)] 27)) wr ∧ Hid (Row ((w.alloc (.cells #[.slice a1 d.pairs.length c1, .slice a2 d.box.length c2, .slice a3 d.audit.length c3, (.int .i64 d.used), (.int .i64 d.now)] 25)).alloc (.cells #[(.int .i64 x.lv), (.int .i64 x.st)] 27)).heap.size wr 2 1 intCell o (rdN d.box x k))) (fun _ i _ => d.box.length - (intOf i).toNat)
  case atStart => exact ⟨0, Nat.zero_le _, rfl, (by repeat (first | exact Ext.refl _ | apply Ext.plus | apply Ext.alloc | apply Ext.drew)), Lib.hid (by rw [rdN_zero]; exact (by repeat (first | (refine Row.madeB' ?_ ?_ <;> (simp <;> omega)) | refine Row.plus ?_ _)))⟩
  case round =>
    obtain ⟨k, hk, rfl, ⟨X, rfl⟩, HH⟩ := hrel
    obtain ⟨ao, co, rfl⟩ := HH.out.shape
    by_cases hlt : k < d.box.length
    · obtain ⟨b, off, rfl⟩ := slr_some H2.out hlt
      obtain ⟨ho, hok, h0, h1, h2, h3, h4, h5⟩ := ltr_at H2.out hlt
      have hN := Lib.hid (rdN_step (x := x) hlt)
      have hZ := rdN_len d.box x k
      go_upto_region 7 with fail
      cases hf : blw ⟨d.box[k].b.lv, d.box[k].b.st⟩ ⟨x.lv, x.st⟩
      all_goals (refine wp_region_x 8 (by kernel_rfl) (by kernel_rfl) (by kernel_rfl) ?_; (iterate 8 (apply XReg.step; (case h => (intro w' hw'; obtain ⟨X', rfl⟩ := hw'; go_wp2_with ((go_at_call 53; refine (specbelow_any _ _ _ _ _).mono ?_; rintro e _ ⟨rfl, X, rfl⟩)); exact ⟨rfl, (by repeat (first | exact Ext.refl _ | apply Ext.plus | apply Ext.alloc | apply Ext.drew))⟩)); (case hv => kernel_rfl))); refine XReg.doneN (fun X => ?_))
      · go_wp2
        exact ⟨⟨k + 1, by omega, by go_num, (by repeat (first | exact Ext.refl _ | apply Ext.plus | apply Ext.alloc | apply Ext.drew)), Lib.hid (by rw [hN.out, if_neg (by rw [show blw d.box[k].b x = false from hf]; simp)]; exact HH.out.ext (by repeat (first | exact Ext.refl _ | apply Ext.plus | apply Ext.alloc | apply Ext.drew)))⟩, by simp [intOf]; omega⟩
      · go_wp2_with (at_builtin; go_must (refine Row.app el_Int rfl _ _ rfl ((w.alloc (.cells #[.slice a1 d.pairs.length c1, .slice (some ⟨b, off, none⟩) d.box.length c2, .slice a3 d.audit.length c3, (.int .i64 d.used), (.int .i64 d.now)] 25)).alloc (.cells #[(.int .i64 x.lv), (.int .i64 x.st)] 27)) (by repeat (first | exact Ext.refl _ | apply Ext.plus | apply Ext.alloc | apply Ext.drew)) _ _ rfl (HH.out.ext (by repeat (first | exact Ext.refl _ | apply Ext.plus | apply Ext.alloc | apply Ext.drew))) d.box[k].q rfl _ ?_ rfl rfl ?_ ?_ ?_ ?_); (simp [go_sem]); (simp [Value.oneCell']); (unfold maxLen; omega); omega; intro v' X' hown' hne; have HO' := Lib.hid hown'; clear hown' hne)
        exact ⟨⟨k + 1, by omega, by go_num, (by repeat (first | exact Ext.refl _ | apply Ext.plus | apply Ext.alloc | apply Ext.drew)), Lib.hid (by rw [hN.out, if_pos (show blw d.box[k].b x = true from hf)]; exact HO'.out)⟩, by simp [intOf]; omega⟩
    · go_wp2
      obtain rfl : k = d.box.length := by omega
      go_ret
      exact ⟨_, rfl, (by repeat (first | exact Ext.refl _ | apply Ext.plus | apply Ext.alloc | apply Ext.drew)), (by rw [HR.out]; exact HH.out.mono (B' := w.heap.size) (by simp; omega))⟩
end Go.Proofs.Ytocadhcggkbimaa

set_option maxRecDepth 100000
set_option linter.unusedVariables false
namespace Go.Proofs.Ytocadhcggkbimaa
open Go.RowKit Go.Fin1


theorem own_int_new (w : World) (xs : List Int) (hm : xs.length ≤ maxLen) : ∃ a c w' fp, Own w.heap.size w' oIntS fp [.slice a xs.length c] xs := by
  obtain ⟨fp, h⟩ := Row.own (B := w.heap.size) (w := w.alloc (.cells (xs.map (Value.int .i64)).toArray 2)) (ty := 2) (K := 1) (f := intCell) (v := .slice (some ⟨w.heap.size, 0, none⟩) xs.length xs.length) (xs := xs) (fun _ => rfl)
    ⟨flatMap_len (K := 1) (fun _ => rfl) xs, .inr ⟨w.heap.size, xs.length, _, rfl, Nat.le_refl _, heap_alloc_new w _, Nat.le_refl _, hm, by simp, by
      rw [Nat.mul_one, List.take_of_length_le (by simp)]
      induction xs with
      | nil => rfl
      | cons x xs ih => simp [intCell] at ih ⊢; exact ih (by simp at hm; omega)⟩⟩
  exact ⟨_, _, _, fp, h⟩
/-- A list of integers of its own, in blocks from B on. -/
def kIntO (B : Nat) (R : List Int) : XReg.Kind := fun v w => ∃ a c fp, v = .slice a R.length c ∧ Own B w oIntS fp [.slice a R.length c] R
theorem kIntO_good (B : Nat) {R : List Int} (hm : R.length ≤ maxLen) : XReg.GoodK (kIntO B R) :=
  ⟨fun _ _ _ hx ⟨a, c, fp, hv, h⟩ => ⟨a, c, fp, hv, h.ext oIntS_local oIntS_held hx⟩, by
    obtain ⟨a, c, w', fp, h⟩ := own_int_new { (default : World) with heap := Array.replicate B (.cells #[] 0) } R hm
    exact ⟨_, w', a, c, fp, rfl, h.mono (by simp)⟩⟩
theorem kIntO_in {B : Nat} {R : List Int} {w : World} {fp : List Nat} {v : Value} (h : Own B w oIntS fp [v] R) : kIntO B R v w := by
  obtain ⟨a, c, rfl⟩ := h.shape
  exact ⟨a, c, fp, rfl, h⟩
theorem kIntO_out {B : Nat} {R : List Int} {w : World} {v : Value} (h : kIntO B R v w) : ∃ fp, Own B w oIntS fp [v] R := by
  obtain ⟨a, c, fp, rfl, h⟩ := h; exact ⟨fp, h⟩
theorem OwnD.low {B : Nat} {w : World} {f1 f2 f3 : List Nat} {p b a : Value} {d : Dk} (h : OwnD B w f1 f2 f3 p b a d) : ∀ x ∈ f1 ++ f2 ++ f3, B ≤ x := fun x hx => by
  simp only [List.mem_append] at hx
  rcases hx with (hx | hx) | hx
  · exact h.p.2.2 x hx
  · exact h.b.2.2 x hx
  · exact h.a.2.2 x hx
theorem OwnD.high {B : Nat} {w : World} {f1 f2 f3 : List Nat} {p b a : Value} {d : Dk} (h : OwnD B w f1 f2 f3 p b a d) : ∀ x ∈ f1 ++ f2 ++ f3, x < w.heap.size := fun x hx => by
  simp only [List.mem_append] at hx
  rcases hx with (hx | hx) | hx
  · exact oLetterS_held _ _ _ _ h.p.1 x hx
  · exact oLetterS_held _ _ _ _ h.b.1 x hx
  · exact oLetterS_held _ _ _ _ h.a.1 x hx

end Go.Proofs.Ytocadhcggkbimaa

set_option maxRecDepth 100000
set_option linter.unusedVariables false
namespace Go.Proofs.Ytocadhcggkbimaa
open Go.RowKit Go.Fin1

set_option maxHeartbeats 800000 in
theorem cloneLtr_any (v : Value) (l : List Ltr) (w : World) (h : SlR w 6 (rc Ltr.cells) v l) (hl : l.length ≤ 1048576) :
    Calls Try.prog 91 #[v] w fun e w' => ∃ v', e = .returned v' ∧ Ext w w' ∧ Row w.heap.size w' 75 6 Ltr.cells v' l := by
  obtain ⟨ad, cap, rfl⟩ := h.len
  have q22 : ∀ (w : World) (a : Option Addr) (n c n' c' : Nat), (binOp .eql 23 (.slice a n c) (.slice none n' c')).run Try.prog w = .ok (.bool a.isNone) w := fun w a n c n' c' => Lib.run_eql_slice_nil w _ _ a n c n' c' (show Try.prog.underlying 23 = some (.slice 75) by kernel_rfl)
  have HS := Lib.hid h
  cases ad with
  | none =>
    have h0 : l = [] := by
      cases l with
      | nil => rfl
      | cons x l => obtain ⟨b, off, he⟩ := slr_some h (Nat.zero_lt_succ _); cases he
    subst h0
    clear h
    go_enter Try.func91, Try.ntmps91
    go_wp2
    go_ret
    exact ⟨_, rfl, (by repeat (first | exact Ext.refl _ | apply Ext.plus | apply Ext.alloc | apply Ext.drew)), Row.nil _ _ _ _ _⟩
  | some ad =>
    have HC := Lib.hid (slr_flat (f := Ltr.cells) (K := 6) (fun _ => rfl) h)
    clear h
    go_enter Try.func91, Try.ntmps91
    go_wp2_with (at_builtin; go_must (refine Row.appS (f := Ltr.cells) el_Letter rfl _ _ rfl w (by repeat (first | exact Ext.refl _ | apply Ext.plus | apply Ext.alloc | apply Ext.drew)) _ _ rfl (Row.made _ _ _ _) ad l.length cap l rfl rfl (fun _ => rfl) ?_ ?_ ?_ ?_ ?_); (exact fun j u hu => Ext.cellA (by repeat (first | exact Ext.refl _ | apply Ext.plus | apply Ext.alloc | apply Ext.drew)) (HC.out j u hu)); (intro u hu; obtain ⟨x, _, hx⟩ := List.mem_flatMap.1 hu; simp [Ltr.cells] at hx; first | (rcases hx with rfl | rfl <;> rfl) | (subst hx; rfl) | (rcases hx with rfl | rfl | rfl <;> rfl) | (rcases hx with rfl | rfl | rfl | rfl | rfl | rfl <;> rfl)); (unfold maxLen; simp; omega); (simp; omega); intro v' X' hown' hne; have HO' := Lib.hid hown'; clear hown' hne)
    go_ret
    exact ⟨_, rfl, (by repeat (first | exact Ext.refl _ | apply Ext.plus | apply Ext.alloc | apply Ext.drew)), by have := HO'.out; simpa using this⟩

theorem rLtr_rc {w : World} {v : Value} {l : List Ltr} (h : SlR w 6 rLtr v l) : SlR w 6 (rc Ltr.cells) v l := slr_with h fun _ _ _ hr => hr.1

/-- A list of letters in blocks of its own, made by one operation. -/
def kLtrN (B : Nat) (l : List Ltr) (x : Nat × Nat) : XReg.Kind := fun v w => ∃ a c fp, v = .slice a l.length c ∧ Own x.1 w oLetterS fp [.slice a l.length c] l ∧ (∀ b ∈ fp, b < x.2) ∧ B ≤ x.1
theorem own_ltr_new (w : World) (xs : List Ltr) (hm : xs.length ≤ maxLen) : ∃ a c w' fp, Own w.heap.size w' oLetterS fp [.slice a xs.length c] xs := by
  obtain ⟨fp, h⟩ := Row.own (B := w.heap.size) (w := w.alloc (.cells (xs.flatMap Ltr.cells).toArray 75)) (ty := 75) (K := 6) (f := Ltr.cells) (v := .slice (some ⟨w.heap.size, 0, none⟩) xs.length xs.length) (xs := xs) (fun _ => rfl)
    ⟨flatMap_len (K := 6) (fun _ => rfl) xs, .inr ⟨w.heap.size, xs.length, _, rfl, Nat.le_refl _, heap_alloc_new w _, Nat.le_refl _, hm, (by have := flatMap_len (f := Ltr.cells) (K := 6) (fun _ => rfl) xs; simpa using this), by
      rw [List.take_of_length_le (Nat.le_of_eq (flatMap_len (f := Ltr.cells) (K := 6) (fun _ => rfl) xs))]⟩⟩
  exact ⟨_, _, _, fp, h⟩
theorem kLtrN_good (B : Nat) {l : List Ltr} (hm : l.length ≤ maxLen) : (XReg.ZOp.A (kLtrN B l) [] [] []).Good :=
  ⟨fun x v w w' hx ⟨a, c, fp, hv, h, hb⟩ => ⟨a, c, fp, hv, h.ext oLetterS_local oLetterS_held hx.ext0, hb⟩, by
    obtain ⟨a, c, w', fp, h⟩ := own_ltr_new { (default : World) with heap := Array.replicate B (.cells #[] 0) } l hm
    exact ⟨(_, w'.heap.size), _, w', a, c, fp, rfl, h, oLetterS_held _ _ _ _ h.1, by simp⟩⟩
theorem kLtrN_in {B C m : Nat} {l : List Ltr} {w : World} {fp : List Nat} {v : Value} (h : Own B w oLetterS fp [v] l) (hB : B = m) (hC : C ≤ B) {n : Nat} (hn : n = w.heap.size) : kLtrN C l (m, n) v w := by
  subst hn hB
  obtain ⟨a, c, rfl⟩ := h.shape
  exact ⟨a, c, fp, rfl, h, oLetterS_held _ _ _ _ h.1, hC⟩
theorem kLtrN_out {B : Nat} {l : List Ltr} {x : Nat × Nat} {w : World} {v : Value} (h : kLtrN B l x v w) : ∃ fp, Own x.1 w oLetterS fp [v] l ∧ (∀ b ∈ fp, b < x.2) ∧ B ≤ x.1 := by
  obtain ⟨a, c, fp, rfl, h, hb⟩ := h; exact ⟨fp, h, hb⟩
theorem apart_range {x y : Nat × Nat} {f g : List Nat} (h : x.2 ≤ y.1 ∨ y.2 ≤ x.1) (f1 : ∀ b ∈ f, x.1 ≤ b) (f2 : ∀ b ∈ f, b < x.2) (g1 : ∀ b ∈ g, y.1 ≤ b) (g2 : ∀ b ∈ g, b < y.2) : ∀ b ∈ f, b ∉ g := fun b hb hg => by
  have := f1 b hb; have := f2 b hb; have := g1 b hg; have := g2 b hg; omega

set_option maxHeartbeats 3200000 in
theorem copyDesk_any (d : Dk) (v : Value) (w : World) (h : eDesk w v d) (hf : d.sz ≤ 1048576) :
    Calls Try.prog 46 #[v] w fun e w' => ∃ p b a f1 f2 f3, e = .returned (d.val p b a) ∧ Ext w w' ∧ OwnD w.heap.size w' f1 f2 f3 p b a d := by
  obtain ⟨a1, c1, a2, c2, a3, c3, rfl, z1, z2, h1, h2, h3⟩ := h
  have H1 := Lib.hid h1
  have H2 := Lib.hid h2
  have H3 := Lib.hid h3
  have hg1 : d.pairs.length ≤ maxLen := by unfold Dk.sz at hf; unfold maxLen; omega
  have hg2 : d.box.length ≤ maxLen := by unfold Dk.sz at hf; unfold maxLen; omega
  have hg3 : d.audit.length ≤ maxLen := by unfold Dk.sz at hf; unfold maxLen; omega
  clear h1 h2 h3 z1 z2
  unfold Dk.val
  go_enter Try.func46, Try.ntmps46
  go_upto_region 1 with fail
  (refine wp_region_z [] [.V (.pointer (some ⟨w.heap.size, 0, none⟩)), XReg.ZOp.A (fun _ u _ => u = (.slice a1 d.pairs.length c1)) [] [] [], .A (kLtrN (w.heap.size + 1 + 1) d.pairs) [] [] [], .V (.pointer (some ⟨w.heap.size, 1, none⟩)), XReg.ZOp.A (fun _ u _ => u = (.slice a2 d.box.length c2)) [] [] [], .A (kLtrN (w.heap.size + 1 + 1) d.box) [] [] [], .V (.pointer (some ⟨w.heap.size, 2, none⟩)), XReg.ZOp.A (fun _ u _ => u = (.slice a3 d.audit.length c3)) [] [] [], .A (kLtrN (w.heap.size + 1 + 1) d.audit) [] [] [], .V (.pointer (some ⟨w.heap.size, 0, none⟩)), .T, .V (.pointer (some ⟨w.heap.size, 1, none⟩)), .T, .V (.pointer (some ⟨w.heap.size, 2, none⟩)), .T] [_, _, _] (by kernel_rfl) (by kernel_rfl) (by kernel_rfl) (by kernel_rfl) rfl ?_ (by repeat' (first | exact trivial | exact XReg.ZOp.good_is _ _ _ _ | exact XReg.ZOp.good_v _ | exact XReg.ZOp.good_t | (first | exact kLtrN_good _ hg1 | exact kLtrN_good _ hg2 | exact kLtrN_good _ hg3) | refine And.intro ?_ ?_)) (by repeat' (first | exact trivial | exact XReg.subL_nil _ | exact XReg.subL_refl _ | exact Or.inr (XReg.subL_nil _) | exact Or.inr (XReg.subL_refl _) | exact Or.inl (by kernel_rfl) | refine And.intro ?_ ?_)))
  clear hg1 hg2 hg3
  (apply ZReg.val (.pointer (some ⟨w.heap.size, 0, none⟩)); (case h => (intro w'; go_wp2_with (fail); first | exact ⟨rfl, rfl⟩ | exact rfl)); (case hv => kernel_rfl))
  (apply ZReg.setE (.slice a1 d.pairs.length c1); (case h => (intro w' hw' hF'; obtain ⟨X', rfl⟩ := hw'; have HF' := Lib.hid hF'; clear hF'; go_wp2_with (fail); exact ⟨rfl, (by repeat (first | exact Ext.refl _ | apply Ext.plus | apply Ext.alloc | apply Ext.drew))⟩)); (case hv => kernel_rfl); intro _)
  refine ZReg.kindE (fun w' hw' hF' => ?_) (fun v w1 x1 hK => ?_)
  · obtain ⟨X', rfl⟩ := hw'
    clear hF'
    go_wp2_with fail
    refine (cloneLtr_any _ d.pairs _ (rLtr_rc (H1.out.ext rLtr_stable (by repeat (first | exact Ext.refl _ | apply Ext.plus | apply Ext.alloc | apply Ext.drew)))) (by unfold Dk.sz at hf; omega)).mono ?_
    rintro e _ ⟨v3, rfl, ⟨X3, rfl⟩, hR⟩
    obtain ⟨fp3, hO⟩ := Row.own (f := Ltr.cells) (K := 6) (fun _ => rfl) hR
    have HO := Lib.hid hO
    obtain ⟨a9, c9, rfl⟩ := hO.shape
    clear hO hR
    go_wp2
    exact ⟨(by repeat (first | exact Ext.refl _ | apply Ext.plus | apply Ext.alloc | apply Ext.drew)), kLtrN_in HO.out (by simp) (by simp; try omega) (by simp)⟩
  obtain ⟨b1, e1, fp0, rfl, q1, q2⟩ := hK
  clear q1 q2 w1 fp0
  (apply ZReg.val (.pointer (some ⟨w.heap.size, 1, none⟩)); (case h => (intro w'; go_wp2_with (fail); first | exact ⟨rfl, rfl⟩ | exact rfl)); (case hv => kernel_rfl))
  (apply ZReg.setE (.slice a2 d.box.length c2); (case h => (intro w' hw' hF'; obtain ⟨X', rfl⟩ := hw'; have HF' := Lib.hid hF'; clear hF'; go_wp2_with (fail); exact ⟨rfl, (by repeat (first | exact Ext.refl _ | apply Ext.plus | apply Ext.alloc | apply Ext.drew))⟩)); (case hv => kernel_rfl); intro _)
  refine ZReg.kindE (fun w' hw' hF' => ?_) (fun v w1 x2 hK => ?_)
  · obtain ⟨X', rfl⟩ := hw'
    clear hF'
    go_wp2_with fail
    refine (cloneLtr_any _ d.box _ (rLtr_rc (H2.out.ext rLtr_stable (by repeat (first | exact Ext.refl _ | apply Ext.plus | apply Ext.alloc | apply Ext.drew)))) (by unfold Dk.sz at hf; omega)).mono ?_
    rintro e _ ⟨v3, rfl, ⟨X3, rfl⟩, hR⟩
    obtain ⟨fp3, hO⟩ := Row.own (f := Ltr.cells) (K := 6) (fun _ => rfl) hR
    have HO := Lib.hid hO
    obtain ⟨a9, c9, rfl⟩ := hO.shape
    clear hO hR
    go_wp2
    exact ⟨(by repeat (first | exact Ext.refl _ | apply Ext.plus | apply Ext.alloc | apply Ext.drew)), kLtrN_in HO.out (by simp) (by simp; try omega) (by simp)⟩
  obtain ⟨b2, e2, fp0, rfl, q1, q2⟩ := hK
  clear q1 q2 w1 fp0
  (apply ZReg.val (.pointer (some ⟨w.heap.size, 2, none⟩)); (case h => (intro w'; go_wp2_with (fail); first | exact ⟨rfl, rfl⟩ | exact rfl)); (case hv => kernel_rfl))
  (apply ZReg.setE (.slice a3 d.audit.length c3); (case h => (intro w' hw' hF'; obtain ⟨X', rfl⟩ := hw'; have HF' := Lib.hid hF'; clear hF'; go_wp2_with (fail); exact ⟨rfl, (by repeat (first | exact Ext.refl _ | apply Ext.plus | apply Ext.alloc | apply Ext.drew))⟩)); (case hv => kernel_rfl); intro _)
  refine ZReg.kindE (fun w' hw' hF' => ?_) (fun v w1 x3 hK => ?_)
  · obtain ⟨X', rfl⟩ := hw'
    clear hF'
    go_wp2_with fail
    refine (cloneLtr_any _ d.audit _ (rLtr_rc (H3.out.ext rLtr_stable (by repeat (first | exact Ext.refl _ | apply Ext.plus | apply Ext.alloc | apply Ext.drew)))) (by unfold Dk.sz at hf; omega)).mono ?_
    rintro e _ ⟨v3, rfl, ⟨X3, rfl⟩, hR⟩
    obtain ⟨fp3, hO⟩ := Row.own (f := Ltr.cells) (K := 6) (fun _ => rfl) hR
    have HO := Lib.hid hO
    obtain ⟨a9, c9, rfl⟩ := hO.shape
    clear hO hR
    go_wp2
    exact ⟨(by repeat (first | exact Ext.refl _ | apply Ext.plus | apply Ext.alloc | apply Ext.drew)), kLtrN_in HO.out (by simp) (by simp; try omega) (by simp)⟩
  obtain ⟨b3, e3, fp0, rfl, q1, q2⟩ := hK
  clear q1 q2 w1 fp0
  (apply ZReg.val (.pointer (some ⟨w.heap.size, 0, none⟩)); (case h => (intro w'; go_wp2_with (fail); first | exact ⟨rfl, rfl⟩ | exact rfl)); (case hv => kernel_rfl))
  refine ZReg.T ?_
  (apply ZReg.val (.pointer (some ⟨w.heap.size, 1, none⟩)); (case h => (intro w'; go_wp2_with (fail); first | exact ⟨rfl, rfl⟩ | exact rfl)); (case hv => kernel_rfl))
  refine ZReg.T ?_
  (apply ZReg.val (.pointer (some ⟨w.heap.size, 2, none⟩)); (case h => (intro w'; go_wp2_with (fail); first | exact ⟨rfl, rfl⟩ | exact rfl)); (case hv => kernel_rfl))
  refine ZReg.T ?_
  refine ZReg.doneE (fun X hF hR => ?_)
  obtain ⟨f1, O1, L1, B1⟩ := kLtrN_out (hF 2 (kLtrN (w.heap.size + 1 + 1) d.pairs x1, .slice b1 d.pairs.length e1) (by kernel_rfl))
  obtain ⟨f2, O2, L2, B2⟩ := kLtrN_out (hF 5 (kLtrN (w.heap.size + 1 + 1) d.box x2, .slice b2 d.box.length e2) (by kernel_rfl))
  obtain ⟨f3, O3, L3, B3⟩ := kLtrN_out (hF 8 (kLtrN (w.heap.size + 1 + 1) d.audit x3, .slice b3 d.audit.length e3) (by kernel_rfl))
  have A12 := Lib.hid (apart_range (hR 2 5 x1 x2 (by decide) (by kernel_rfl) (by kernel_rfl)) O1.2.2 L1 O2.2.2 L2)
  have A13 := Lib.hid (apart_range (hR 2 8 x1 x3 (by decide) (by kernel_rfl) (by kernel_rfl)) O1.2.2 L1 O3.2.2 L3)
  have A23 := Lib.hid (apart_range (hR 5 8 x2 x3 (by decide) (by kernel_rfl) (by kernel_rfl)) O2.2.2 L2 O3.2.2 L3)
  have HO1 := Lib.hid (O1.mono B1)
  have HO2 := Lib.hid (O2.mono B2)
  have HO3 := Lib.hid (O3.mono B3)
  clear hF hR L1 L2 L3 B1 B2 B3 O1 O2 O3
  refine ZReg.run ?_
  go_wp2
  refine ZReg.run ?_
  go_wp2
  refine ZReg.run ?_
  go_wp2
  refine ZReg.end_ ?_
  go_wp2
  refine bodyPost_ret (v := .agg #[.slice b1 d.pairs.length e1, .slice b2 d.box.length e2, .slice b3 d.audit.length e3, (.int .i64 d.used), (.int .i64 d.now)]) (by simp [results, Try.results46, go_sem]) rfl ⟨_, _, _, f1, f2, f3, rfl, (by repeat' (first | exact Ext.refl _ | exact Nat.le_refl _ | (dsimp only; omega) | apply Ext.setCell | apply Ext.plus | apply Ext.alloc | apply Ext.drew)), ?_, ?_, ?_, A12.out, A13.out, A23.out⟩
  · exact (HO1.out.swap oLetterS_local (by simp) (by simp)).mono (by omega)
  · exact (HO2.out.swap oLetterS_local (by simp) (by simp)).mono (by omega)
  · exact (HO3.out.swap oLetterS_local (by simp) (by simp)).mono (by omega)
end Go.Proofs.Ytocadhcggkbimaa

set_option maxRecDepth 100000
set_option linter.unusedVariables false
namespace Go.Proofs.Ytocadhcggkbimaa
open Go.RowKit Go.Fin1

/-- A list of letters in blocks of its own from B on. -/
def kLtrO (B : Nat) (l : List Ltr) : XReg.Kind := fun v w => ∃ a c fp, v = .slice a l.length c ∧ Own B w oLetterS fp [.slice a l.length c] l
theorem kLtrO_good (B : Nat) {l : List Ltr} (hm : l.length ≤ maxLen) : XReg.GoodK (kLtrO B l) :=
  ⟨fun _ _ _ hx ⟨a, c, fp, hv, h⟩ => ⟨a, c, fp, hv, h.ext oLetterS_local oLetterS_held hx⟩, by
    obtain ⟨a, c, w', fp, h⟩ := own_ltr_new { (default : World) with heap := Array.replicate B (.cells #[] 0) } l hm
    exact ⟨_, w', a, c, fp, rfl, h.mono (by simp)⟩⟩
theorem kLtrO_in {B : Nat} {l : List Ltr} {w : World} {fp : List Nat} {v : Value} (h : Own B w oLetterS fp [v] l) : kLtrO B l v w := by
  obtain ⟨a, c, rfl⟩ := h.shape
  exact ⟨a, c, fp, rfl, h⟩
theorem kLtrO_out {B : Nat} {l : List Ltr} {w : World} {v : Value} (h : kLtrO B l v w) : ∃ fp, Own B w oLetterS fp [v] l := by
  obtain ⟨a, c, fp, rfl, h⟩ := h; exact ⟨fp, h⟩
/-- A fresh empty list of letters. -/
def kEmpY (B : Nat) : XReg.Kind := fun v w => ∃ g, v = .slice (some ⟨g, 0, none⟩) 0 0 ∧ Row B w 75 6 Ltr.cells v []
theorem kEmpY_in {W : World} {g B : Nat} (hg : g = W.heap.size) (hB : B ≤ W.heap.size) : kEmpY B (.slice (some ⟨g, 0, none⟩) 0 0) (W.alloc (.cells #[] 75)) := ⟨g, rfl, by subst hg; exact (Row.made W _ _ _).mono hB⟩
theorem kEmpY_good (B : Nat) : XReg.GoodK (kEmpY B) := ⟨fun _ _ _ hx ⟨g, hv, h⟩ => ⟨g, hv, h.ext hx⟩, _, _, kEmpY_in (W := { (default : World) with heap := Array.replicate B (.cells #[] 0) }) rfl (by simp)⟩
theorem kEmpY_r {B : Nat} {v : Value} {w : World} (h : kEmpY B v w) : Row B w 75 6 Ltr.cells v [] := by obtain ⟨_, _, h⟩ := h; exact h
/-- A desk whose lists lie in blocks of their own from B on. -/
def kDeskO (B : Nat) (d : Dk) : XReg.Kind := fun v w => ∃ a1 c1 a2 c2 a3 c3 f1 f2 f3, v = d.val (.slice a1 d.pairs.length c1) (.slice a2 d.box.length c2) (.slice a3 d.audit.length c3) ∧ Own B w oLetterS f1 [.slice a1 d.pairs.length c1] d.pairs ∧ Own B w oLetterS f2 [.slice a2 d.box.length c2] d.box ∧ Own B w oLetterS f3 [.slice a3 d.audit.length c3] d.audit
theorem kDeskO_out {B : Nat} {d : Dk} {w : World} {p b a : Value} (h : kDeskO B d (d.val p b a) w) : ∃ f1 f2 f3, Own B w oLetterS f1 [p] d.pairs ∧ Own B w oLetterS f2 [b] d.box ∧ Own B w oLetterS f3 [a] d.audit := by
  obtain ⟨a1, c1, a2, c2, a3, c3, f1, f2, f3, hv, h⟩ := h
  unfold Dk.val at hv
  simp at hv
  obtain ⟨rfl, rfl, rfl⟩ := hv
  exact ⟨f1, f2, f3, h⟩
theorem own_ltr_at (w : World) (xs : List Ltr) (hm : xs.length ≤ maxLen) : ∃ a c X fp, Own w.heap.size (w.plus X) oLetterS fp [.slice a xs.length c] xs := by
  obtain ⟨fp, h⟩ := Row.own (B := w.heap.size) (w := w.alloc (.cells (xs.flatMap Ltr.cells).toArray 75)) (ty := 75) (K := 6) (f := Ltr.cells) (v := .slice (some ⟨w.heap.size, 0, none⟩) xs.length xs.length) (xs := xs) (fun _ => rfl)
    ⟨flatMap_len (K := 6) (fun _ => rfl) xs, .inr ⟨w.heap.size, xs.length, _, rfl, Nat.le_refl _, heap_alloc_new w _, Nat.le_refl _, hm, (by have := flatMap_len (f := Ltr.cells) (K := 6) (fun _ => rfl) xs; simpa using this), by
      rw [List.take_of_length_le (Nat.le_of_eq (flatMap_len (f := Ltr.cells) (K := 6) (fun _ => rfl) xs))]⟩⟩
  obtain ⟨X, hX⟩ := (Ext.refl w).alloc (.cells (xs.flatMap Ltr.cells).toArray 75)
  rw [hX] at h
  exact ⟨_, _, X, fp, h⟩
theorem kDeskO_good (B : Nat) {d : Dk} (h1 : d.pairs.length ≤ maxLen) (h2 : d.box.length ≤ maxLen) (h3 : d.audit.length ≤ maxLen) : XReg.GoodK (kDeskO B d) :=
  ⟨fun _ _ _ hx ⟨a1, c1, a2, c2, a3, c3, f1, f2, f3, hv, o1, o2, o3⟩ => ⟨a1, c1, a2, c2, a3, c3, f1, f2, f3, hv, o1.ext oLetterS_local oLetterS_held hx, o2.ext oLetterS_local oLetterS_held hx, o3.ext oLetterS_local oLetterS_held hx⟩, by
    obtain ⟨a1, c1, X1, f1, o1⟩ := own_ltr_at { (default : World) with heap := Array.replicate B (.cells #[] 0) } d.pairs h1
    obtain ⟨a2, c2, X2, f2, o2⟩ := own_ltr_at (World.plus { (default : World) with heap := Array.replicate B (.cells #[] 0) } X1) d.box h2
    obtain ⟨a3, c3, X3, f3, o3⟩ := own_ltr_at ((World.plus { (default : World) with heap := Array.replicate B (.cells #[] 0) } X1).plus X2) d.audit h3
    exact ⟨_, _, a1, c1, a2, c2, a3, c3, f1, f2, f3, rfl, ((o1.plus oLetterS_local oLetterS_held X2).plus oLetterS_local oLetterS_held X3).mono (by simp), (o2.plus oLetterS_local oLetterS_held X3).mono (by simp), o3.mono (by simp; try omega)⟩⟩

set_option maxHeartbeats 1600000 in
theorem l06Copy_any (d : Dk) (v : Value) (w : World) (h : eDesk w v d) (hf : d.sz ≤ 1048576) :
    Calls Try.prog 49 #[v] w fun e w' => ∃ p b a f1 f2 f3, e = .returned (d.val p b a) ∧ Ext w w' ∧ Own w.heap.size w' oLetterS f1 [p] d.pairs ∧ Own w.heap.size w' oLetterS f2 [b] d.box ∧ Own w.heap.size w' oLetterS f3 [a] d.audit := by
  obtain ⟨a1, c1, a2, c2, a3, c3, rfl, z1, z2, h1, h2, h3⟩ := h
  have HZ : Hid (I64 d.used ∧ I64 d.now) := Lib.hid ⟨z1, z2⟩
  have H1 := Lib.hid h1
  have H2 := Lib.hid h2
  have H3 := Lib.hid h3
  clear h1 h2 h3 z1 z2
  have hg1 : d.pairs.length ≤ maxLen := by unfold Dk.sz at hf; unfold maxLen; omega
  have hg2 : d.box.length ≤ maxLen := by unfold Dk.sz at hf; unfold maxLen; omega
  have hg3 : d.audit.length ≤ maxLen := by unfold Dk.sz at hf; unfold maxLen; omega
  unfold Dk.val
  go_enter Try.func49, Try.ntmps49
  go_upto_region 1 with fail
  (refine wp_region_y 17 [kEmpY (w.heap.size + 1 + 1), (fun u _ => u = (.pointer (some ⟨w.heap.size, 0, none⟩))), (fun u _ => u = (.slice a1 d.pairs.length c1)), kLtrO (w.heap.size + 1 + 1) d.pairs, kEmpY (w.heap.size + 1 + 1), (fun u _ => u = (.pointer (some ⟨w.heap.size, 1, none⟩))), (fun u _ => u = (.slice a2 d.box.length c2)), kLtrO (w.heap.size + 1 + 1) d.box, kEmpY (w.heap.size + 1 + 1), (fun u _ => u = (.pointer (some ⟨w.heap.size, 2, none⟩))), (fun u _ => u = (.slice a3 d.audit.length c3)), kLtrO (w.heap.size + 1 + 1) d.audit, (fun u _ => u = (.pointer (some ⟨w.heap.size, 3, none⟩))), (fun u _ => u = (.int .i64 d.used)), (fun u _ => u = (.pointer (some ⟨w.heap.size, 4, none⟩))), (fun u _ => u = (.int .i64 d.now)), kDeskO (w.heap.size + 1 + 1) d] (by kernel_rfl) (by kernel_rfl) (by kernel_rfl) rfl ?_ (by (repeat' (first | exact trivial | exact XReg.GoodK.same _ default | refine And.intro ?_ ?_)); all_goals (first | exact kEmpY_good _ | exact kLtrO_good _ hg1 | exact kLtrO_good _ hg2 | exact kLtrO_good _ hg3 | exact kDeskO_good _ hg1 hg2 hg3)))
  refine YReg.kind (fun w' hw' hF' => ?_) (fun v w1 hK => ?_)
  · obtain ⟨X', rfl⟩ := hw'
    clear hF'
    go_wp2
    exact ⟨(by repeat (first | exact Ext.refl _ | apply Ext.plus | apply Ext.alloc | apply Ext.drew)), kEmpY_in (by simp) (by simp; try omega)⟩
  obtain ⟨g1, rfl, hs3⟩ := hK
  clear hs3 w1
  (apply YReg.val (.pointer (some ⟨w.heap.size, 0, none⟩)); (case h => (intro w' hw' hF'; obtain ⟨X', rfl⟩ := hw'; have HF' := Lib.hid hF'; clear hF'; go_wp2_with (fail); exact ⟨rfl, (by repeat (first | exact Ext.refl _ | apply Ext.plus | apply Ext.alloc | apply Ext.drew))⟩)); (case hv => kernel_rfl))
  (apply YReg.val (.slice a1 d.pairs.length c1); (case h => (intro w' hw' hF'; obtain ⟨X', rfl⟩ := hw'; have HF' := Lib.hid hF'; clear hF'; go_wp2_with (fail); exact ⟨rfl, (by repeat (first | exact Ext.refl _ | apply Ext.plus | apply Ext.alloc | apply Ext.drew))⟩)); (case hv => kernel_rfl))
  refine YReg.kind (fun w' hw' hF' => ?_) (fun v w1 hK => ?_)
  · obtain ⟨X', rfl⟩ := hw'
    have HE := Lib.hid (kEmpY_r (hF'.get 0 (p := (kEmpY (w.heap.size + 1 + 1), .slice (some ⟨g1, 0, none⟩) 0 0)) (by kernel_rfl) (by kernel_rfl)))
    clear hF'
    unfold Dk.sz at hf
    refine Row.appE (f := Ltr.cells) el_Letter rfl _ _ rfl g1 rfl _ d.pairs rfl (fun _ => rfl) (rLtr_rc (H1.out.ext rLtr_stable (by repeat (first | exact Ext.refl _ | apply Ext.plus | apply Ext.alloc | apply Ext.drew)))) ?_ ?_ ?_ (HE.out.mono (Nat.zero_le _)) ?_ ?_
    · intro x u hu
      simp [Ltr.cells] at hu
      rcases hu with rfl | rfl | rfl | rfl | rfl | rfl <;> rfl
    · unfold maxLen; omega
    · omega
    · intro hnil
      have H9 : Hid (kLtrO (w.heap.size + 1 + 1) d.pairs (.slice (some ⟨g1, 0, none⟩) 0 0) _) := Lib.hid (by
        obtain ⟨fp, hO⟩ := Row.own (f := Ltr.cells) (K := 6) (fun _ => rfl) HE.out
        rw [hnil]
        exact ⟨_, _, _, rfl, hO⟩)
      clear hnil
      go_wp2
      exact ⟨(by repeat (first | exact Ext.refl _ | apply Ext.plus | apply Ext.alloc | apply Ext.drew)), H9.out⟩
    · intro v' Y' hR
      obtain ⟨fp, hO⟩ := Row.own (f := Ltr.cells) (K := 6) (fun _ => rfl) hR
      have H9 := Lib.hid (kLtrO_in (hO.mono (B' := w.heap.size + 1 + 1) (by simp; try omega)))
      obtain ⟨a9, c9, rfl⟩ := hO.shape
      clear hO hR
      go_wp2
      exact ⟨(by repeat (first | exact Ext.refl _ | apply Ext.plus | apply Ext.alloc | apply Ext.drew)), H9.out⟩
  obtain ⟨b1, e1, fp9, rfl, hs3⟩ := hK
  clear hs3 w1 fp9
  refine YReg.kind (fun w' hw' hF' => ?_) (fun v w1 hK => ?_)
  · obtain ⟨X', rfl⟩ := hw'
    clear hF'
    go_wp2
    exact ⟨(by repeat (first | exact Ext.refl _ | apply Ext.plus | apply Ext.alloc | apply Ext.drew)), kEmpY_in (by simp) (by simp; try omega)⟩
  obtain ⟨g2, rfl, hs3⟩ := hK
  clear hs3 w1
  (apply YReg.val (.pointer (some ⟨w.heap.size, 1, none⟩)); (case h => (intro w' hw' hF'; obtain ⟨X', rfl⟩ := hw'; have HF' := Lib.hid hF'; clear hF'; go_wp2_with (fail); exact ⟨rfl, (by repeat (first | exact Ext.refl _ | apply Ext.plus | apply Ext.alloc | apply Ext.drew))⟩)); (case hv => kernel_rfl))
  (apply YReg.val (.slice a2 d.box.length c2); (case h => (intro w' hw' hF'; obtain ⟨X', rfl⟩ := hw'; have HF' := Lib.hid hF'; clear hF'; go_wp2_with (fail); exact ⟨rfl, (by repeat (first | exact Ext.refl _ | apply Ext.plus | apply Ext.alloc | apply Ext.drew))⟩)); (case hv => kernel_rfl))
  refine YReg.kind (fun w' hw' hF' => ?_) (fun v w1 hK => ?_)
  · obtain ⟨X', rfl⟩ := hw'
    have HE := Lib.hid (kEmpY_r (hF'.get 4 (p := (kEmpY (w.heap.size + 1 + 1), .slice (some ⟨g2, 0, none⟩) 0 0)) (by kernel_rfl) (by kernel_rfl)))
    clear hF'
    unfold Dk.sz at hf
    refine Row.appE (f := Ltr.cells) el_Letter rfl _ _ rfl g2 rfl _ d.box rfl (fun _ => rfl) (rLtr_rc (H2.out.ext rLtr_stable (by repeat (first | exact Ext.refl _ | apply Ext.plus | apply Ext.alloc | apply Ext.drew)))) ?_ ?_ ?_ (HE.out.mono (Nat.zero_le _)) ?_ ?_
    · intro x u hu
      simp [Ltr.cells] at hu
      rcases hu with rfl | rfl | rfl | rfl | rfl | rfl <;> rfl
    · unfold maxLen; omega
    · omega
    · intro hnil
      have H9 : Hid (kLtrO (w.heap.size + 1 + 1) d.box (.slice (some ⟨g2, 0, none⟩) 0 0) _) := Lib.hid (by
        obtain ⟨fp, hO⟩ := Row.own (f := Ltr.cells) (K := 6) (fun _ => rfl) HE.out
        rw [hnil]
        exact ⟨_, _, _, rfl, hO⟩)
      clear hnil
      go_wp2
      exact ⟨(by repeat (first | exact Ext.refl _ | apply Ext.plus | apply Ext.alloc | apply Ext.drew)), H9.out⟩
    · intro v' Y' hR
      obtain ⟨fp, hO⟩ := Row.own (f := Ltr.cells) (K := 6) (fun _ => rfl) hR
      have H9 := Lib.hid (kLtrO_in (hO.mono (B' := w.heap.size + 1 + 1) (by simp; try omega)))
      obtain ⟨a9, c9, rfl⟩ := hO.shape
      clear hO hR
      go_wp2
      exact ⟨(by repeat (first | exact Ext.refl _ | apply Ext.plus | apply Ext.alloc | apply Ext.drew)), H9.out⟩
  obtain ⟨b2, e2, fp9, rfl, hs3⟩ := hK
  clear hs3 w1 fp9
  refine YReg.kind (fun w' hw' hF' => ?_) (fun v w1 hK => ?_)
  · obtain ⟨X', rfl⟩ := hw'
    clear hF'
    go_wp2
    exact ⟨(by repeat (first | exact Ext.refl _ | apply Ext.plus | apply Ext.alloc | apply Ext.drew)), kEmpY_in (by simp) (by simp; try omega)⟩
  obtain ⟨g3, rfl, hs3⟩ := hK
  clear hs3 w1
  (apply YReg.val (.pointer (some ⟨w.heap.size, 2, none⟩)); (case h => (intro w' hw' hF'; obtain ⟨X', rfl⟩ := hw'; have HF' := Lib.hid hF'; clear hF'; go_wp2_with (fail); exact ⟨rfl, (by repeat (first | exact Ext.refl _ | apply Ext.plus | apply Ext.alloc | apply Ext.drew))⟩)); (case hv => kernel_rfl))
  (apply YReg.val (.slice a3 d.audit.length c3); (case h => (intro w' hw' hF'; obtain ⟨X', rfl⟩ := hw'; have HF' := Lib.hid hF'; clear hF'; go_wp2_with (fail); exact ⟨rfl, (by repeat (first | exact Ext.refl _ | apply Ext.plus | apply Ext.alloc | apply Ext.drew))⟩)); (case hv => kernel_rfl))
  refine YReg.kind (fun w' hw' hF' => ?_) (fun v w1 hK => ?_)
  · obtain ⟨X', rfl⟩ := hw'
    have HE := Lib.hid (kEmpY_r (hF'.get 8 (p := (kEmpY (w.heap.size + 1 + 1), .slice (some ⟨g3, 0, none⟩) 0 0)) (by kernel_rfl) (by kernel_rfl)))
    clear hF'
    unfold Dk.sz at hf
    refine Row.appE (f := Ltr.cells) el_Letter rfl _ _ rfl g3 rfl _ d.audit rfl (fun _ => rfl) (rLtr_rc (H3.out.ext rLtr_stable (by repeat (first | exact Ext.refl _ | apply Ext.plus | apply Ext.alloc | apply Ext.drew)))) ?_ ?_ ?_ (HE.out.mono (Nat.zero_le _)) ?_ ?_
    · intro x u hu
      simp [Ltr.cells] at hu
      rcases hu with rfl | rfl | rfl | rfl | rfl | rfl <;> rfl
    · unfold maxLen; omega
    · omega
    · intro hnil
      have H9 : Hid (kLtrO (w.heap.size + 1 + 1) d.audit (.slice (some ⟨g3, 0, none⟩) 0 0) _) := Lib.hid (by
        obtain ⟨fp, hO⟩ := Row.own (f := Ltr.cells) (K := 6) (fun _ => rfl) HE.out
        rw [hnil]
        exact ⟨_, _, _, rfl, hO⟩)
      clear hnil
      go_wp2
      exact ⟨(by repeat (first | exact Ext.refl _ | apply Ext.plus | apply Ext.alloc | apply Ext.drew)), H9.out⟩
    · intro v' Y' hR
      obtain ⟨fp, hO⟩ := Row.own (f := Ltr.cells) (K := 6) (fun _ => rfl) hR
      have H9 := Lib.hid (kLtrO_in (hO.mono (B' := w.heap.size + 1 + 1) (by simp; try omega)))
      obtain ⟨a9, c9, rfl⟩ := hO.shape
      clear hO hR
      go_wp2
      exact ⟨(by repeat (first | exact Ext.refl _ | apply Ext.plus | apply Ext.alloc | apply Ext.drew)), H9.out⟩
  obtain ⟨b3, e3, fp9, rfl, hs3⟩ := hK
  clear hs3 w1 fp9
  (apply YReg.val (.pointer (some ⟨w.heap.size, 3, none⟩)); (case h => (intro w' hw' hF'; obtain ⟨X', rfl⟩ := hw'; have HF' := Lib.hid hF'; clear hF'; go_wp2_with (fail); exact ⟨rfl, (by repeat (first | exact Ext.refl _ | apply Ext.plus | apply Ext.alloc | apply Ext.drew))⟩)); (case hv => kernel_rfl))
  (apply YReg.val (.int .i64 d.used); (case h => (intro w' hw' hF'; obtain ⟨X', rfl⟩ := hw'; have HF' := Lib.hid hF'; clear hF'; go_wp2_with (fail); exact ⟨rfl, (by repeat (first | exact Ext.refl _ | apply Ext.plus | apply Ext.alloc | apply Ext.drew))⟩)); (case hv => kernel_rfl))
  (apply YReg.val (.pointer (some ⟨w.heap.size, 4, none⟩)); (case h => (intro w' hw' hF'; obtain ⟨X', rfl⟩ := hw'; have HF' := Lib.hid hF'; clear hF'; go_wp2_with (fail); exact ⟨rfl, (by repeat (first | exact Ext.refl _ | apply Ext.plus | apply Ext.alloc | apply Ext.drew))⟩)); (case hv => kernel_rfl))
  (apply YReg.val (.int .i64 d.now); (case h => (intro w' hw' hF'; obtain ⟨X', rfl⟩ := hw'; have HF' := Lib.hid hF'; clear hF'; go_wp2_with (fail); exact ⟨rfl, (by repeat (first | exact Ext.refl _ | apply Ext.plus | apply Ext.alloc | apply Ext.drew))⟩)); (case hv => kernel_rfl))
  refine YReg.kind (fun w' hw' hF' => ?_) (fun v w1 hK => ?_)
  · obtain ⟨X', rfl⟩ := hw'
    obtain ⟨f1, K1⟩ := kLtrO_out (hF'.get 3 (p := (kLtrO (w.heap.size + 1 + 1) d.pairs, .slice b1 d.pairs.length e1)) (by kernel_rfl) (by kernel_rfl))
    obtain ⟨f2, K2⟩ := kLtrO_out (hF'.get 7 (p := (kLtrO (w.heap.size + 1 + 1) d.box, .slice b2 d.box.length e2)) (by kernel_rfl) (by kernel_rfl))
    obtain ⟨f3, K3⟩ := kLtrO_out (hF'.get 11 (p := (kLtrO (w.heap.size + 1 + 1) d.audit, .slice b3 d.audit.length e3)) (by kernel_rfl) (by kernel_rfl))
    have HK : Hid (kDeskO (w.heap.size + 1 + 1) d (.agg #[.slice b1 d.pairs.length e1, .slice b2 d.box.length e2, .slice b3 d.audit.length e3, (.int .i64 d.used), (.int .i64 d.now)]) _) := Lib.hid ⟨b1, e1, b2, e2, b3, e3, f1, f2, f3, rfl, K1, K2, K3⟩
    clear hF' K1 K2 K3
    go_wp2
    exact ⟨(by repeat (first | exact Ext.refl _ | apply Ext.plus | apply Ext.alloc | apply Ext.drew)), HK.out⟩
  obtain ⟨p1, q1, p2, q2, p3, q3, f1, f2, f3, rfl, hz1, hz2, hz3⟩ := hK
  clear hz1 hz2 hz3 w1 f1 f2 f3 hg1 hg2 hg3
  unfold Dk.val
  refine YReg.done1 (fun X hF => ?_)
  obtain ⟨f1, f2, f3, o1, o2, o3⟩ := kDeskO_out (hF 16 (kDeskO (w.heap.size + 1 + 1) d, d.val (.slice p1 d.pairs.length q1) (.slice p2 d.box.length q2) (.slice p3 d.audit.length q3)) (by kernel_rfl))
  have O1 := Lib.hid o1
  have O2 := Lib.hid o2
  have O3 := Lib.hid o3
  have I1 := Lib.hid (slr_ltrs H1.out)
  have I2 := Lib.hid (slr_ltrs H2.out)
  have I3 := Lib.hid (slr_ltrs H3.out)
  clear hF o1 o2 o3
  go_wp2
  refine bodyPost_ret (v := .agg #[.slice p1 d.pairs.length q1, .slice p2 d.box.length q2, .slice p3 d.audit.length q3, (.int .i64 d.used), (.int .i64 d.now)]) (by simp [results, Try.results49, go_sem]) rfl ⟨.slice p1 d.pairs.length q1, .slice p2 d.box.length q2, .slice p3 d.audit.length q3, f1, f2, f3, rfl, (by repeat' (first | (with_reducible exact Ext.refl _) | (with_reducible refine Ext.plus ?_ _) | (with_reducible refine Ext.alloc ?_ _) | (with_reducible refine Ext.setCell ?_ ?_ _) | (with_reducible refine Ext.drew ?_) | (with_reducible exact Nat.le_refl _) | (dsimp only; omega))), ?_, ?_, ?_⟩
  · exact (O1.out.swap oLetterS_local (by simp) (by simp)).mono (by omega)
  · exact (O2.out.swap oLetterS_local (by simp) (by simp)).mono (by omega)
  · exact (O3.out.swap oLetterS_local (by simp) (by simp)).mono (by omega)
end Go.Proofs.Ytocadhcggkbimaa

set_option maxRecDepth 100000
set_option linter.unusedVariables false
namespace Go.Proofs.Ytocadhcggkbimaa
open Go.RowKit Go.Fin1

def zD : Dk := ⟨[], [], [], 0, 0⟩
/-- A desk and a code. -/
def stV (d : Dk) (c : Int) (p b a : Value) : Value := .agg #[p, b, a, (.int .i64 d.used), (.int .i64 d.now), (.int .i64 c)]
def nextD (d : Dk) : Dk := ⟨d.pairs, [], d.audit, 0, d.now + 1⟩
@[irreducible] def nextR (d : Dk) : Dk × Int := if boxR d = true then (if d.now = 999900 then (zD, 9) else (nextD d, 0)) else (zD, 1)
theorem nextR_no {d : Dk} (h : boxR d = false) : nextR d = (zD, 1) := by unfold nextR; rw [h]; rfl
theorem nextR_full {d : Dk} (h : boxR d = true) (hn : d.now = 999900) : nextR d = (zD, 9) := by unfold nextR; rw [if_pos h, if_pos hn]
theorem nextR_yes {d : Dk} (h : boxR d = true) (hn : ¬ d.now = 999900) : nextR d = (nextD d, 0) := by unfold nextR; rw [if_pos h, if_neg hn]
theorem own_nilT (B : Nat) (w : World) : Own B w oLetterS [] [.slice none 0 0] [] := ⟨⟨_, rfl, .inl ⟨rfl, rfl, rfl⟩⟩, List.nodup_nil, fun b hb => by cases hb⟩
theorem OwnD.zero (B : Nat) (w : World) : OwnD B w [] [] [] (.slice none 0 0) (.slice none 0 0) (.slice none 0 0) zD :=
  ⟨own_nilT B w, own_nilT B w, own_nilT B w, (fun x hx => by cases hx), (fun x hx => by cases hx), (fun x hx => by cases hx)⟩
theorem OwnD.swap {B : Nat} {A A' : World} {X : More} {f1 f2 f3 : List Nat} {p b a : Value} {d : Dk} (h : OwnD B (A.plus X) f1 f2 f3 p b a d) (hb : A.heap.size ≤ B) (hs : A'.heap.size = A.heap.size) : OwnD B (A'.plus X) f1 f2 f3 p b a d :=
  ⟨h.p.swap oLetterS_local hb hs, h.b.swap oLetterS_local hb hs, h.a.swap oLetterS_local hb hs, h.pb, h.pa, h.ba⟩
theorem OwnD.mono {B B' : Nat} {w : World} {f1 f2 f3 : List Nat} {p b a : Value} {d : Dk} (h : OwnD B w f1 f2 f3 p b a d) (hb : B' ≤ B) : OwnD B' w f1 f2 f3 p b a d :=
  ⟨h.p.mono hb, h.b.mono hb, h.a.mono hb, h.pb, h.pa, h.ba⟩
theorem OwnD.next {B : Nat} {w : World} {f1 f2 f3 : List Nat} {p b a : Value} {d : Dk} (h : OwnD B w f1 f2 f3 p b a d) : OwnD B w f1 [] f3 p (.slice none 0 0) a (nextD d) :=
  ⟨h.p, own_nilT B w, h.a, (fun _ _ hx => by cases hx), h.pa, (fun _ hx => by cases hx)⟩


set_option maxHeartbeats 800000 in
theorem implNextTime_any (d : Dk) (v : Value) (w : World) (h : eDesk w v d) (hf : d.sz ≤ 1048576) :
    Calls Try.prog 9 #[v] w fun e w' => ∃ p b a f1 f2 f3, e = .returned (stV (nextR d).1 (nextR d).2 p b a) ∧ Ext w w' ∧ OwnD w.heap.size w' f1 f2 f3 p b a (nextR d).1 := by
  have HD := Lib.hid h
  obtain ⟨a1, c1, a2, c2, a3, c3, rfl, z1, z2, h1, h2, h3⟩ := h
  clear h1 h2 h3 z1
  unfold Dk.val at HD ⊢
  cases q1 : boxR d
  · rw [nextR_no q1]
    go_enter Try.func9, Try.ntmps9
    go_wp2_with (go_at_call 17; refine (implBoxRight_any d _ _ (HD.out.ext (by repeat (first | exact Ext.refl _ | apply Ext.plus | apply Ext.alloc | apply Ext.drew)))).mono ?_; rintro e _ ⟨rfl, X, rfl⟩)
    exact bodyPost_ret (v := .agg #[.slice none 0 0, .slice none 0 0, .slice none 0 0, (.int .i64 0), (.int .i64 0), (.int .i64 1)]) (by simp [results, Try.results9, go_sem]) rfl ⟨_, _, _, [], [], [], rfl, (by repeat' (first | (with_reducible exact Ext.refl _) | (with_reducible refine Ext.plus ?_ _) | (with_reducible refine Ext.alloc ?_ _) | (with_reducible refine Ext.setCell ?_ ?_ _) | (with_reducible refine Ext.drew ?_) | (with_reducible exact Nat.le_refl _) | (dsimp only; omega))), OwnD.zero _ _⟩
  · have hnow := isIn_iff.1 (boxR_at q1).2.1
    cases q2 : (d.now == 999900)
    · rw [nextR_yes q1 (by simpa using q2)]
      have hne : ¬ d.now = 999900 := by simpa using q2
      go_enter Try.func9, Try.ntmps9
      go_wp2_with (go_at_call 17; refine (implBoxRight_any d _ _ (HD.out.ext (by repeat (first | exact Ext.refl _ | apply Ext.plus | apply Ext.alloc | apply Ext.drew)))).mono ?_; rintro e _ ⟨rfl, X, rfl⟩)
      refine (copyDesk_any d _ _ (HD.out.ext (by repeat (first | exact Ext.refl _ | apply Ext.plus | apply Ext.alloc | apply Ext.drew))) hf).mono ?_
      rintro e _ ⟨p, b, a, f1, f2, f3, rfl, ⟨Y, rfl⟩, hO⟩
      have HO := Lib.hid hO
      obtain ⟨b1, e1, rfl⟩ := hO.p.shape
      obtain ⟨b2, e2, rfl⟩ := hO.b.shape
      obtain ⟨b3, e3, rfl⟩ := hO.a.shape
      clear hO
      unfold Dk.val
      go_wp2
      refine bodyPost_ret (v := .agg #[.slice b1 d.pairs.length e1, .slice none 0 0, .slice b3 d.audit.length e3, (.int .i64 0), (.int .i64 (d.now + 1)), (.int .i64 0)]) (by simp [results, Try.results9, go_sem]) rfl ⟨.slice b1 d.pairs.length e1, _, .slice b3 d.audit.length e3, f1, [], f3, rfl, (by repeat' (first | (with_reducible exact Ext.refl _) | (with_reducible refine Ext.plus ?_ _) | (with_reducible refine Ext.alloc ?_ _) | (with_reducible refine Ext.setCell ?_ ?_ _) | (with_reducible refine Ext.drew ?_) | (with_reducible exact Nat.le_refl _) | (dsimp only; omega))), ?_⟩
      have h1 : OwnD _ (((((w.alloc (.cells #[.slice a1 d.pairs.length c1, .slice a2 d.box.length c2, .slice a3 d.audit.length c3, (.int .i64 d.used), (.int .i64 d.now)] 25)).alloc (.cells #[.slice none 0 0, .slice none 0 0, .slice none 0 0, (.int .i64 0), (.int .i64 0), (.int .i64 0)] 31)).plus X).plus Y).alloc (.cells #[.slice b1 d.pairs.length e1, .slice none 0 0, .slice b3 d.audit.length e3, (.int .i64 0), (.int .i64 (d.now + 1))] 25)) f1 f2 f3 _ _ _ d := HO.out.ext (Ext.alloc (Ext.refl _) _)
      have h2 := h1.mono (B' := w.heap.size + 1 + 1) (by simp)
      exact ((h2.chg (S := [w.heap.size + 1]) (((((((Chg.refl _ _).setCell (.inl (by simp)) _).setCell (.inl (by simp)) _).setCell (.inl (by simp)) _).setCell (.inl (by simp)) _).setCell (.inl (by simp)) _).setCell (.inl (by simp)) _) (fun x hx => by simp at hx; omega)).next).mono (by omega)
    · rw [nextR_full q1 (by simpa using q2)]
      go_enter Try.func9, Try.ntmps9
      go_wp2_with (go_at_call 17; refine (implBoxRight_any d _ _ (HD.out.ext (by repeat (first | exact Ext.refl _ | apply Ext.plus | apply Ext.alloc | apply Ext.drew)))).mono ?_; rintro e _ ⟨rfl, X, rfl⟩)
      exact bodyPost_ret (v := .agg #[.slice none 0 0, .slice none 0 0, .slice none 0 0, (.int .i64 0), (.int .i64 0), (.int .i64 9)]) (by simp [results, Try.results9, go_sem]) rfl ⟨_, _, _, [], [], [], rfl, (by repeat' (first | (with_reducible exact Ext.refl _) | (with_reducible refine Ext.plus ?_ _) | (with_reducible refine Ext.alloc ?_ _) | (with_reducible refine Ext.setCell ?_ ?_ _) | (with_reducible refine Ext.drew ?_) | (with_reducible exact Nat.le_refl _) | (dsimp only; omega))), OwnD.zero _ _⟩

theorem own_eDesk {B : Nat} {w : World} {f1 f2 f3 : List Nat} {p b a : Value} {d : Dk} (o1 : Own B w oLetterS f1 [p] d.pairs) (o2 : Own B w oLetterS f2 [b] d.box) (o3 : Own B w oLetterS f3 [a] d.audit) (h0 : I64 d.used) (h1 : I64 d.now) (hp : ∀ x ∈ d.pairs, x.ok) (hb : ∀ x ∈ d.box, x.ok) (ha : ∀ x ∈ d.audit, x.ok) : eDesk w (d.val p b a) d := by
  obtain ⟨a1, c1, rfl⟩ := o1.shape
  obtain ⟨a2, c2, rfl⟩ := o2.shape
  obtain ⟨a3, c3, rfl⟩ := o3.shape
  exact ⟨a1, c1, a2, c2, a3, c3, rfl, h0, h1, oLetterS_r o1.1 hp, oLetterS_r o2.1 hb, oLetterS_r o3.1 ha⟩
set_option maxHeartbeats 800000 in
theorem specNextTime_any (d : Dk) (v : Value) (w : World) (h : eDesk w v d) (hf : d.sz ≤ 1048576) :
    Calls Try.prog 13 #[v] w fun e w' => ∃ p b a f1 f2 f3, e = .returned (stV (nextR d).1 (nextR d).2 p b a) ∧ Ext w w' ∧ Own w.heap.size w' oLetterS f1 [p] (nextR d).1.pairs ∧ Own w.heap.size w' oLetterS f2 [b] (nextR d).1.box ∧ Own w.heap.size w' oLetterS f3 [a] (nextR d).1.audit := by
  have HD := Lib.hid h
  obtain ⟨a1, c1, a2, c2, a3, c3, rfl, z1, z2, h1, h2, h3⟩ := h
  clear h1 h2 h3 z1
  unfold Dk.val at HD ⊢
  cases q1 : boxR d
  · rw [nextR_no q1]
    go_enter Try.func13, Try.ntmps13
    go_wp2_with (go_at_call 18; refine (specBoxRight_any d _ _ (HD.out.ext (by repeat (first | exact Ext.refl _ | apply Ext.plus | apply Ext.alloc | apply Ext.drew)))).mono ?_; rintro e _ ⟨rfl, X, rfl⟩)
    exact bodyPost_ret (v := .agg #[.slice none 0 0, .slice none 0 0, .slice none 0 0, (.int .i64 0), (.int .i64 0), (.int .i64 1)]) (by simp [results, Try.results13, go_sem]) rfl ⟨_, _, _, [], [], [], rfl, (by repeat' (first | (with_reducible exact Ext.refl _) | (with_reducible refine Ext.plus ?_ _) | (with_reducible refine Ext.alloc ?_ _) | (with_reducible refine Ext.setCell ?_ ?_ _) | (with_reducible refine Ext.drew ?_) | (with_reducible exact Nat.le_refl _) | (dsimp only; omega))), own_nilT _ _, own_nilT _ _, own_nilT _ _⟩
  · have hnow := isIn_iff.1 (boxR_at q1).2.1
    by_cases q2 : d.now = 999900
    · rw [nextR_full q1 q2]
      have hb : decide ((999900 : Int) ≤ d.now) = true := decide_eq_true (by omega)
      clear q2 hnow
      go_enter Try.func13, Try.ntmps13
      go_wp2_with (go_at_call 18; refine (specBoxRight_any d _ _ (HD.out.ext (by repeat (first | exact Ext.refl _ | apply Ext.plus | apply Ext.alloc | apply Ext.drew)))).mono ?_; rintro e _ ⟨rfl, X, rfl⟩)
      exact bodyPost_ret (v := .agg #[.slice none 0 0, .slice none 0 0, .slice none 0 0, (.int .i64 0), (.int .i64 0), (.int .i64 9)]) (by simp [results, Try.results13, go_sem]) rfl ⟨_, _, _, [], [], [], rfl, (by repeat' (first | (with_reducible exact Ext.refl _) | (with_reducible refine Ext.plus ?_ _) | (with_reducible refine Ext.alloc ?_ _) | (with_reducible refine Ext.setCell ?_ ?_ _) | (with_reducible refine Ext.drew ?_) | (with_reducible exact Nat.le_refl _) | (dsimp only; omega))), own_nilT _ _, own_nilT _ _, own_nilT _ _⟩
    · rw [nextR_yes q1 q2]
      have hb : decide ((999900 : Int) ≤ d.now) = false := decide_eq_false (by omega)
      clear q2
      go_enter Try.func13, Try.ntmps13
      go_wp2_with (go_at_call 18; refine (specBoxRight_any d _ _ (HD.out.ext (by repeat (first | exact Ext.refl _ | apply Ext.plus | apply Ext.alloc | apply Ext.drew)))).mono ?_; rintro e _ ⟨rfl, X, rfl⟩)
      refine (l06Copy_any d _ _ (HD.out.ext (by repeat (first | exact Ext.refl _ | apply Ext.plus | apply Ext.alloc | apply Ext.drew))) hf).mono ?_
      rintro e _ ⟨p, b, a, f1, f2, f3, rfl, ⟨Y, rfl⟩, o1, o2, o3⟩
      have O1 := Lib.hid o1
      have O3 := Lib.hid o3
      obtain ⟨b1, e1, rfl⟩ := o1.shape
      obtain ⟨b2, e2, rfl⟩ := o2.shape
      obtain ⟨b3, e3, rfl⟩ := o3.shape
      clear o1 o2 o3
      unfold Dk.val
      go_wp2
      refine bodyPost_ret (v := .agg #[.slice b1 d.pairs.length e1, .slice none 0 0, .slice b3 d.audit.length e3, (.int .i64 0), (.int .i64 (d.now + 1)), (.int .i64 0)]) (by simp [results, Try.results13, go_sem]) rfl ⟨.slice b1 d.pairs.length e1, _, .slice b3 d.audit.length e3, f1, [], f3, rfl, (by repeat' (first | (with_reducible exact Ext.refl _) | (with_reducible refine Ext.plus ?_ _) | (with_reducible refine Ext.alloc ?_ _) | (with_reducible refine Ext.setCell ?_ ?_ _) | (with_reducible refine Ext.drew ?_) | (with_reducible exact Nat.le_refl _) | (dsimp only; omega))), ?_, own_nilT _ _, ?_⟩
      · have h1 : Own _ (((((w.alloc (.cells #[.slice a1 d.pairs.length c1, .slice a2 d.box.length c2, .slice a3 d.audit.length c3, (.int .i64 d.used), (.int .i64 d.now)] 25)).alloc (.cells #[.slice none 0 0, .slice none 0 0, .slice none 0 0, (.int .i64 0), (.int .i64 0), (.int .i64 0)] 31)).plus X).plus Y).alloc (.cells #[.slice b1 d.pairs.length e1, .slice none 0 0, .slice b3 d.audit.length e3, (.int .i64 0), (.int .i64 (d.now + 1))] 25)) oLetterS _ _ _ := O1.out.ext oLetterS_local oLetterS_held (Ext.alloc (Ext.refl _) _)
        have h2 := h1.mono (B' := w.heap.size + 1 + 1) (by simp)
        exact (h2.chg oLetterS_local oLetterS_held (S := [w.heap.size + 1]) (((((((Chg.refl _ _).setCell (.inl (by simp)) _).setCell (.inl (by simp)) _).setCell (.inl (by simp)) _).setCell (.inl (by simp)) _).setCell (.inl (by simp)) _).setCell (.inl (by simp)) _) (fun x hx => by simp at hx; omega)).mono (by omega)
      · have h1 : Own _ (((((w.alloc (.cells #[.slice a1 d.pairs.length c1, .slice a2 d.box.length c2, .slice a3 d.audit.length c3, (.int .i64 d.used), (.int .i64 d.now)] 25)).alloc (.cells #[.slice none 0 0, .slice none 0 0, .slice none 0 0, (.int .i64 0), (.int .i64 0), (.int .i64 0)] 31)).plus X).plus Y).alloc (.cells #[.slice b1 d.pairs.length e1, .slice none 0 0, .slice b3 d.audit.length e3, (.int .i64 0), (.int .i64 (d.now + 1))] 25)) oLetterS _ _ _ := O3.out.ext oLetterS_local oLetterS_held (Ext.alloc (Ext.refl _) _)
        have h2 := h1.mono (B' := w.heap.size + 1 + 1) (by simp)
        exact (h2.chg oLetterS_local oLetterS_held (S := [w.heap.size + 1]) (((((((Chg.refl _ _).setCell (.inl (by simp)) _).setCell (.inl (by simp)) _).setCell (.inl (by simp)) _).setCell (.inl (by simp)) _).setCell (.inl (by simp)) _).setCell (.inl (by simp)) _) (fun x hx => by simp at hx; omega)).mono (by omega)

end Go.Proofs.Ytocadhcggkbimaa

set_option maxRecDepth 100000
set_option linter.unusedVariables false
namespace Go.Proofs.Ytocadhcggkbimaa
open Go.RowKit Go.Fin1

theorem nextR_ok {d : Dk} (h0 : I64 d.used) (hp : ∀ x ∈ d.pairs, x.ok) (ha : ∀ x ∈ d.audit, x.ok) : I64 (nextR d).1.used ∧ I64 (nextR d).1.now ∧ (∀ x ∈ (nextR d).1.pairs, x.ok) ∧ (∀ x ∈ (nextR d).1.box, x.ok) ∧ (∀ x ∈ (nextR d).1.audit, x.ok) ∧ (nextR d).1.sz ≤ d.sz := by
  have z : I64 0 := by unfold I64; constructor <;> decide
  have zz : I64 zD.used ∧ I64 zD.now ∧ (∀ x ∈ zD.pairs, x.ok) ∧ (∀ x ∈ zD.box, x.ok) ∧ (∀ x ∈ zD.audit, x.ok) ∧ zD.sz ≤ d.sz := ⟨z, z, (fun x hx => by cases hx), (fun x hx => by cases hx), (fun x hx => by cases hx), Nat.zero_le _⟩
  cases hb : boxR d
  · rw [nextR_no hb]; exact zz
  · by_cases hn : d.now = 999900
    · rw [nextR_full hb hn]; exact zz
    · rw [nextR_yes hb hn]
      have hnow := isIn_iff.1 (boxR_at hb).2.1
      refine ⟨z, (by show I64 (d.now + 1); unfold I64; omega), hp, (fun x hx => by cases hx), ha, ?_⟩
      show d.pairs.length + 0 + d.audit.length ≤ d.pairs.length + d.box.length + d.audit.length
      omega
theorem OwnD.reads {B : Nat} {w : World} {f1 f2 f3 : List Nat} {p b a : Value} {d : Dk} (h : OwnD B w f1 f2 f3 p b a d) : SlR w 6 (rc Ltr.cells) p d.pairs ∧ SlR w 6 (rc Ltr.cells) b d.box ∧ SlR w 6 (rc Ltr.cells) a d.audit :=
  ⟨oFl_reads (f := Ltr.cells) (fun _ => rfl) h.p.1, oFl_reads (f := Ltr.cells) (fun _ => rfl) h.b.1, oFl_reads (f := Ltr.cells) (fun _ => rfl) h.a.1⟩


end Go.Proofs.Ytocadhcggkbimaa
