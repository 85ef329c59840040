/- The walks of indexOf, copyJob and of what the reference has in their place. -/
import Derived.Test.YtfmjnncgpfkejaaGreatJ6
import Derived.Test.YtfmjnncgpfkejaaGreatS1
set_option maxRecDepth 100000
set_option linter.unusedVariables false
namespace Go.Proofs.YtfmjnncgpfkejaaGreat
open Go.RowKit Go.Fin1

/-- Is this the job with that label and number? -/
def isJb (x : Lab) (id : Int) (j : Jb) : Bool := sameL j.l x && decide (j.id = id)
/-- Where it lies, -1 for nowhere. -/
abbrev posJ (l : List Jb) (x : Lab) (id : Int) : Int := findI (isJb x id) l

set_option maxHeartbeats 800000 in
theorem indexFuncJb_any (fn : Nat) (cap : Array Value) (p : Jb → Bool) (v : Value) (l : List Jb) (w : World) (h : SlR w 9 rJob v l)
    (hcf : ∀ args w, (callFunc fn args).run Tryz.prog w = .ok (.enter fn args) w) (Hf : ∀ W u x, Ext w W → eJob W u x → Calls Tryz.prog fn (#[u] ++ cap) W fun e w' => e = .returned (.bool (p x)) ∧ Ext W w') :
    Calls Tryz.prog 70 #[v, .func (.func fn) #[] cap] w fun e w' =>
      e = .returned ((.int .i64 (findI p l))) ∧ Ext w w' := by
  obtain ⟨a, cap', rfl⟩ := h.len
  obtain ⟨_, hlc, hcm⟩ := slr_len h
  have hlm : l.length ≤ 9223372036854775807 := by unfold maxLen at hcm; omega
  clear hcm hlc
  have HS := Lib.hid h
  have HF := Lib.hid Hf
  clear h Hf
  go_enter Tryz.func70, Tryz.ntmps70
  go_wp2
  go_loopw [8, 5] (fun i _ wr => ∃ k : Nat, k ≤ l.length ∧ i = .int .i64 k ∧ Ext w wr ∧ Hid (∀ j (hj : j < l.length), j < k → p l[j] = false)) (fun i _ _ => l.length - (intOf i).toNat)
  case atStart =>
    exact ⟨0, Nat.zero_le _, rfl, Ext.refl _, Lib.hid (fun j _ h => absurd h (Nat.not_lt_zero _))⟩
  case round =>
    obtain ⟨k, hk, rfl, ⟨X, rfl⟩, HH⟩ := hrel
    by_cases hlt : k < l.length
    · obtain ⟨b, off, rfl⟩ := slr_some HS.out hlt
      obtain ⟨ho, an, cn, hok, hsn, c0, c1, c2, c3, c4, c5, c6, c7, c8⟩ := job_at HS.out hlt
      have HV : Hid (eJob w (l[k].val (.slice an l[k].nodes.length cn)) l[k]) := Lib.hid ⟨an, cn, rfl, hok, hsn⟩
      clear hsn
      have HRV : Hid (eJob (w.plus X) (l[k].val (.slice an l[k].nodes.length cn)) l[k]) := Lib.hid (HV.out.ext trivial ((Ext.refl w).plus X))
      clear HV
      go_wp2_with fail
      refine (HF.out _ _ l[k] (Ext.refl w |>.plus X) HRV.out).mono ?_
      rintro e _ ⟨rfl, Y, rfl⟩
      cases hp : p l[k]
      · go_wp2
        exact ⟨⟨k + 1, by omega, by go_num, (by repeat (first | exact Ext.refl _ | apply Ext.plus | apply Ext.alloc | apply Ext.drew)), Lib.hid (fun j hj hjk => by
          by_cases e : j < k
          · exact HH.out j hj e
          · obtain rfl : j = k := by omega
            exact hp)⟩, by simp [intOf]; omega⟩
      · go_wp2
        go_ret
        exact ⟨ret_int (findI_at hlt HH.out hp).symm, (by repeat (first | exact Ext.refl _ | apply Ext.plus | apply Ext.alloc | apply Ext.drew))⟩
    · go_wp2
      go_ret
      exact ⟨ret_int (findI_none (fun j hj => HH.out j hj (by omega))).symm, (by repeat (first | exact Ext.refl _ | apply Ext.plus | apply Ext.alloc | apply Ext.drew))⟩


set_option maxHeartbeats 800000 in
theorem indexOf1_any (u : Value) (j : Jb) (x : Lab) (id : Int) (b c : Nat) (w : World) (hj : eJob w u j) (h0 : w.cell? ⟨b, 0, none⟩ = some (.int .i64 x.lv)) (h1 : w.cell? ⟨b, 1, none⟩ = some (.int .i64 x.st)) (h2 : w.cell? ⟨c, 0, none⟩ = some (.int .i64 id)) :
    Calls Tryz.prog 71 #[u, .pointer (some ⟨b, 0, none⟩), .pointer (some ⟨c, 0, none⟩)] w fun e w' => e = .returned (.bool (isJb x id j)) ∧ Ext w w' := by
  obtain ⟨a, cp, rfl, hok, hs⟩ := hj
  have ho := World.old_of_cell h0
  have ho2 := World.old_of_cell h2
  clear hs
  unfold isJb
  cases hL : sameL ⟨j.l.lv, j.l.st⟩ ⟨x.lv, x.st⟩
  · go_enter Tryz.func71, Tryz.ntmps71
    unfold Jb.val
    go_wp2
    go_ret
    exact ⟨ret_bool (by rfl), (by repeat (first | exact Ext.refl _ | apply Ext.plus | apply Ext.alloc | apply Ext.drew))⟩
  · cases hI : (j.id == id)
    all_goals go_enter Tryz.func71, Tryz.ntmps71
    all_goals unfold Jb.val
    all_goals go_wp2
    all_goals go_ret
    · exact ⟨ret_bool (by rw [decide_eq_false (by simpa using hI)]; rfl), (by repeat (first | exact Ext.refl _ | apply Ext.plus | apply Ext.alloc | apply Ext.drew))⟩
    · exact ⟨ret_bool (by rw [decide_eq_true (by simpa using hI)]; rfl), (by repeat (first | exact Ext.refl _ | apply Ext.plus | apply Ext.alloc | apply Ext.drew))⟩

set_option maxHeartbeats 800000 in
theorem indexOf_any (v : Value) (l : List Jb) (x : Lab) (id : Int) (w : World) (h : SlR w 9 rJob v l) :
    Calls Tryz.prog 39 #[v, .agg #[(.int .i64 x.lv), (.int .i64 x.st)], (.int .i64 id)] w fun e w' => e = .returned (.int .i64 (posJ l x id)) ∧ Ext w w' := by
  have HS := Lib.hid h
  clear h
  have hh := hmf
  go_enter Tryz.func39, Tryz.ntmps39
  go_wp2_with fail
  refine (indexFuncJb_any _ _ (isJb x id) v l _ (HS.out.ext rJob_stable (by repeat (first | exact Ext.refl _ | apply Ext.plus | apply Ext.alloc | apply Ext.drew))) (fun _ _ => rfl) ?_).mono ?_
  · rintro W u j ⟨X, rfl⟩ hj
    exact indexOf1_any u j x id _ _ _ hj (by simp [go_sem]) (by simp [go_sem]) (by simp [go_sem])
  · rintro e _ ⟨rfl, X, rfl⟩
    go_wp2
    go_ret
    exact ⟨rfl, (by repeat (first | exact Ext.refl _ | apply Ext.plus | apply Ext.alloc | apply Ext.drew))⟩

set_option maxHeartbeats 1600000 in
theorem l04At_any (v : Value) (l : List Jb) (x : Lab) (id : Int) (w : World) (h : SlR w 9 rJob v l) :
    Calls Tryz.prog 36 #[v, .agg #[(.int .i64 x.lv), (.int .i64 x.st)], (.int .i64 id)] w fun e w' => e = .returned (.int .i64 (posJ l x id)) ∧ Ext w w' := by
  obtain ⟨a, cap, rfl⟩ := h.len
  obtain ⟨_, hlc, hcm⟩ := slr_len h
  have hlm : l.length ≤ 9223372036854775807 := by unfold maxLen at hcm; omega
  clear hcm hlc
  have HS := Lib.hid h
  clear h
  go_enter Tryz.func36, Tryz.ntmps36
  go_wp2
  go_loopw [7] (fun i wr => ∃ k : Nat, k ≤ l.length ∧ i = .int .i64 k ∧ Ext (w.alloc (.cells #[(.int .i64 x.lv), (.int .i64 x.st)] 52)) wr ∧ Hid (∀ (j : Nat) (hj : j < l.length), j < k → isJb x id l[j] = false)) (fun i _ => l.length - (intOf i).toNat)
  case atStart => exact ⟨0, Nat.zero_le _, rfl, (by repeat (first | exact Ext.refl _ | apply Ext.plus | apply Ext.alloc | apply Ext.drew)), Lib.hid (fun j _ h => absurd h (Nat.not_lt_zero _))⟩
  case round =>
    obtain ⟨k, hk, rfl, ⟨X, rfl⟩, HH⟩ := hrel
    by_cases hlt : k < l.length
    · obtain ⟨b, off, rfl⟩ := slr_some HS.out hlt
      obtain ⟨ho, an, cn, hok, hsn, c0, c1, c2, c3, c4, c5, c6, c7, c8⟩ := job_at HS.out hlt
      have HV : Hid (eJob w (l[k].val (.slice an l[k].nodes.length cn)) l[k]) := Lib.hid ⟨an, cn, rfl, hok, hsn⟩
      clear hsn
      go_upto_region 4 with fail
      cases hL : sameL ⟨l[k].l.lv, l[k].l.st⟩ ⟨x.lv, x.st⟩
      · have hN : isJb x id l[k] = false := by unfold isJb; rw [show sameL l[k].l x = false from hL]; rfl
        (refine wp_region_x 16 (by kernel_rfl) (by kernel_rfl) (by kernel_rfl) ?_; (iterate 16 (apply XReg.step; (case h => (intro w' hw'; obtain ⟨X', rfl⟩ := hw'; go_wp2_with (fail); exact ⟨rfl, (by repeat (first | exact Ext.refl _ | apply Ext.plus | apply Ext.alloc | apply Ext.drew))⟩)); (case hv => kernel_rfl))); refine XReg.doneN (fun X => ?_))
        go_wp2
        exact ⟨⟨k + 1, by omega, by go_num, (by repeat (first | exact Ext.refl _ | apply Ext.plus | apply Ext.alloc | apply Ext.drew)), Lib.hid (fun j hj hjk => by
          by_cases e : j < k
          · exact HH.out j hj e
          · obtain rfl : j = k := by omega
            exact hN)⟩, by simp [intOf]; omega⟩
      cases hI : (l[k].id == id)
      · have hN : isJb x id l[k] = false := by unfold isJb; rw [show sameL l[k].l x = true from hL, decide_eq_false (by simpa using hI)]; rfl
        (refine wp_region_x 16 (by kernel_rfl) (by kernel_rfl) (by kernel_rfl) ?_; (iterate 16 (apply XReg.step; (case h => (intro w' hw'; obtain ⟨X', rfl⟩ := hw'; go_wp2_with (fail); exact ⟨rfl, (by repeat (first | exact Ext.refl _ | apply Ext.plus | apply Ext.alloc | apply Ext.drew))⟩)); (case hv => kernel_rfl))); refine XReg.doneN (fun X => ?_))
        go_wp2
        exact ⟨⟨k + 1, by omega, by go_num, (by repeat (first | exact Ext.refl _ | apply Ext.plus | apply Ext.alloc | apply Ext.drew)), Lib.hid (fun j hj hjk => by
          by_cases e : j < k
          · exact HH.out j hj e
          · obtain rfl : j = k := by omega
            exact hN)⟩, by simp [intOf]; omega⟩
      · have hY : isJb x id l[k] = true := by unfold isJb; rw [show sameL l[k].l x = true from hL, decide_eq_true (by simpa using hI)]; rfl
        have HF := Lib.hid (findI_at hlt HH.out hY)
        clear hY
        (refine wp_region_x 16 (by kernel_rfl) (by kernel_rfl) (by kernel_rfl) ?_; (iterate 16 (apply XReg.step; (case h => (intro w' hw'; obtain ⟨X', rfl⟩ := hw'; go_wp2_with (fail); exact ⟨rfl, (by repeat (first | exact Ext.refl _ | apply Ext.plus | apply Ext.alloc | apply Ext.drew))⟩)); (case hv => kernel_rfl))); refine XReg.doneN (fun X => ?_))
        go_wp2
        go_ret
        exact ⟨ret_int HF.out.symm, (by repeat (first | exact Ext.refl _ | apply Ext.plus | apply Ext.alloc | apply Ext.drew))⟩
    · go_wp2
      go_ret
      exact ⟨ret_int (findI_none (fun j hj => HH.out j hj (by omega))).symm, (by repeat (first | exact Ext.refl _ | apply Ext.plus | apply Ext.alloc | apply Ext.drew))⟩

theorem rInt_rc {w : World} {v : Value} {l : List Int} (h : SlR w 1 rInt v l) : SlR w 1 (rc intCell) v l := slr_with h fun _ _ _ hr => hr.1

set_option maxHeartbeats 800000 in
theorem copyJob_any (j : Jb) (nv : Value) (w : World) (h : SlR w 1 rInt nv j.nodes) (hl : j.nodes.length ≤ 1048576) :
    Calls Tryz.prog 68 #[j.val nv] w fun e w' => ∃ v' fp, e = .returned (j.val v') ∧ Ext w w' ∧ Own w.heap.size w' oIntS fp [v'] j.nodes := by
  obtain ⟨⟨lv, st⟩, id, need, long, prio, state, start, nodes⟩ := j
  obtain ⟨a, cp, rfl⟩ := h.len
  have HS := Lib.hid h
  clear h
  unfold Jb.val
  simp only at hl HS ⊢
  go_enter Tryz.func68, Tryz.ntmps68
  go_wp2_with fail
  refine (cloneInt_any _ nodes _ (rInt_rc (HS.out.ext rInt_stable (by repeat (first | exact Ext.refl _ | apply Ext.plus | apply Ext.alloc | apply Ext.drew)))) hl).mono ?_
  rintro e _ ⟨v', rfl, ⟨Y, rfl⟩, hR⟩
  obtain ⟨fp, hO⟩ := Row.own (f := intCell) (K := 1) (fun _ => rfl) hR
  obtain ⟨a', c', rfl⟩ := hO.shape
  have HO := Lib.hid hO
  clear hO hR
  go_wp2
  exact bodyPost_ret (v := .agg #[(.int .i64 lv), (.int .i64 st), (.int .i64 id), (.int .i64 need), (.int .i64 long), (.int .i64 prio), (.int .i64 state), (.int .i64 start), .slice a' nodes.length c']) (by simp [results, Tryz.results68, go_sem]) rfl ⟨_, _, rfl, (by repeat (first | exact Ext.refl _ | apply Ext.plus | apply Ext.alloc | apply Ext.drew)), (HO.out.swap oIntS_local (Nat.le_refl _) (by simp)).mono (by simp; omega)⟩

set_option maxHeartbeats 800000 in
theorem l04Copy_any (j : Jb) (nv : Value) (w : World) (h : SlR w 1 rInt nv j.nodes) (hl : j.nodes.length ≤ 1048576) :
    Calls Tryz.prog 67 #[j.val nv] w fun e w' => ∃ v' fp, e = .returned (j.val v') ∧ Ext w w' ∧ Own w.heap.size w' oIntS fp [v'] j.nodes := by
  obtain ⟨⟨lv, st⟩, id, need, long, prio, state, start, nodes⟩ := j
  obtain ⟨a, cp, rfl⟩ := h.len
  have HS := Lib.hid h
  have hi := Lib.hid (slr_ints h)
  clear h
  unfold Jb.val
  simp only at hl HS hi ⊢
  go_enter Tryz.func67, Tryz.ntmps67
  go_wp2_with (at_builtin; go_must (refine Row.appV (f := intCell) el_Int rfl _ _ rfl ((w.alloc (.cells #[(.int .i64 lv), (.int .i64 st), (.int .i64 id), (.int .i64 need), (.int .i64 long), (.int .i64 prio), (.int .i64 state), (.int .i64 start), .slice a nodes.length cp] 64)).alloc (.cells #[(.int .i64 0), (.int .i64 0), (.int .i64 0), (.int .i64 0), (.int .i64 0), (.int .i64 0), (.int .i64 0), (.int .i64 0), .slice none 0 0] 64)) (by repeat (first | exact Ext.refl _ | apply Ext.plus | apply Ext.alloc | apply Ext.drew)) _ [] rfl ?_ _ nodes rfl (fun _ => rfl) (rInt_rc (HS.out.ext rInt_stable (by repeat (first | exact Ext.refl _ | apply Ext.plus | apply Ext.alloc | apply Ext.drew)))) ?_ ?_ ?_ ?_); (exact Row.madeA _ _ _ _ _ _); (intro x u hu; simp [intCell] at hu; subst hu; rfl); (unfold maxLen; simp; omega); (simp; omega); intro v' X' hown'; rw [List.nil_append] at hown'; obtain ⟨fp, hO⟩ := Row.own (f := intCell) (K := 1) (fun _ => rfl) hown'; obtain ⟨a', c', hv⟩ := hO.shape; subst hv; have HO := Lib.hid hO; clear hO hown')
  exact bodyPost_ret (v := .agg #[(.int .i64 lv), (.int .i64 st), (.int .i64 id), (.int .i64 need), (.int .i64 long), (.int .i64 prio), (.int .i64 state), (.int .i64 start), .slice a' nodes.length c']) (by simp [results, Tryz.results67, go_sem]) rfl ⟨_, _, rfl, (by repeat (first | exact Ext.refl _ | apply Ext.plus | apply Ext.alloc | apply Ext.drew)), (HO.out.swap oIntS_local (by simp) (by simp)).mono (by simp; omega)⟩
end Go.Proofs.YtfmjnncgpfkejaaGreat
