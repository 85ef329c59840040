/- SpanPut walked. -/
import Derived.Test.YtfmjnncgpfkejaaGreatT1
import Derived.Test.YtfmjnncgpfkejaaGreatQ3
import Derived.Test.YtfmjnncgpfkejaaGreatE2
import Derived.Lib.SliceRun
set_option maxRecDepth 100000
set_option linter.unusedVariables false
namespace Go.Proofs.YtfmjnncgpfkejaaGreat
open Go.RowKit Go.Fin1

/-- The place of a new span. -/
@[irreducible] def posS (l : List Spn) (f : Int) : Nat := (l.takeWhile (fun y => decide (y.f < f))).length
theorem posS_le (l : List Spn) (f : Int) : posS l f ≤ l.length := by unfold posS; exact (List.takeWhile_prefix _).length_le
theorem takeWhile_at {α : Type} {p : α → Bool} : ∀ {l : List α} {k : Nat}, k ≤ l.length → (∀ (j : Nat) (hj : j < l.length), j < k → p l[j] = true) → (∀ (hk : k < l.length), p l[k] = false) → (l.takeWhile p).length = k
  | [], k, hk, _, _ => by simp at hk; simp [hk]
  | x :: l, 0, _, _, h => by have := h (by simp); simp at this; simp [this]
  | x :: l, k + 1, hk, h, h2 => by
    have h0 := h 0 (by simp) (by omega)
    simp at h0
    rw [List.takeWhile_cons, if_pos h0, List.length_cons, takeWhile_at (l := l) (k := k) (by simpa using hk) (fun j hj hjk => h (j + 1) (Nat.succ_lt_succ hj) (by omega)) (fun hk' => h2 (Nat.succ_lt_succ hk'))]
theorem posS_at {l : List Spn} {f : Int} {k : Nat} (hk : k < l.length) (h : ∀ (j : Nat) (hj : j < l.length), j < k → decide (l[j].f < f) = true) (h2 : decide (l[k].f < f) = false) : posS l f = k := by
  unfold posS; exact takeWhile_at (by omega) h (fun _ => h2)
theorem posS_end {l : List Spn} {f : Int} (h : ∀ (j : Nat) (hj : j < l.length), decide (l[j].f < f) = true) : posS l f = l.length := by
  unfold posS; exact takeWhile_at (Nat.le_refl _) (fun j hj _ => h j hj) (fun h' => absurd h' (Nat.lt_irrefl _))
@[irreducible] def putL (l : List Spn) (x : Spn) : List Spn :=
  if 400 < l.length then [] else if (spnsOk l && spnOk x && freeL l x) && decide (l.length < 20) then insL l (posS l x.f) x else l
theorem putL_long {l : List Spn} {x : Spn} (h : 400 < l.length) : putL l x = [] := by unfold putL; rw [if_pos h]
theorem putL_same {l : List Spn} {x : Spn} (h : ¬ 400 < l.length) (h2 : ((spnsOk l && spnOk x && freeL l x) && decide (l.length < 20)) = false) : putL l x = l := by unfold putL; rw [if_neg h, h2]; rfl
theorem putL_ins {l : List Spn} {x : Spn} {k : Nat} (h : ¬ 400 < l.length) (h2 : (spnsOk l && spnOk x && freeL l x) = true) (h3 : l.length < 20) (hp : posS l x.f = k) : putL l x = insL l k x := by
  unfold putL; rw [if_neg h, h2, hp]; simp [h3]
theorem spnsOk_len {l : List Spn} (h : spnsOk l = true) : l.length ≤ 20 := by
  refine Nat.le_of_not_lt fun hl => ?_
  rw [spnsOk_long hl] at h; cases h
theorem putL_len (l : List Spn) (x : Spn) : (putL l x).length ≤ 1048576 := by
  by_cases h : 400 < l.length
  · rw [putL_long h]; simp
  · cases h2 : (spnsOk l && spnOk x && freeL l x) && decide (l.length < 20)
    · rw [putL_same h h2]; omega
    · simp only [Bool.and_eq_true, decide_eq_true_eq] at h2
      rw [putL_ins h (by simp [h2.1]) h2.2 rfl, insL_len x (posS_le _ _)]; omega
theorem putL_ok {l : List Spn} {x : Spn} (hl : ∀ y ∈ l, y.ok) (hx : x.ok) : ∀ y ∈ putL l x, y.ok := by
  by_cases h : 400 < l.length
  · rw [putL_long h]; intro y hy; cases hy
  · cases h2 : (spnsOk l && spnOk x && freeL l x) && decide (l.length < 20)
    · rw [putL_same h h2]; exact hl
    · simp only [Bool.and_eq_true, decide_eq_true_eq] at h2
      rw [putL_ins h (by simp [h2.1]) h2.2 rfl]
      intro y hy
      unfold insL at hy
      rcases List.mem_append.1 hy with hy | hy
      · exact hl y (List.mem_of_mem_take hy)
      · rcases List.mem_cons.1 hy with rfl | hy
        · exact hx
        · exact hl y (List.mem_of_mem_drop hy)
theorem heap_new_at {W : World} {o : Obj} {b : Nat} (h : b = W.heap.size) : (W.alloc o).heap[b]? = some o := by subst h; exact heap_alloc_new W o
theorem rSpn_rc {w : World} {v : Value} {l : List Spn} (h : SlR w 2 rSpn v l) : SlR w 2 (rc Spn.cells) v l := slr_with h fun _ _ _ hr => hr.1
theorem spn_ok {w : World} {v : Value} {l : List Spn} (h : SlR w 2 rSpn v l) : ∀ x ∈ l, x.ok := fun x hx => by
  obtain ⟨_, hr⟩ := slr_all h x hx
  exact hr.2
theorem row_spn {B : Nat} {w : World} {v : Value} {l : List Spn} (h : Row B w 83 2 Spn.cells v l) (hl : ∀ x ∈ l, x.ok) : SlR w 2 rSpn v l := by
  obtain ⟨fp, hO⟩ := Row.own (f := Spn.cells) (K := 2) (fun _ => rfl) h
  exact slr_with (oFl_reads (f := Spn.cells) (fun _ => rfl) hO.1) fun cs x hm hc => ⟨hc, hl x hm⟩

set_option maxHeartbeats 800000 in
theorem cloneSpn_any (v : Value) (l : List Spn) (w : World) (h : SlR w 2 (rc Spn.cells) v l) (hl : l.length ≤ 1048576) :
    Calls Tryz.prog 101 #[v] w fun e w' => ∃ v', e = .returned v' ∧ Ext w w' ∧ Row w.heap.size w' 83 2 Spn.cells v' l := by
  obtain ⟨ad, cap, rfl⟩ := h.len
  have q22 : ∀ (w : World) (a : Option Addr) (n c n' c' : Nat), (binOp .eql 88 (.slice a n c) (.slice none n' c')).run Tryz.prog w = .ok (.bool a.isNone) w := fun w a n c n' c' => Lib.run_eql_slice_nil w _ _ a n c n' c' (show Tryz.prog.underlying 88 = some (.slice 83) by kernel_rfl)
  have HS := Lib.hid h
  cases ad with
  | none =>
    have h0 : l = [] := by
      cases l with
      | nil => rfl
      | cons x l => obtain ⟨b, off, he⟩ := slr_some h (Nat.zero_lt_succ _); cases he
    subst h0
    clear h
    go_enter Tryz.func101, Tryz.ntmps101
    go_wp2
    go_ret
    exact ⟨_, rfl, (by repeat (first | exact Ext.refl _ | apply Ext.plus | apply Ext.alloc | apply Ext.drew)), Row.nil _ _ _ _ _⟩
  | some ad =>
    have HC := Lib.hid (slr_flat (f := Spn.cells) (K := 2) (fun _ => rfl) h)
    clear h
    go_enter Tryz.func101, Tryz.ntmps101
    go_wp2_with (at_builtin; go_must (refine Row.appS (f := Spn.cells) el_Span rfl _ _ rfl w (by repeat (first | exact Ext.refl _ | apply Ext.plus | apply Ext.alloc | apply Ext.drew)) _ _ rfl (Row.made _ _ _ _) ad l.length cap l rfl rfl (fun _ => rfl) ?_ ?_ ?_ ?_ ?_); (exact fun j u hu => Ext.cellA (by repeat (first | exact Ext.refl _ | apply Ext.plus | apply Ext.alloc | apply Ext.drew)) (HC.out j u hu)); (intro u hu; obtain ⟨x, _, hx⟩ := List.mem_flatMap.1 hu; simp [Spn.cells] at hx; first | (rcases hx with rfl | rfl <;> rfl) | (subst hx; rfl) | (rcases hx with rfl | rfl | rfl <;> rfl) | (rcases hx with rfl | rfl | rfl | rfl | rfl | rfl <;> rfl)); (unfold maxLen; simp; omega); (simp; omega); intro v' X' hown' hne; have HO' := Lib.hid hown'; clear hown' hne)
    go_ret
    exact ⟨_, rfl, (by repeat (first | exact Ext.refl _ | apply Ext.plus | apply Ext.alloc | apply Ext.drew)), by have := HO'.out; simpa using this⟩

set_option maxHeartbeats 3200000 in
theorem implSpanPut_any (v : Value) (l : List Spn) (x : Spn) (w : World) (h : SlR w 2 rSpn v l) :
    Calls Tryz.prog 61 #[v, .agg #[(.int .i64 x.f), (.int .i64 x.t)]] w fun e w' => ∃ v', e = .returned v' ∧ Ext w w' ∧ Row w.heap.size w' 83 2 Spn.cells v' (putL l x) := by
  obtain ⟨a, cap, rfl⟩ := h.len
  obtain ⟨_, hlc, hcm⟩ := slr_len h
  have hlm : l.length ≤ 9223372036854775807 := by unfold maxLen at hcm; omega
  clear hcm hlc
  have HS := Lib.hid h
  have HK := Lib.hid (spn_ok h)
  clear h
  by_cases h4 : 400 < l.length
  · have hb : decide ((l.length : Int) > 400) = true := decide_eq_true (by omega)
    have HE := Lib.hid (putL_long (x := x) h4)
    go_enter Tryz.func61, Tryz.ntmps61
    go_wp2
    go_ret
    exact ⟨_, rfl, (by repeat (first | exact Ext.refl _ | apply Ext.plus | apply Ext.alloc | apply Ext.drew)), by rw [HE.out]; exact Row.nil _ _ _ _ _⟩
  · have hb : decide ((l.length : Int) > 400) = false := decide_eq_false (by omega)
    have hl : l.length ≤ 1048576 := by omega
    obtain ⟨q, hq⟩ : ∃ q, (spnsOk l && spnOk ⟨x.f, x.t⟩ && freeL l ⟨x.f, x.t⟩) = q := ⟨_, rfl⟩
    have HQ := Lib.hid hq
    clear hq
    by_cases hs : q = true ∧ l.length < 20
    · obtain ⟨rfl, h20⟩ := hs
      have hb2 : ((l.length : Int) == 20) = false := by simp; omega
      go_enter Tryz.func61, Tryz.ntmps61
      go_wp2_with fail
      refine (cloneSpn_any _ l _ (rSpn_rc (HS.out.ext rSpn_stable (by repeat (first | exact Ext.refl _ | apply Ext.plus | apply Ext.alloc | apply Ext.drew)))) hl).mono ?_
      rintro e _ ⟨v', rfl, ⟨Y, rfl⟩, hR⟩
      have HR := Lib.hid hR
      obtain ⟨a', c', rfl⟩ := hR.shape
      clear hR
      go_wp2_with fail
      refine (implIsFree_any _ l _ _ _ (HS.out.ext rSpn_stable (by repeat (first | exact Ext.refl _ | apply Ext.plus | apply Ext.alloc | apply Ext.drew)))).mono ?_
      rintro e _ ⟨rfl, Y1, rfl⟩
      rw [HQ.out]
      have HR1 := Lib.hid (row_spn (HR.out.ext ((Ext.refl _).plus Y1)) HK.out)
      go_wp2
      go_loopw [6] (fun i wr => ∃ k : Nat, k ≤ l.length ∧ i = .int .i64 k ∧ Ext (((w.alloc (.cells #[(.int .i64 x.f), (.int .i64 x.t)] 83)).plus Y).plus Y1) wr ∧ Hid (∀ (j : Nat) (hj : j < l.length), j < k → decide (l[j].f < x.f) = true)) (fun i _ => l.length - (intOf i).toNat)
      case atStart =>
        exact ⟨0, Nat.zero_le _, rfl, Ext.refl _, Lib.hid (fun j _ h => absurd h (Nat.not_lt_zero _))⟩
      case round =>
        obtain ⟨k, hk, rfl, ⟨X, rfl⟩, HH⟩ := hrel
        by_cases hlt : k < l.length
        · obtain ⟨bb, off, rfl⟩ := slr_some HR1.out hlt
          obtain ⟨ho, hok, h0, h1⟩ := spn_at HR1.out hlt
          have hkl : decide ((k : Int) < (l.length : Int)) = true := decide_eq_true (by omega)
          cases q1 : decide (l[k].f < x.f)
          · have hp := Lib.hid (posS_at hlt HH.out q1)
            go_wp2
            (refine wp_region_x 14 (by kernel_rfl) (by kernel_rfl) (by kernel_rfl) ?_; (iterate 14 (apply XReg.step; (case h => (intro w' hw'; obtain ⟨X', rfl⟩ := hw'; go_wp2_with (fail); exact ⟨rfl, (by repeat (first | exact Ext.refl _ | apply Ext.plus | apply Ext.alloc | apply Ext.drew))⟩)); (case hv => kernel_rfl))); refine XReg.doneN (fun X => ?_))
            go_wp2_with fail
            refine (insertSpn_any _ _ l k x _ _ (HR.out.ext (by repeat (first | exact Ext.refl _ | apply Ext.plus | apply Ext.alloc | apply Ext.drew))) (by simp; omega) (by omega) hl (heap_new_at (by simp)) (fun b hb e => by
              have := (HR.out.blk b hb).2
              simp at this; omega)).mono ?_
            rintro e w3 ⟨v3, rfl, hC, hR3⟩
            have hE3 : Ext w w3 := hC.ext (by repeat (first | exact Ext.refl _ | apply Ext.plus | apply Ext.alloc | apply Ext.drew)) (fun b hb => by
              have := (HR.out.blk b hb).1
              simp at this; omega)
            have HE3 := Lib.hid hE3
            have HR3 := Lib.hid hR3
            have HP := Lib.hid (putL_ins h4 HQ.out h20 hp.out)
            clear hC hR3 hE3
            go_wp2
            go_ret
            exact ⟨_, rfl, HE3.out, by rw [HP.out]; exact HR3.out.mono (by simp)⟩
          · go_wp2
            (refine wp_region_x 14 (by kernel_rfl) (by kernel_rfl) (by kernel_rfl) ?_; (iterate 14 (apply XReg.step; (case h => (intro w' hw'; obtain ⟨X', rfl⟩ := hw'; go_wp2_with (fail); exact ⟨rfl, (by repeat (first | exact Ext.refl _ | apply Ext.plus | apply Ext.alloc | apply Ext.drew))⟩)); (case hv => kernel_rfl))); refine XReg.doneN (fun X => ?_))
            go_wp2
            exact ⟨⟨k + 1, by omega, by go_num, (by repeat (first | exact Ext.refl _ | apply Ext.plus | apply Ext.alloc | apply Ext.drew)), Lib.hid (fun j hj hjk => by
              by_cases e : j < k
              · exact HH.out j hj e
              · obtain rfl : j = k := by omega
                exact q1)⟩, by simp [intOf]; omega⟩
        · have hkl : decide ((k : Int) < (l.length : Int)) = false := decide_eq_false (by omega)
          have hp := Lib.hid (posS_end (l := l) (f := x.f) fun j hj => HH.out j hj (by omega))
          obtain rfl : k = l.length := by omega
          go_wp2
          (refine wp_region_x 14 (by kernel_rfl) (by kernel_rfl) (by kernel_rfl) ?_; (iterate 14 (apply XReg.step; (case h => (intro w' hw'; obtain ⟨X', rfl⟩ := hw'; go_wp2_with (fail); exact ⟨rfl, (by repeat (first | exact Ext.refl _ | apply Ext.plus | apply Ext.alloc | apply Ext.drew))⟩)); (case hv => kernel_rfl))); refine XReg.doneN (fun X => ?_))
          go_wp2_with fail
          refine (insertSpn_any _ _ l l.length x _ _ (HR.out.ext (by repeat (first | exact Ext.refl _ | apply Ext.plus | apply Ext.alloc | apply Ext.drew))) (by simp; omega) (by omega) hl (heap_new_at (by simp)) (fun b hb e => by
            have := (HR.out.blk b hb).2
            simp at this; omega)).mono ?_
          rintro e w3 ⟨v3, rfl, hC, hR3⟩
          have hE3 : Ext w w3 := hC.ext (by repeat (first | exact Ext.refl _ | apply Ext.plus | apply Ext.alloc | apply Ext.drew)) (fun b hb => by
            have := (HR.out.blk b hb).1
            simp at this; omega)
          have HE3 := Lib.hid hE3
          have HR3 := Lib.hid hR3
          have HP := Lib.hid (putL_ins h4 HQ.out h20 hp.out)
          clear hC hR3 hE3
          go_wp2
          go_ret
          exact ⟨_, rfl, HE3.out, by rw [HP.out]; exact HR3.out.mono (by simp)⟩
    · have HE := Lib.hid (putL_same (x := x) h4 (by rw [HQ.out]; cases q <;> simp at hs ⊢; omega))
      have hq : q = false ∨ (q = true ∧ ((l.length : Int) == 20) = true) := by
        cases q
        · exact .inl rfl
        · refine .inr ⟨rfl, ?_⟩
          have := HQ.out
          simp at this hs
          have := spnsOk_len this.1.1
          simp; omega
      clear hs
      go_enter Tryz.func61, Tryz.ntmps61
      go_wp2_with fail
      refine (cloneSpn_any _ l _ (rSpn_rc (HS.out.ext rSpn_stable (by repeat (first | exact Ext.refl _ | apply Ext.plus | apply Ext.alloc | apply Ext.drew)))) hl).mono ?_
      rintro e _ ⟨v', rfl, ⟨Y, rfl⟩, hR⟩
      have HR := Lib.hid hR
      obtain ⟨a', c', rfl⟩ := hR.shape
      clear hR
      go_wp2_with fail
      refine (implIsFree_any _ l _ _ _ (HS.out.ext rSpn_stable (by repeat (first | exact Ext.refl _ | apply Ext.plus | apply Ext.alloc | apply Ext.drew)))).mono ?_
      rintro e _ ⟨rfl, Y1, rfl⟩
      rw [HQ.out]
      rcases hq with rfl | ⟨rfl, hb2⟩
      all_goals go_wp2
      all_goals go_ret
      all_goals exact ⟨_, rfl, (by repeat (first | exact Ext.refl _ | apply Ext.plus | apply Ext.alloc | apply Ext.drew)), by rw [HE.out]; exact (HR.out.mono (by simp)).ext (by repeat (first | exact Ext.refl _ | apply Ext.plus | apply Ext.alloc | apply Ext.drew))⟩
end Go.Proofs.YtfmjnncgpfkejaaGreat
