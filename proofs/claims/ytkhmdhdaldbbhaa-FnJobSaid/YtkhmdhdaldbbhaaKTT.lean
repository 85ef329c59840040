/- copy and append of zeros over rows of cells; mathematics of an insertion. -/
import Derived.Test.YtkhmdhdaldbbhaaKBG
import Derived.Lib.AppendZerosOnto
import Derived.Lib.Overlaps
import Derived.Laws.CopyRow
import Derived.Test.YtkhmdhdaldbbhaaKPA1
import Derived.Test.YtkhmdhdaldbbhaaKJA1
import Derived.Test.YtkhmdhdaldbbhaaKQJ
import Derived.Test.YtkhmdhdaldbbhaaKEE
import Derived.Lib.SliceRun
set_option maxRecDepth 100000
set_option linter.unusedVariables false
namespace Go
open Go.RowKit

section
variable {P : Program} {ops : Array Oper} {rest : List Oper} {op : Oper} {a : Act} {Q : Exit → Act → World → Prop}

end
end Go

set_option maxRecDepth 100000
set_option linter.unusedVariables false
namespace Go.Proofs.Ytkhmdhdaldbbhaa
open Go.RowKit Go.Fin1

theorem info_Span : (Try.prog.info? 100).map (fun i => (i.zero, i.size, i.bytes)) = some (some (.agg #[(.int .i64 0), (.int .i64 0)]), 2, 16) := by kernel_rfl
theorem el_Span : ElemInfo Try.prog 103 100 2 16 := by
  obtain ⟨i, hi, hz, hs, hb⟩ := info_parts info_Span
  exact ⟨Try.underlying103, ⟨i, _, hi, hz, hs, hb, rfl⟩, by decide⟩

def insL (l : List Spn) (i : Nat) (x : Spn) : List Spn := l.take i ++ x :: l.drop i
theorem insL_len {l : List Spn} {i : Nat} (x : Spn) (h : i ≤ l.length) : (insL l i x).length = l.length + 1 := by
  unfold insL; simp; omega
theorem spn_one1 {x : Spn} {u : Value} (h : u ∈ x.cells) : u.oneCell' = true := by
  simp [Spn.cells] at h
  rcases h with rfl | rfl <;> rfl

end Go.Proofs.Ytkhmdhdaldbbhaa

set_option maxRecDepth 100000
set_option linter.unusedVariables false
namespace Go.Proofs.Ytkhmdhdaldbbhaa
open Go.RowKit Go.Fin1

/-- The place of a new span. -/
@[irreducible] def posS (l : List Spn) (f : Int) : Nat := (l.takeWhile (fun y => decide (y.f < f))).length
theorem posS_le (l : List Spn) (f : Int) : posS l f ≤ l.length := by unfold posS; exact (List.takeWhile_prefix _).length_le
theorem takeWhile_at {α : Type} {p : α → Bool} : ∀ {l : List α} {k : Nat}, k ≤ l.length → (∀ (j : Nat) (hj : j < l.length), j < k → p l[j] = true) → (∀ (hk : k < l.length), p l[k] = false) → (l.takeWhile p).length = k
  | [], k, hk, _, _ => by simp at hk; simp [hk]
  | x :: l, 0, _, _, h => by have := h (by simp); simp at this; simp [this]
  | x :: l, k + 1, hk, h, h2 => by
    have h0 := h 0 (by simp) (by omega)
    simp at h0
    rw [List.takeWhile_cons, if_pos h0, List.length_cons, takeWhile_at (l := l) (k := k) (by simpa using hk) (fun j hj hjk => h (j + 1) (Nat.succ_lt_succ hj) (by omega)) (fun hk' => h2 (Nat.succ_lt_succ hk'))]
theorem posS_at {l : List Spn} {f : Int} {k : Nat} (hk : k < l.length) (h : ∀ (j : Nat) (hj : j < l.length), j < k → decide (l[j].f < f) = true) (h2 : decide (l[k].f < f) = false) : posS l f = k := by
  unfold posS; exact takeWhile_at (by omega) h (fun _ => h2)
theorem posS_end {l : List Spn} {f : Int} (h : ∀ (j : Nat) (hj : j < l.length), decide (l[j].f < f) = true) : posS l f = l.length := by
  unfold posS; exact takeWhile_at (Nat.le_refl _) (fun j hj _ => h j hj) (fun h' => absurd h' (Nat.lt_irrefl _))
@[irreducible] def putL (l : List Spn) (x : Spn) : List Spn :=
  if 400 < l.length then [] else if (spnsOk l && spnOk x && freeL l x) && decide (l.length < 20) then insL l (posS l x.f) x else l
theorem putL_long {l : List Spn} {x : Spn} (h : 400 < l.length) : putL l x = [] := by unfold putL; rw [if_pos h]
theorem putL_same {l : List Spn} {x : Spn} (h : ¬ 400 < l.length) (h2 : ((spnsOk l && spnOk x && freeL l x) && decide (l.length < 20)) = false) : putL l x = l := by unfold putL; rw [if_neg h, h2]; rfl
theorem putL_ins {l : List Spn} {x : Spn} {k : Nat} (h : ¬ 400 < l.length) (h2 : (spnsOk l && spnOk x && freeL l x) = true) (h3 : l.length < 20) (hp : posS l x.f = k) : putL l x = insL l k x := by
  unfold putL; rw [if_neg h, h2, hp]; simp [h3]
theorem spnsOk_len {l : List Spn} (h : spnsOk l = true) : l.length ≤ 20 := by
  refine Nat.le_of_not_lt fun hl => ?_
  rw [spnsOk_long hl] at h; cases h
theorem putL_ok {l : List Spn} {x : Spn} (hl : ∀ y ∈ l, y.ok) (hx : x.ok) : ∀ y ∈ putL l x, y.ok := by
  by_cases h : 400 < l.length
  · rw [putL_long h]; intro y hy; cases hy
  · cases h2 : (spnsOk l && spnOk x && freeL l x) && decide (l.length < 20)
    · rw [putL_same h h2]; exact hl
    · simp only [Bool.and_eq_true, decide_eq_true_eq] at h2
      rw [putL_ins h (by simp [h2.1]) h2.2 rfl]
      intro y hy
      unfold insL at hy
      rcases List.mem_append.1 hy with hy | hy
      · exact hl y (List.mem_of_mem_take hy)
      · rcases List.mem_cons.1 hy with rfl | hy
        · exact hx
        · exact hl y (List.mem_of_mem_drop hy)
theorem rSpn_rc {w : World} {v : Value} {l : List Spn} (h : SlR w 2 rSpn v l) : SlR w 2 (rc Spn.cells) v l := slr_with h fun _ _ _ hr => hr.1
theorem row_spn {B : Nat} {w : World} {v : Value} {l : List Spn} (h : Row B w 100 2 Spn.cells v l) (hl : ∀ x ∈ l, x.ok) : SlR w 2 rSpn v l := by
  obtain ⟨fp, hO⟩ := Row.own (f := Spn.cells) (K := 2) (fun _ => rfl) h
  exact slr_with (oFl_reads (f := Spn.cells) (fun _ => rfl) hO.1) fun cs x hm hc => ⟨hc, hl x hm⟩

end Go.Proofs.Ytkhmdhdaldbbhaa

set_option maxRecDepth 100000
set_option linter.unusedVariables false
namespace Go.Proofs.Ytkhmdhdaldbbhaa
open Go.RowKit Go.Fin1

theorem slr_take {α : Type} {w : World} {K n c k : Nat} {r : World → List Value → α → Prop} {a : Option Addr} {xs : List α} (h : SlR w K r (.slice a n c) xs) (hk : k ≤ xs.length) : SlR w K r (.slice a k c) (xs.take k) := by
  obtain ⟨h1, h2, h3⟩ := slr_len h
  obtain ⟨a', c', hv, _, _, h4⟩ := h
  obtain ⟨rfl, _, rfl⟩ : a = a' ∧ n = xs.length ∧ c = c' := by simpa using hv
  have hl : (xs.take k).length = k := by simp; omega
  refine ⟨a, c, by rw [hl], by rw [hl]; omega, h3, fun i hi => ?_⟩
  rw [hl] at hi
  obtain ⟨b, off, cs, e1, e2, e3, e4⟩ := h4 i (by omega)
  exact ⟨b, off, cs, e1, e2, e3, by rw [List.getElem_take]; exact e4⟩
theorem slr_drop {α : Type} {w : World} {K n c k m q : Nat} {b off : Nat} {r : World → List Value → α → Prop} {xs : List α} (h : SlR w K r (.slice (some ⟨b, off, none⟩) n c) xs) (hk : k ≤ xs.length) (hm : m = xs.length - k) (hq : q = c - k) : SlR w K r (.slice (some ⟨b, off + k * K, none⟩) m q) (xs.drop k) := by
  subst hm
  subst hq
  obtain ⟨h1, h2, h3⟩ := slr_len h
  have hl : (xs.drop k).length = xs.length - k := by simp
  refine ⟨_, _, by rw [hl], by rw [hl]; omega, by omega, fun i hi => ?_⟩
  rw [hl] at hi
  obtain ⟨cs, e2, e3, e4⟩ := slr_cells h (i := k + i) (by omega)
  refine ⟨b, _, cs, rfl, e2, fun j u hj => ?_, by rw [List.getElem_drop]; exact e4⟩
  have := e3 j u hj
  rw [Nat.add_mul] at this
  rw [← this]; congr 2; omega
theorem slr_nil {α : Type} {w : World} {K c : Nat} {r : World → List Value → α → Prop} {a : Option Addr} {xs : List α} (h : xs = []) (hc : c ≤ maxLen) : SlR w K r (.slice a 0 c) xs := by
  subst h
  exact ⟨a, c, rfl, Nat.zero_le _, hc, fun i hi => absurd hi (Nat.not_lt_zero _)⟩

set_option maxHeartbeats 3200000 in
theorem l03Put_any (v : Value) (l : List Spn) (x : Spn) (w : World) (h : SlR w 2 rSpn v l) (hl : l.length ≤ 1048576) :
    Calls Try.prog 112 #[v, .agg #[(.int .i64 x.f), (.int .i64 x.t)]] w fun e w' => ∃ v', e = .returned v' ∧ Ext w w' ∧ Row w.heap.size w' 100 2 Spn.cells v' (insL l (posS l x.f) x) := by
  obtain ⟨a, cap, rfl⟩ := h.len
  obtain ⟨-, hlc, hcm⟩ := slr_len h
  have hcm2 : cap ≤ 9223372036854775807 := by unfold maxLen at hcm; omega
  have HCM := Lib.hid hcm
  clear hcm
  have HS := Lib.hid h
  clear h
  go_enter Try.func112, Try.ntmps112
  go_wp2
  go_loopw [5] (fun i wr => ∃ k : Nat, k ≤ l.length ∧ i = .int .i64 k ∧ Ext (w.alloc (.cells #[(.int .i64 x.f), (.int .i64 x.t)] 100)) wr ∧ Hid (∀ (j : Nat) (hj : j < l.length), j < k → decide (l[j].f < x.f) = true)) (fun i _ => l.length - (intOf i).toNat)
  case atStart =>
    exact ⟨0, Nat.zero_le _, rfl, Ext.refl _, Lib.hid (fun j _ h => absurd h (Nat.not_lt_zero _))⟩
  case round =>
    obtain ⟨k, hk, rfl, ⟨X, rfl⟩, HH⟩ := hrel
    by_cases hlt : k < l.length
    · obtain ⟨bb, off, rfl⟩ := slr_some HS.out hlt
      obtain ⟨ho, hok, h0, h1⟩ := spn_at HS.out hlt
      have hkl : decide ((k : Int) < (l.length : Int)) = true := decide_eq_true (by omega)
      cases q1 : decide (l[k].f < x.f)
      · have hp := Lib.hid (posS_at hlt HH.out q1)
        go_wp2
        (refine wp_region_x 14 (by kernel_rfl) (by kernel_rfl) (by kernel_rfl) ?_; (iterate 14 (apply XReg.step; (case h => (intro w' hw'; obtain ⟨X', rfl⟩ := hw'; go_wp2_with (fail); exact ⟨rfl, xt⟩)); (case hv => kernel_rfl))); refine XReg.doneN (fun X => ?_))
        clear q1 hkl
        have hck : ¬ cap = k := by omega
        go_upto_region 5 with (at_builtin; go_must (refine Row.appV (f := Spn.cells) el_Span rfl _ _ rfl (w.alloc (.cells #[(.int .i64 x.f), (.int .i64 x.t)] 100)) xt _ [] rfl ?_ _ (l.take k) rfl (fun _ => rfl) ?_ ?_ ?_ ?_ ?_); (exact Row.madeB' (by first | (simp; done) | (simp; omega)) (by first | (simp; done) | (simp; omega))); (exact slr_take (rSpn_rc (HS.out.ext rSpn_stable xt)) (by omega)); (intro y u hu; exact spn_one1 hu); (unfold maxLen; simp; omega); (simp; omega); intro v1 Z1 hown1; have HO1 := Lib.hid hown1; clear hown1)
        have hR1 := HO1.out
        rw [List.nil_append] at hR1
        obtain ⟨a1, c1, rfl⟩ := hR1.shape
        have HR1 := Lib.hid hR1
        clear hR1 HO1
        go_upto_region 6 with (at_builtin; go_must (refine Row.app (f := Spn.cells) el_Span rfl _ _ rfl (w.alloc (.cells #[(.int .i64 x.f), (.int .i64 x.t)] 100)) xt _ (l.take k) rfl (HR1.out.ext xt) x rfl _ ?_ rfl rfl ?_ ?_ ?_ ?_); (simp [go_sem]); (simp [Value.oneCell']); (unfold maxLen; simp; omega); (simp; omega); intro v2 Z2 hown2 hne2; have HO2 := Lib.hid hown2; clear hown2 hne2)
        obtain ⟨a2, c2, rfl⟩ := HO2.out.shape
        go_wp2_with (at_builtin; go_must (refine Row.appV (f := Spn.cells) el_Span rfl _ _ rfl (w.alloc (.cells #[(.int .i64 x.f), (.int .i64 x.t)] 100)) xt _ (l.take k ++ [x]) rfl (HO2.out.ext xt) _ (l.drop k) rfl (fun _ => rfl) (slr_drop (rSpn_rc (HS.out.ext rSpn_stable xt)) (by omega) rfl rfl) ?_ ?_ ?_ ?_); (intro y u hu; exact spn_one1 hu); (unfold maxLen; simp; omega); (simp; omega); intro v3 Z3 hown3; have HO3 := Lib.hid hown3; clear hown3)
        all_goals go_ret
        all_goals exact ⟨_, rfl, xt, by
          have h := HO3.out
          rw [hp.out]
          unfold insL
          rw [List.append_assoc] at h
          exact h.mono (by simp)⟩
      · go_wp2
        (refine wp_region_x 14 (by kernel_rfl) (by kernel_rfl) (by kernel_rfl) ?_; (iterate 14 (apply XReg.step; (case h => (intro w' hw'; obtain ⟨X', rfl⟩ := hw'; go_wp2_with (fail); exact ⟨rfl, xt⟩)); (case hv => kernel_rfl))); refine XReg.doneN (fun X => ?_))
        go_wp2
        exact ⟨⟨k + 1, by omega, by go_num, xt, Lib.hid (fun j hj hjk => by
          by_cases e : j < k
          · exact HH.out j hj e
          · obtain rfl : j = k := by omega
            exact q1)⟩, by simp [intOf]; omega⟩
    · have hkl : decide ((k : Int) < (l.length : Int)) = false := decide_eq_false (by omega)
      have hp := Lib.hid (posS_end (l := l) (f := x.f) fun j hj => HH.out j hj (by omega))
      obtain rfl : k = l.length := by omega
      go_wp2
      (refine wp_region_x 14 (by kernel_rfl) (by kernel_rfl) (by kernel_rfl) ?_; (iterate 14 (apply XReg.step; (case h => (intro w' hw'; obtain ⟨X', rfl⟩ := hw'; go_wp2_with (fail); exact ⟨rfl, xt⟩)); (case hv => kernel_rfl))); refine XReg.doneN (fun X => ?_))
      clear hkl
      go_upto_region 5 with (at_builtin; go_must (refine Row.appV (f := Spn.cells) el_Span rfl _ _ rfl (w.alloc (.cells #[(.int .i64 x.f), (.int .i64 x.t)] 100)) xt _ [] rfl ?_ _ (l.take l.length) rfl (fun _ => rfl) ?_ ?_ ?_ ?_ ?_); (exact Row.madeB' (by first | (simp; done) | (simp; omega)) (by first | (simp; done) | (simp; omega))); (exact slr_take (rSpn_rc (HS.out.ext rSpn_stable xt)) (by omega)); (intro y u hu; exact spn_one1 hu); (unfold maxLen; simp; omega); (simp; omega); intro v1 Z1 hown1; have HO1 := Lib.hid hown1; clear hown1)
      have hR1 := HO1.out
      rw [List.nil_append] at hR1
      obtain ⟨a1, c1, rfl⟩ := hR1.shape
      have HR1 := Lib.hid hR1
      clear hR1 HO1
      go_upto_region 6 with (at_builtin; go_must (refine Row.app (f := Spn.cells) el_Span rfl _ _ rfl (w.alloc (.cells #[(.int .i64 x.f), (.int .i64 x.t)] 100)) xt _ (l.take l.length) rfl (HR1.out.ext xt) x rfl _ ?_ rfl rfl ?_ ?_ ?_ ?_); (simp [go_sem]); (simp [Value.oneCell']); (unfold maxLen; simp; omega); (simp; omega); intro v2 Z2 hown2 hne2; have HO2 := Lib.hid hown2; clear hown2 hne2)
      obtain ⟨a2, c2, rfl⟩ := HO2.out.shape
      go_wp2_with (at_builtin; go_must (refine Row.appV (f := Spn.cells) el_Span rfl _ _ rfl (w.alloc (.cells #[(.int .i64 x.f), (.int .i64 x.t)] 100)) xt _ (l.take l.length ++ [x]) rfl (HO2.out.ext xt) _ (l.drop l.length) rfl (fun _ => rfl) (slr_nil (by simp) (Nat.le_trans (Nat.sub_le _ _) HCM.out)) ?_ ?_ ?_ ?_); (intro y u hu; exact spn_one1 hu); (unfold maxLen; simp; omega); (simp; omega); intro v3 Z3 hown3; have HO3 := Lib.hid hown3; clear hown3)
      all_goals go_ret
      all_goals exact ⟨_, rfl, xt, by
        have h := HO3.out
        rw [hp.out]
        unfold insL
        rw [List.append_assoc] at h
        exact h.mono (by simp)⟩

end Go.Proofs.Ytkhmdhdaldbbhaa
