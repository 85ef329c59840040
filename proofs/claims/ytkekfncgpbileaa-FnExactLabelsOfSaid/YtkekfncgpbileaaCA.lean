/- slices.Grow of nothing and slices.Concat at labels. -/
import Derived.Test.YtkekfncgpbileaaCG1
import Derived.Test.YtkekfncgpbileaaT0
set_option maxRecDepth 100000
set_option linter.unusedVariables false
namespace Go
open Go.RowKit
section
variable {P : Program} {ops : Array Oper} {rest : List Oper} {op : Oper} {a : Act} {Q : Exit → Act → World → Prop}
/-- append(nil, make(.., k)...). -/
theorem growN {t tn e : TypeId} {size bytes : Nat} {W : World} (E : ElemInfo P t e size bytes) (htn : P.underlying tn = some (.int .i64)) (hgd : op.guard = none) (s x : Operand)
    (ho : op.op = .call { callee := .builtin .append, args := #[s, x], argTypes := #[t, tn] })
    (k : Nat) (hs : a.eval s = .slice none 0 0) (hx : a.eval x = .int .i64 (k : Int)) (h0 : 0 < k) (h63 : k ≤ maxLen) (hbytes : k * bytes ≤ 140737488355328)
    (h : ∀ w' cap cur, Ext W w' → w'.heap[W.heap.size]? = some (.cells cur e (0, 0)) → k ≤ cap → cap ≤ maxLen → cur.size = cap * size → wpList P ops Q rest (a.put op.dst (.slice (some ⟨W.heap.size, 0, none⟩) k cap)) w') : wpList P ops Q (op :: rest) a W := by
  obtain ⟨q, z, hi, hz, hsize, hby, hzs⟩ := E.info
  have hp := E.pos
  subst hsize
  subst hby
  refine wpList_plain hgd fun K hK => ?_
  have hroom : 0 < 0 + k := by omega
  have hfit := growslice_fits hroom (show (0 + k) * q.bytes ≤ 140737488355328 by rw [Nat.zero_add]; exact hbytes)
  have hrun := Lib.run_append_grow_zeros W t tn op.type e q z .i64 .i64 E.und htn hi hz none 0 0 [] (by simp [Builtin.firstCells]) k h0 hp hroom (by unfold maxLen at h63; omega) (by omega) hfit
  have hge := grownCap_ge W (0 + k) 0 e
  have hle := grownCap_le_maxLen W (0 + k) 0 e (by omega)
  simp only [Nat.zero_add] at hrun hge hle
  unfold Oper.wp
  simp [execOp, ho, resolve, invoke, builtin, hs, hx, hrun, Result.andThen]
  refine hK _ _ (h _ _ _ ((Ext.refl _).drew.alloc _) (heap_alloc_new W.drew _) hge hle ?_)
  simp only [Array.size_append, size_zeroCells, hzs, ← Nat.add_mul]
  congr 1
  omega
end
end Go
namespace Go.Proofs.Ytkekfncgpbileaa
open Go.RowKit Go.Fin1
set_option maxHeartbeats 800000 in
theorem growLab_any (k : Nat) (w : World) (hk : k ≤ 1048576) :
    Calls Try.prog 171 #[.slice none 0 0, (.int .i64 (k : Int))] w fun e w' => ∃ v', e = .returned v' ∧ Ext w w' ∧ Row w.heap.size w' 35 2 Lab.cells v' [] := by
  have hb1 : decide ((k : Int) < 0) = false := decide_eq_false (by omega)
  by_cases h0 : 0 < k
  · have hb2 : decide ((k : Int) > 0) = true := decide_eq_true (by omega)
    have H0 := Lib.hid h0
    clear h0
    go_enter Try.func171, Try.ntmps171
    go_wp2_with (at_builtin; go_must (refine growN el_Label Try.underlying3 rfl _ _ rfl k rfl rfl H0.out ?_ ?_ ?_); (unfold maxLen; omega); omega; intro w' cp cur hx hg hc1 hc2 hc3; have HX := Lib.hid hx; have HG := Lib.hid hg; have HC := Lib.hid (And.intro hc1 (And.intro hc2 hc3)); have hkc : k ≤ cp := hc1; clear hx hg hc1 hc2 hc3)
    go_ret
    refine ⟨_, rfl, HX.out, ⟨by simp, .inr ⟨w.heap.size, cp, cur, rfl, Nat.le_refl _, HG.out, Nat.zero_le _, HC.out.2.1, HC.out.2.2, by simp⟩⟩⟩
  · obtain rfl : k = 0 := by omega
    clear h0 hb1 hk
    go_enter Try.func171, Try.ntmps171
    go_wp2
    go_ret
    exact ⟨_, rfl, (by repeat (first | exact Ext.refl _ | apply Ext.plus | apply Ext.alloc | apply Ext.drew)), Row.nil _ _ _ _ _⟩
theorem flat_take {α : Type} {l : List (List α)} {k : Nat} (hk : k < l.length) : (l.take (k + 1)).flatten = (l.take k).flatten ++ l[k] := by
  rw [List.take_succ_eq_append_getElem hk, List.flatten_append]; simp
theorem flat_take_le {α : Type} (l : List (List α)) (k : Nat) : (l.take k).flatten.length ≤ l.flatten.length := by
  conv => rhs; rw [← List.take_append_drop k l, List.flatten_append, List.length_append]
  omega
theorem lab_one {l : List Lab} {u : Value} (h : u ∈ l.flatMap Lab.cells) : u.oneCell' = true := by
  obtain ⟨x, _, hx⟩ := List.mem_flatMap.1 h
  simp [Lab.cells] at hx
  rcases hx with rfl | rfl <;> rfl
theorem rLab_rcC {w : World} {v : Value} {l : List Lab} (h : SlR w 2 rLab v l) : SlR w 2 (rc Lab.cells) v l := slr_with h fun _ _ _ hr => hr.1
set_option maxHeartbeats 1600000 in
theorem concatLab_any (v : Value) (cl : List (List Lab)) (w : World) (h : SlR w 1 rLabS v cl) (hl : cl.length ≤ 1048576) (hf : cl.flatten.length ≤ 1048576) (hne : ∀ l ∈ cl, 1 ≤ l.length) :
    Calls Try.prog 154 #[v] w fun e w' => ∃ v', e = .returned v' ∧ Ext w w' ∧ Row w.heap.size w' 35 2 Lab.cells v' cl.flatten := by
  obtain ⟨ad, cap, rfl⟩ := h.len
  have HS := Lib.hid h
  have HF := Lib.hid hf
  have HNE := Lib.hid hne
  clear h hf hne
  go_enter Try.func154, Try.ntmps154
  go_wp2
  go_loopw [3, 11, 5] (fun sz i _ wr => ∃ k m : Nat, k ≤ cl.length ∧ i = .int .i64 k ∧ sz = (.int .i64 (m : Int)) ∧ Hid (m = (cl.take k).flatten.length) ∧ m ≤ 1048576 ∧ Ext w wr) (fun _ i _ _ => cl.length - (intOf i).toNat)
  case atStart => exact ⟨0, 0, Nat.zero_le _, rfl, rfl, Lib.hid (by simp), by omega, (by repeat (first | exact Ext.refl _ | apply Ext.plus | apply Ext.alloc | apply Ext.drew))⟩
  case round =>
    obtain ⟨k, m, hk, rfl, rfl, HM, hm, ⟨X, rfl⟩⟩ := hrel
    by_cases hlt : k < cl.length
    · obtain ⟨b, off, rfl⟩ := slr_some HS.out hlt
      obtain ⟨ho, vx, hsx, h0⟩ := sl_at HS.out hlt
      obtain ⟨ax, cx, rfl⟩ := hsx.len
      clear hsx
      have HM2 : Hid (m + cl[k].length = (cl.take (k + 1)).flatten.length) := Lib.hid (by rw [flat_take hlt, List.length_append, HM.out])
      have hm2 : m + cl[k].length ≤ 1048576 := by rw [HM2.out]; exact Nat.le_trans (flat_take_le _ _) HF.out
      generalize cl[k].length = q at h0 HM2 hm2
      have hb : decide ((m : Int) + (q : Int) < 0) = false := decide_eq_false (by omega)
      go_wp2
      exact ⟨⟨k + 1, m + q, by omega, by go_num, by go_num, HM2, by omega, (by repeat (first | exact Ext.refl _ | apply Ext.plus | apply Ext.alloc | apply Ext.drew))⟩, by simp [intOf]; omega⟩
    · obtain rfl : k = cl.length := by omega
      go_wp2_with fail
      refine (growLab_any m _ hm).mono ?_
      rintro e _ ⟨v1, rfl, ⟨Y, rfl⟩, hR⟩
      have HR := Lib.hid (hR.mono (B' := w.heap.size) (by simp))
      clear hR
      go_wp2
      go_loopw [6, 27, 8] (fun o i _ wr => ∃ k : Nat, k ≤ cl.length ∧ i = .int .i64 k ∧ Ext w wr ∧ Hid (Row w.heap.size wr 35 2 Lab.cells o (cl.take k).flatten)) (fun _ i _ _ => cl.length - (intOf i).toNat)
      case atStart => exact ⟨0, Nat.zero_le _, rfl, (by repeat (first | exact Ext.refl _ | apply Ext.plus | apply Ext.alloc | apply Ext.drew)), HR⟩
      case round =>
        clear HR HM hm
        obtain ⟨k, hk, rfl, ⟨X, rfl⟩, HR⟩ := hrel
        obtain ⟨a1, c1, rfl⟩ := HR.out.shape
        by_cases hlt : k < cl.length
        · obtain ⟨b, off, rfl⟩ := slr_some HS.out hlt
          obtain ⟨ho, vx, hsx, h0⟩ := sl_at HS.out hlt
          obtain ⟨ax, cx, rfl⟩ := hsx.len
          obtain ⟨bx, ofx, rfl⟩ := slr_some hsx (show 0 < cl[k].length from HNE.out _ (List.getElem_mem hlt))
          have HX := Lib.hid (slr_flat (f := Lab.cells) (K := 2) (fun _ => rfl) (rLab_rcC hsx))
          have HT := Lib.hid (flat_take hlt)
          have hle : (cl.take k).flatten.length + cl[k].length ≤ 1048576 := by rw [← List.length_append, ← HT.out]; exact Nat.le_trans (flat_take_le _ _) HF.out
          clear hsx
          go_wp2_with (at_builtin; go_must (refine Row.appS (f := Lab.cells) el_Label rfl _ _ rfl w (by repeat (first | exact Ext.refl _ | apply Ext.plus | apply Ext.alloc | apply Ext.drew)) _ (cl.take k).flatten rfl HR.out ⟨bx, ofx, none⟩ cl[k].length cx cl[k] rfl rfl (fun _ => rfl) ?_ ?_ ?_ ?_ ?_); (exact fun j u hu => Ext.cellA (by repeat (first | exact Ext.refl _ | apply Ext.plus | apply Ext.alloc | apply Ext.drew)) (HX.out j u hu)); (intro u hu; exact lab_one hu); (unfold maxLen; omega); omega; intro v' X' hown' hne'; have HO' := Lib.hid hown'; clear hown' hne')
          exact ⟨⟨k + 1, by omega, by go_num, (by repeat (first | exact Ext.refl _ | apply Ext.plus | apply Ext.alloc | apply Ext.drew)), Lib.hid (by rw [HT.out]; exact HO'.out)⟩, by simp [intOf]; omega⟩
        · obtain rfl : k = cl.length := by omega
          go_wp2
          go_ret
          exact ⟨_, rfl, (by repeat (first | exact Ext.refl _ | apply Ext.plus | apply Ext.alloc | apply Ext.drew)), by have h := HR.out; simp only [List.take_length] at h ⊢; exact h⟩
end Go.Proofs.Ytkekfncgpbileaa
