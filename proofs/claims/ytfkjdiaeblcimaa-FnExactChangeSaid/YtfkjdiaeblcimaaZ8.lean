/- The program's copy of a pool. -/
import Derived.Test.YtfkjdiaeblcimaaZ7
set_option maxRecDepth 100000
set_option linter.unusedVariables false
namespace Go
open Go.RowKit
theorem Own.swap2 {α : Type} {B : Nat} {A A' : World} {X Y : More} {o : Ow α} (hl : Local o) {fp : List Nat} {cs : List Value} {x : α} (h : Own B ((A.plus X).plus Y) o fp cs x) (hb : A.heap.size ≤ B) (hs : A'.heap.size = A.heap.size) : Own B ((A'.plus X).plus Y) o fp cs x := by
  refine ⟨hl _ _ _ _ _ (fun b hbm => ?_) h.1, h.2⟩
  have := h.2.2 b hbm
  simp only [World.plus]
  rw [Array.append_assoc, Array.append_assoc, Array.getElem?_append_right (xs := A'.heap) (by rw [hs]; omega), Array.getElem?_append_right (xs := A.heap) (by omega), hs]
section
variable {α : Type} {P : Program} {ops : Array Oper} {rest : List Oper} {op : Oper} {a : Act} {Q : Exit → Act → World → Prop}
/-- As 'Own.app1': the element was just laid; of the world nothing is said. -/
theorem Own.appN {t e : TypeId} {size bytes : Nat} {W : World} {cs : Array Value} {o : Ow α} (hlo : Local o) (hhe : Held o) (E : ElemInfo P t e size bytes) (hgd : op.guard = none) (s x : Operand)
    (ho : op.op = .call { callee := .builtin .append, args := #[s, x], argTypes := #[t, t] })
    (B : Nat) (hB : B ≤ W.heap.size) (v : Value) (xs : List α) (fp : List Nat) (hs : a.eval s = v) (hown : Own B W (oSl e size o) fp [v] xs)
    (b0 : Nat) (hb0 : b0 = W.heap.size) (hx : a.eval x = .slice (some ⟨b0, 0, none⟩) 1 1) (y : α) (fy : List Nat) (hy : Own B W o fy cs.toList y) (hcl : cs.size = size) (hap : ∀ b ∈ fp, b ∉ fy)
    (h1 : ∀ u ∈ cs.toList, u.oneCell' = true) (h63 : xs.length + 1 ≤ maxLen) (hbytes : (xs.length + 1) * bytes ≤ 140737488355328)
    (h : ∀ v' w' fp', Own B w' (oSl e size o) fp' [v'] (xs ++ [y]) → Chg (blkL v) W w' → (∀ b ∈ fp', b ∈ fp ∨ b ∈ fy ∨ W.heap.size ≤ b) → wpList P ops Q rest (a.put op.dst v') w') : wpList P ops Q (op :: rest) a (W.alloc (.cells cs e)) := by
  subst hb0
  have hx1 : Ext W (W.alloc (.cells cs e)) := (Ext.refl _).alloc _
  refine Own.app1 hlo hhe E hgd s x ho B v xs fp hs (hown.ext (oSl_local hlo) (oSl_held hhe) hx1) ⟨W.heap.size, 0, none⟩ 1 hx y fy cs.toList (hy.ext hlo hhe hx1) (by simpa using hcl) hap (by rw [World.size_alloc]; omega) (fun j u hu => ?_) h1 h63 hbytes ?_
  · rw [Addr.add_lit, Nat.zero_add, World.cell?_alloc_new]
    simpa using hu
  · intro v' w' fp' hO hch hsub
    exact h v' w' fp' hO ((hx1.chg _).trans hch) (fun b hb => by
      rcases hsub b hb with h | h | h
      · exact .inl h
      · exact .inr (.inl h)
      · rw [World.size_alloc] at h; exact .inr (.inr (by omega)))
end
end Go
namespace Go.Proofs.Ytfkjdiaeblcimaa
open Go.RowKit Go.Fin1

theorem kOwnX_goodK {α : Type} {ty K : Nat} {o : Ow α} (hlo : Local o) (hhe : Held o) {B : Nat} {xs : List α} (h : ∀ y ∈ xs, CanO K o y) (hm : xs.length ≤ maxLen) : XReg.GoodK (kOwnX ty K o B xs (0, 0)) :=
  ⟨fun v w w' hx ⟨a, c, fp, hv, hO⟩ => ⟨a, c, fp, hv, hO.ext (oSl_local hlo) (oSl_held hhe) hx⟩, by
    obtain ⟨w', a, c, fp, _, hO⟩ := own_can (ty := ty) hlo hhe h hm (emptyH B)
    rw [emptyH_size] at hO
    exact ⟨_, w', a, c, fp, rfl, hO⟩⟩
/-- A pool whose clearances lie in memory of their own from B on. -/
def kPoolV (B : Nat) (p : Pl) (jv : Value) : XReg.Kind := fun v w => ∃ a c fp, v = .agg #[.slice a p.clear.length c, jv, (.int .i64 p.now)] ∧ Own B w oLabelSS fp [.slice a p.clear.length c] p.clear
theorem kPoolV_goodK {B : Nat} {p : Pl} {jv : Value} (h : ∀ y ∈ p.clear, CanO 1 oLabelS y) (hm : p.clear.length ≤ maxLen) : XReg.GoodK (kPoolV B p jv) :=
  ⟨fun v w w' hx ⟨a, c, fp, hv, hO⟩ => ⟨a, c, fp, hv, hO.ext oLabelSS_local oLabelSS_held hx⟩, by
    obtain ⟨w', a, c, fp, _, hO⟩ := own_can (ty := 147) (oSl_local (oFlat_local _)) (oSl_held (oFlat_held _)) h hm (emptyH B)
    rw [emptyH_size] at hO
    exact ⟨_, w', a, c, fp, rfl, hO⟩⟩
theorem kPoolV_out {B : Nat} {p : Pl} {jv : Value} {a : Option Addr} {n c : Nat} {w : World} {now : Int} (h : kPoolV B p jv (.agg #[.slice a n c, jv, (.int .i64 now)]) w) : ∃ fp, Own B w oLabelSS fp [.slice a n c] p.clear := by
  obtain ⟨a', c', fp, hv, h⟩ := h
  simp at hv
  obtain ⟨⟨rfl, rfl, rfl⟩, _⟩ := hv
  exact ⟨fp, h⟩
theorem canLabS {l : List Lab} (hm : l.length ≤ maxLen) : CanO 1 oLabelS l := canO_sl (oFlat_local _) (oFlat_held _) (fun y _ => canO_flat (fun _ => rfl) y) hm
set_option maxHeartbeats 3200000 in
theorem copyPool_any (p : Pl) (v : Value) (w : World) (h : ePool w v p) (hf : p.fits 1048576) :
    Calls Try.prog 132 #[v] w fun e w' => ∃ c j fc fj, e = .returned (p.val c j) ∧ Ext w w' ∧ OwnP w.heap.size w' fc fj c j p := by
  obtain ⟨a, c, b, d, rfl, h0, h1, h2⟩ := h
  have HC := Lib.hid h1
  have HJ := Lib.hid h2
  have HSC : Hid (szL List.length p.clear ≤ 1048576) := Lib.hid hf.1
  have HSJ : Hid (szL Jb.sz p.jobs ≤ 1048576) := Lib.hid (Nat.le_trans hf.2 (Nat.sub_le _ _))
  have hlc : p.clear.length ≤ 1048576 := Nat.le_trans (szL_len List.length _) HSC.out
  have hlj : p.jobs.length ≤ 1048576 := Nat.le_trans (szL_len Jb.sz _) HSJ.out
  clear h0 h1 h2 hf
  unfold Pl.val
  go_enter Try.func132, Try.ntmps132
  go_wp2
  go_loopw [10, 3, 5] (fun i o _ wr => ∃ k : Nat, k ≤ p.jobs.length ∧ i = .int .i64 k ∧ Ext ((w.alloc (.cells #[.slice a p.clear.length c, .slice b p.jobs.length d, (.int .i64 p.now)] 47)).alloc (.cells #[.slice none 0 0, .slice none 0 0, (.int .i64 0)] 47)) wr ∧ Hid (∃ fp, Own ((w.alloc (.cells #[.slice a p.clear.length c, .slice b p.jobs.length d, (.int .i64 p.now)] 47)).alloc (.cells #[.slice none 0 0, .slice none 0 0, (.int .i64 0)] 47)).heap.size wr oJobS fp [o] (p.jobs.take k))) (fun i _ _ _ => p.jobs.length - (intOf i).toNat)
  case atStart => exact ⟨0, Nat.zero_le _, rfl, (by repeat (first | exact Ext.refl _ | apply Ext.plus | apply Ext.alloc | apply Ext.drew)), Lib.hid ⟨_, Own.made (by simp) (Nat.le_refl _)⟩⟩
  case round =>
    obtain ⟨k, hk, rfl, ⟨X, rfl⟩, HH⟩ := hrel
    obtain ⟨fp, hO⟩ := HH.out
    have HB := Lib.hid (oJobS_held _ _ _ _ hO.1)
    obtain ⟨ao, co, rfl⟩ := hO.shape
    have hZ : (p.jobs.take k).length = k := by rw [List.length_take]; omega
    rw [hZ] at hO ⊢
    have HO := Lib.hid hO
    have HZ := Lib.hid hZ
    clear hO HH hZ
    by_cases hlt : k < p.jobs.length
    · obtain ⟨b1, off, rfl⟩ := slr_some HJ.out hlt
      obtain ⟨ho, an, cn, hok, hsn, e0, e1, e2, e3, e4, e5, e6, e7, e8⟩ := job_at HJ.out hlt
      have HX := Lib.hid hsn
      have HT := Lib.hid (List.take_append_getElem hlt)
      have HKL : Hid (p.jobs[k].nodes.length ≤ 1048576) := Lib.hid (Nat.le_trans (szL_at Jb.sz hlt) HSJ.out)
      clear hsn hok
      go_wp2_with fail
      refine (copyJob_any p.jobs[k] _ _ (HX.out.ext rInt_stable (by repeat (first | exact Ext.refl _ | apply Ext.plus | apply Ext.alloc | apply Ext.drew))) HKL.out).mono ?_
      rintro e _ ⟨nv, fy, rfl, ⟨Y, rfl⟩, hO9⟩
      obtain ⟨a3, c3, rfl⟩ := hO9.shape
      have HA : Hid (∀ q ∈ fp, q ∉ fy) := Lib.hid (fun q hq hq9 => by have h1 := HB.out q hq; have h2 := hO9.2.2 q hq9; simp at h1 h2; omega)
      have HY := Lib.hid hO9
      have HE : Hid (∀ O Y, Own ((w.alloc (.cells #[.slice a p.clear.length c, .slice (some ⟨b1, off, none⟩) p.jobs.length d, (.int .i64 p.now)] 47)).alloc (.cells #[.slice none 0 0, .slice none 0 0, (.int .i64 0)] 47)).heap.size (((((w.alloc (.cells #[.slice a p.clear.length c, .slice (some ⟨b1, off, none⟩) p.jobs.length d, (.int .i64 p.now)] 47)).alloc (.cells #[.slice none 0 0, .slice none 0 0, (.int .i64 0)] 47)).plus X).alloc O).plus Y) oJobS fp [.slice ao k co] (p.jobs.take k)) := Lib.hid (fun O Y => HO.out.ext oJobS_local oJobS_held (((Ext.refl _).alloc O).plus Y))
      clear hO9
      unfold Jb.val
      go_wp2_with (at_builtin; go_must (refine Own.app oJob_local oJob_held el_eJob rfl _ _ rfl (w0 := ((w.alloc (.cells #[.slice a p.clear.length c, .slice (some ⟨b1, off, none⟩) p.jobs.length d, (.int .i64 p.now)] 47)).alloc (.cells #[.slice none 0 0, .slice none 0 0, (.int .i64 0)] 47))) (by repeat (first | exact Ext.refl _ | apply Ext.plus | apply Ext.alloc | apply Ext.drew)) _ (p.jobs.take k) fp rfl (HE.out _ _) _ (by simp) rfl p.jobs[k] fy ⟨⟨_, rfl, HY.out.1⟩, HY.out.2.1, fun q hq => by have := HY.out.2.2 q hq; simp at this ⊢; omega⟩ rfl HA.out ?_ ?_ ?_ ?_); (intro u hu; simp at hu; rcases hu with rfl | rfl | rfl | rfl | rfl | rfl | rfl | rfl | rfl <;> rfl); (rw [HZ.out]; unfold maxLen; omega); (rw [HZ.out]; omega); intro v' X' fp' hown'; rw [HT.out] at hown'; have HO' := Lib.hid hown'; clear hown')
      exact ⟨⟨k + 1, by omega, by go_num, (by repeat (first | exact Ext.refl _ | apply Ext.plus | apply Ext.alloc | apply Ext.drew)), Lib.hid ⟨_, HO'.out⟩⟩, by simp [intOf]; omega⟩
    · obtain rfl : k = p.jobs.length := by omega
      rw [List.take_length] at HO
      go_upto_region 7 with fail
      obtain ⟨B0, hB0⟩ : ∃ B0, B0 = (((w.alloc (.cells #[.slice a p.clear.length c, .slice b p.jobs.length d, (.int .i64 p.now)] 47)).alloc (.cells #[.slice none 0 0, .slice none 0 0, (.int .i64 0)] 47)).plus X).heap.size := ⟨_, rfl⟩
      have HB0 := Lib.hid hB0
      have HKM : Hid (∀ y ∈ p.clear, CanO 1 oLabelS y) := Lib.hid (fun y hy => by
        obtain ⟨q, hq, rfl⟩ := List.mem_iff_getElem.1 hy
        have h1 := Nat.le_trans (szL_at List.length hq) HSC.out
        exact canLabS (by unfold maxLen; omega))
      have hkl : p.clear.length ≤ maxLen := by unfold maxLen; omega
      clear hB0 hlt hk
      (refine wp_region_y 7 [(fun u _ => u = (.pointer (some ⟨w.heap.size, 0, none⟩))), (fun u _ => u = (.slice a p.clear.length c)), kOwnX 147 1 oLabelS B0 p.clear (0, 0), (fun u _ => u = (.slice ao p.jobs.length co)), (fun u _ => u = (.pointer (some ⟨w.heap.size, 2, none⟩))), (fun u _ => u = (.int .i64 p.now)), kPoolV B0 p (.slice ao p.jobs.length co)] (by kernel_rfl) (by kernel_rfl) (by kernel_rfl) rfl ?_ (by (repeat' (first | exact trivial | exact XReg.GoodK.same _ default | refine And.intro ?_ ?_)); all_goals (first | exact kOwnX_goodK (oSl_local (oFlat_local _)) (oSl_held (oFlat_held _)) HKM.out hkl | exact kPoolV_goodK HKM.out hkl)))
      clear hkl
      (apply YReg.val (.pointer (some ⟨w.heap.size, 0, none⟩)); (case h => (intro w' hw' hF'; obtain ⟨X', rfl⟩ := hw'; have HF' := Lib.hid hF'; clear hF'; go_wp2_with (fail); exact ⟨rfl, (by repeat (first | exact Ext.refl _ | apply Ext.plus | apply Ext.alloc | apply Ext.drew))⟩)); (case hv => kernel_rfl))
      (apply YReg.val (.slice a p.clear.length c); (case h => (intro w' hw' hF'; obtain ⟨X', rfl⟩ := hw'; have HF' := Lib.hid hF'; clear hF'; go_wp2_with (fail); exact ⟨rfl, (by repeat (first | exact Ext.refl _ | apply Ext.plus | apply Ext.alloc | apply Ext.drew))⟩)); (case hv => kernel_rfl))
      refine YReg.kind (fun w' hw' hF' => ?_) (fun v1 w1 hK => ?_)
      · have HSW : Hid (B0 ≤ w'.heap.size) := Lib.hid (by rw [HB0.out]; exact hw'.below.size)
        obtain ⟨X', rfl⟩ := hw'
        clear hF'
        go_wp2_with fail
        refine (copyClear_any _ p.clear _ (HC.out.ext rLabS_stable (by repeat (first | exact Ext.refl _ | apply Ext.plus | apply Ext.alloc | apply Ext.drew))) HSC.out).mono ?_
        rintro e _ ⟨v9, fp9, rfl, ⟨Y, rfl⟩, hO9⟩
        have H9 := Lib.hid (kOwnX_in (x := (0, 0)) (hO9.mono HSW.out))
        clear hO9
        go_wp2
        exact ⟨(by repeat (first | exact Ext.refl _ | apply Ext.plus | apply Ext.alloc | apply Ext.drew)), H9.out⟩
      obtain ⟨a2, c2, fp2, rfl, q2⟩ := hK
      clear q2 w1 fp2
      (apply YReg.val (.slice ao p.jobs.length co); (case h => (intro w' hw' hF'; obtain ⟨X', rfl⟩ := hw'; have HF' := Lib.hid hF'; clear hF'; go_wp2_with (fail); exact ⟨rfl, (by repeat (first | exact Ext.refl _ | apply Ext.plus | apply Ext.alloc | apply Ext.drew))⟩)); (case hv => kernel_rfl))
      (apply YReg.val (.pointer (some ⟨w.heap.size, 2, none⟩)); (case h => (intro w' hw' hF'; obtain ⟨X', rfl⟩ := hw'; have HF' := Lib.hid hF'; clear hF'; go_wp2_with (fail); exact ⟨rfl, (by repeat (first | exact Ext.refl _ | apply Ext.plus | apply Ext.alloc | apply Ext.drew))⟩)); (case hv => kernel_rfl))
      (apply YReg.val (.int .i64 p.now); (case h => (intro w' hw' hF'; obtain ⟨X', rfl⟩ := hw'; have HF' := Lib.hid hF'; clear hF'; go_wp2_with (fail); exact ⟨rfl, (by repeat (first | exact Ext.refl _ | apply Ext.plus | apply Ext.alloc | apply Ext.drew))⟩)); (case hv => kernel_rfl))
      refine YReg.kind (fun w' hw' hF' => ?_) (fun v1 w1 hK => ?_)
      · obtain ⟨fp9, hO9⟩ := kOwnX_out (x := (0, 0)) (hF'.get 2 (p := (kOwnX 147 1 oLabelS B0 p.clear (0, 0), .slice a2 p.clear.length c2)) (by kernel_rfl) (by kernel_rfl))
        have H9 : Hid (kPoolV B0 p (.slice ao p.jobs.length co) (.agg #[.slice a2 p.clear.length c2, .slice ao p.jobs.length co, (.int .i64 p.now)]) w') := Lib.hid ⟨_, _, fp9, rfl, hO9⟩
        obtain ⟨X', rfl⟩ := hw'
        clear hF' hO9
        go_wp2
        exact ⟨(by repeat (first | exact Ext.refl _ | apply Ext.plus | apply Ext.alloc | apply Ext.drew)), H9.out⟩
      obtain ⟨a4, c4, fp4, rfl, q4⟩ := hK
      clear q4 w1 fp4
      refine YReg.done1 (fun X3 hF => ?_)
      obtain ⟨fc, hOc⟩ := kPoolV_out (hF 6 (kPoolV B0 p (.slice ao p.jobs.length co), .agg #[.slice a4 p.clear.length c4, .slice ao p.jobs.length co, (.int .i64 p.now)]) (by kernel_rfl))
      have HOC := Lib.hid hOc
      have HOJ := Lib.hid ((HO.out.plus oJobS_local oJobS_held X3))
      clear hF hOc
      go_wp2
      refine bodyPost_ret (v := .agg #[.slice a4 p.clear.length c4, .slice ao p.jobs.length co, (.int .i64 p.now)]) (by simp [results, Try.results132, go_sem]) rfl ⟨_, _, fc, fp, rfl, (by repeat' (first | (with_reducible exact Ext.refl _) | (with_reducible refine Ext.plus ?_ _) | (with_reducible refine Ext.alloc ?_ _) | (with_reducible refine Ext.setCell ?_ ?_ _) | (with_reducible refine Ext.drew ?_) | (with_reducible exact Nat.le_refl _) | (dsimp only; omega))), ?_, ?_, ?_⟩
      · exact (HOC.out.swap2 oLabelSS_local (by rw [HB0.out]; simp) (by simp)).mono (by rw [HB0.out]; simp; omega)
      · exact (HOJ.out.swap2 oJobS_local (by simp) (by simp)).mono (by simp; omega)
      · intro q hq hqj
        have h1 := HOC.out.2.2 q hq
        have h2 := oJobS_held _ _ _ _ HO.out.1 q hqj
        rw [HB0.out] at h1
        omega
end Go.Proofs.Ytfkjdiaeblcimaa
