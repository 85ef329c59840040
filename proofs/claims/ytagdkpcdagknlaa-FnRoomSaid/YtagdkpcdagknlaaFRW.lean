/- FnRoom, walked. -/
import Derived.Test.YtagdkpcdagknlaaFR
import Derived.Test.YtagdkpcdagknlaaZZC
import Derived.Test.YtagdkpcdagknlaaCL
import Derived.Test.YtagdkpcdagknlaaAF
import Derived.Test.YtagdkpcdagknlaaVH
import Derived.Test.YtagdkpcdagknlaaDR3
import Derived.Test.YtagdkpcdagknlaaTAB
set_option maxRecDepth 100000
set_option linter.unusedVariables false
namespace Go.Proofs.Ytagdkpcdagknlaa
open Go.RowKit Go.Fin1
theorem set3_chgR (w : World) (g : Nat) (a b c : Value) : Chg [g] w (((w.setCell ⟨g, 0, none⟩ a).setCell ⟨g, 1, none⟩ b).setCell ⟨g, 2, none⟩ c) := (((Chg.refl _ _).setCell (.inl (by simp)) _).setCell (.inl (by simp)) _).setCell (.inl (by simp)) _
theorem set3_blk3 {w : World} {g : Nat} {x0 x1 x2 : Value} {ty : TypeId} (h : Blk w g [x0, x1, x2] ty) (a b c : Value) : Blk (((w.setCell ⟨g, 0, none⟩ a).setCell ⟨g, 1, none⟩ b).setCell ⟨g, 2, none⟩ c) g [a, b, c] ty := ((h.set 0 a).set 1 b).set 2 c
theorem old_setCell {w : World} {g : Nat} (h : w.old g) (a : Addr) (v : Value) : (w.setCell a v).old g := by unfold World.old at h ⊢; simpa using h
theorem set3_plusR {w : World} {X : More} {g : Nat} {a b c : Value} (h : w.old g) : (((w.plus X).setCell ⟨g, 0, none⟩ a).setCell ⟨g, 1, none⟩ b).setCell ⟨g, 2, none⟩ c = (((w.setCell ⟨g, 0, none⟩ a).setCell ⟨g, 1, none⟩ b).setCell ⟨g, 2, none⟩ c).plus X := by
  rw [World.setCell_plus _ _ _ _ _ h, World.setCell_plus _ _ _ _ _ (old_setCell h _ _), World.setCell_plus _ _ _ _ _ (old_setCell (old_setCell h _ _) _ _)]
/-- Pools' blocks are not boxes. -/
theorem OwnP.boxT {B : Nat} {w : World} {fc fj : List Nat} {c j : Value} {p : Pl} (h : OwnP B w fc fj c j p) {g : Nat} {cs : List Value} {t : TypeId} (hg : Blk w g cs t) (h1 : t ∉ [40, 24]) (h2 : t ∉ [27, 2]) : ∀ b ∈ fc ++ fj, b ∉ [g] := fun b hb hm => by
  obtain rfl := List.mem_singleton.1 hm
  rcases List.mem_append.1 hb with hb | hb
  · exact oLabelSS_typed.apart h.1.1 hg h1 hb
  · exact oJobS_typed.apart h.2.1.1 hg h2 hb
theorem ePool_jobs {w : World} {p : Pl} {a b : Option Addr} {n m c d : Nat} (h : ePool w (.agg #[.slice a n c, .slice b m d, (.int .i64 p.now)]) p) : SlR w 9 rJob (.slice b m d) p.jobs := by
  obtain ⟨a', c', b', d', hv, _, _, h2⟩ := h
  unfold Pl.val at hv
  simp at hv
  obtain ⟨_, ⟨rfl, rfl, rfl⟩⟩ := hv
  exact h2
theorem right_nodes {p : Pl} (h : poolR p = true) : ∀ j ∈ p.jobs, j.nodes.length ≤ 1048576 := fun j hj => Nat.le_trans (jobR_nodes (jobsR_mem (poolR_of h).js hj)) (by decide)
theorem oSltS_m9 {w : World} {fp : List Nat} {v : Value} {l : List Slt} (h : oSltS w fp [v] l) : SlR w 5 (fun _ cs (s : Slt) => ∃ u, cs = s.cells u) v l := by
  obtain ⟨v', hv, hs⟩ := oSl_reads (r := fun _ cs (s : Slt) => ∃ u, cs = s.cells u) (k := 5) (fun _ _ _ _ ⟨v, hv, h⟩ => ⟨by rw [hv]; rfl, v, hv⟩) h
  obtain rfl : v = v' := by simpa using hv
  exact hs
def kPoolF (p : Pl) : XReg.Kind := fun v w => ePool w v p
theorem kPoolF_good {p : Pl} {W0 : World} {v : Value} (h : ePool W0 v p) : XReg.GoodK (kPoolF p) := ⟨fun _ _ _ hx h => h.ext hx, v, W0, h⟩
theorem kPoolF_any {p : Pl} (h : poolR p = true) : XReg.GoodK (kPoolF p) := by
  obtain ⟨w, a, c, b, d, fc, fj, hO⟩ := (right_ok h).2.1.can 0
  exact kPoolF_good (hO.e' (right_ok h).1)
set_option maxHeartbeats 3200000 in
theorem fnRoom_any (a : Arg (List Int)) (w : World) (ha : SlR w 1 rU8 a.v a.x) :
    Calls Try.prog 5 #[a.v] w fun e w' => e = .returned (.bool true) ∧ Ext w w' := by
  obtain ⟨v, l⟩ := a
  change SlR w 1 rU8 v l at ha
  change Calls Try.prog 5 #[v] w _
  obtain ⟨va, vc, rfl⟩ := ha.len
  have HS := Lib.hid ha
  clear ha
  by_cases hl : l.length ≤ 1048576
  · have hlb : decide ((1048576 : Int) < (l.length : Int)) = false := decide_eq_false (by omega)
    obtain ⟨k, hk, hk4⟩ := lwV_nat l 0 4
    have hk4 : k < 4 := by omega
    obtain ⟨P0, PA, PB, PC, PD, PN, ia, ic, q1, q2, q3, q4, q5, q6, ⟨r1, r2, r3, r4, r5, r6⟩, ⟨S1, S2, S3⟩, ⟨l1, l2, l3⟩, r7, ⟨s4, s5, s6⟩, PH, ih, q7, r8, l4⟩ := room_facts k hk4
    have Q0 := Lib.hid q1
    have QA := Lib.hid q2
    have QB := Lib.hid q3
    have QC := Lib.hid q4
    have QD := Lib.hid q5
    have QN := Lib.hid q6
    have HK := Lib.hid hk
    have R0 := Lib.hid r1
    have RA := Lib.hid r2
    have RB := Lib.hid r3
    have RC := Lib.hid r4
    have RD := Lib.hid r5
    have RN := Lib.hid r6
    have RI := Lib.hid r7
    have QH := Lib.hid q7
    have RH := Lib.hid r8
    have L3 := Lib.hid l3
    have hs1 : ((jobOf PB.jobs highL 1).state == 2) = true := by simp [S1]
    have hs2 : ((jobOf PD.jobs highL 1).state == 1) = true := by simp [S2]
    have hs3 : ((jobOf PD.jobs lowL 1).state == 2) = true := by simp [S3]
    have hn1 : ((jobOf PB.jobs highL 1).state != 2) = false := by simp [S1]
    have hn2 : ((jobOf PD.jobs highL 1).state != 1) = false := by simp [S2]
    have hn3 : ((jobOf PD.jobs lowL 1).state != 2) = false := by simp [S3]
    have S4 := Lib.hid s4
    have S5 := Lib.hid s5
    have S6 := Lib.hid s6
    have L1 := Lib.hid l1
    have L2 := Lib.hid l2
    have L4 := Lib.hid l4
    clear q1 q2 q3 q4 q5 q6 q7 r1 r2 r3 r4 r5 r6 r7 r8 l1 l2 l3 l4 s4 s5 s6
    clear hk S1 S2 S3
    have hfp : ∀ (a b c d e : Value) w, (Instr.field 45 (.agg #[a, b, c, d, e]) 0).run Try.prog w = .ok (.agg #[a, b, c]) w := fun a b c d e w => by kernel_rfl
    have hf5 : ∀ (a b c d e f g h i : Value) w, (Instr.field 27 (.agg #[a, b, c, d, e, f, g, h, i]) 5).run Try.prog w = .ok g w := fun a b c d e f g h i w => by kernel_rfl
    have hf6 : ∀ (a b c d e f g h i : Value) w, (Instr.field 27 (.agg #[a, b, c, d, e, f, g, h, i]) 6).run Try.prog w = .ok h w := fun a b c d e f g h i w => by kernel_rfl
    go_enter Try.func5, Try.ntmps5
    go_wp2_with fail
    refine (lwAt_any _ l 0 4 _ (HS.out.ext rU8_stable (by repeat (first | exact Ext.refl _ | apply Ext.plus | apply Ext.alloc | apply Ext.drew))) hl (by omega)).mono ?_
    rintro e _ ⟨rfl, rfl⟩
    rw [HK.out]
    go_wp2_with fail
    refine (implPoolNew_any _ rmC _ ?_ (by unfold szL rmC; decide)).mono ?_
    · refine slr_valB (ty := 40) (vs := [.slice (some ⟨w.heap.size + 1 + 1, 0, none⟩) 2 2, .slice (some ⟨w.heap.size + 1 + 1 + 1, 0, none⟩) 2 2]) (Blk.new (w := ((((w.alloc (.cells #[(.int .i64 0), (.int .i64 0)] 24)).alloc (.cells #[(.int .i64 1), (.int .i64 0)] 24)).alloc (.cells #[(.int .i64 0), (.int .i64 0), (.int .i64 1), (.int .i64 0)] 24)).alloc (.cells #[(.int .i64 0), (.int .i64 0), (.int .i64 1), (.int .i64 0)] 24))) (by simp)) rfl rfl (by decide) (fun i h1 h2 => ?_)
      have hi : i = 0 ∨ i = 1 := by simp at h1; omega
      rcases hi with rfl | rfl
      · exact ⟨_, rfl, slr_labB (ty := 24) (ls := [lowL, highL]) ((Blk.new (w := ((w.alloc (.cells #[(.int .i64 0), (.int .i64 0)] 24)).alloc (.cells #[(.int .i64 1), (.int .i64 0)] 24))) (cs := #[(.int .i64 0), (.int .i64 0), (.int .i64 1), (.int .i64 0)]) (by simp)).ext (show Ext (((w.alloc (.cells #[(.int .i64 0), (.int .i64 0)] 24)).alloc (.cells #[(.int .i64 1), (.int .i64 0)] 24)).alloc _) ((((((w.alloc (.cells #[(.int .i64 0), (.int .i64 0)] 24)).alloc (.cells #[(.int .i64 1), (.int .i64 0)] 24)).alloc (.cells #[(.int .i64 0), (.int .i64 0), (.int .i64 1), (.int .i64 0)] 24)).alloc (.cells #[(.int .i64 0), (.int .i64 0), (.int .i64 1), (.int .i64 0)] 24))).alloc _) from (by repeat (first | exact Ext.refl _ | apply Ext.plus | apply Ext.alloc | apply Ext.drew)))) rfl (by intro x hx; simp at hx; rcases hx with rfl | rfl <;> (unfold Lab.ok I64; decide)) (by decide)⟩
      · exact ⟨_, rfl, slr_labB (ty := 24) (ls := [lowL, highL]) ((Blk.new (w := (((w.alloc (.cells #[(.int .i64 0), (.int .i64 0)] 24)).alloc (.cells #[(.int .i64 1), (.int .i64 0)] 24)).alloc (.cells #[(.int .i64 0), (.int .i64 0), (.int .i64 1), (.int .i64 0)] 24))) (cs := #[(.int .i64 0), (.int .i64 0), (.int .i64 1), (.int .i64 0)]) (by simp)).ext (show Ext ((((w.alloc (.cells #[(.int .i64 0), (.int .i64 0)] 24)).alloc (.cells #[(.int .i64 1), (.int .i64 0)] 24)).alloc (.cells #[(.int .i64 0), (.int .i64 0), (.int .i64 1), (.int .i64 0)] 24)).alloc _) ((((((w.alloc (.cells #[(.int .i64 0), (.int .i64 0)] 24)).alloc (.cells #[(.int .i64 1), (.int .i64 0)] 24)).alloc (.cells #[(.int .i64 0), (.int .i64 0), (.int .i64 1), (.int .i64 0)] 24)).alloc (.cells #[(.int .i64 0), (.int .i64 0), (.int .i64 1), (.int .i64 0)] 24))).alloc _) from (by repeat (first | exact Ext.refl _ | apply Ext.plus | apply Ext.alloc | apply Ext.drew)))) rfl (by intro x hx; simp at hx; rcases hx with rfl | rfl <;> (unfold Lab.ok I64; decide)) (by decide)⟩
    rintro e _ ⟨cv9, jv9, fc9, fj9, rfl, ⟨X9, rfl⟩, hO⟩
    rw [Q0.out] at hO ⊢
    obtain ⟨ac0, cc0, rfl⟩ := hO.1.shape
    obtain ⟨aj0, cj0, rfl⟩ := hO.2.1.shape
    have hP := hO.e' (right_ok R0.out).1
    unfold Pl.val at hP
    unfold poV
    go_upto_region 6 with fail
    refine gen_world (fun W0 hW9 => ?_)
    have HP0 := Lib.hid (hP.ext (show Ext _ W0 by rw [hW9]; exact (by repeat (first | exact Ext.refl _ | apply Ext.plus | apply Ext.alloc | apply Ext.drew))))
    have EW := Lib.hid (show Ext w W0 by rw [hW9]; exact (by repeat (first | exact Ext.refl _ | apply Ext.plus | apply Ext.alloc | apply Ext.drew)))
    have hb : Blk W0 (w.heap.size + 1 + 1 + 1 + 1 + 1 + X9.n) [.slice ac0 P0.clear.length cc0, .slice aj0 P0.jobs.length cj0, (.int .i64 P0.now)] 43 := by rw [hW9]; exact Blk.new (by simp)
    have hlo : Blk W0 w.heap.size [(.int .i64 0), (.int .i64 0)] 24 := by rw [hW9]; exact (Blk.new (w := w) (cs := #[(.int .i64 0), (.int .i64 0)]) rfl).ext (by repeat (first | exact Ext.refl _ | apply Ext.plus | apply Ext.alloc | apply Ext.drew))
    have hhi : Blk W0 (w.heap.size + 1) [(.int .i64 1), (.int .i64 0)] 24 := by rw [hW9]; exact (Blk.new (w := w.alloc (.cells #[(.int .i64 0), (.int .i64 0)] 24)) (cs := #[(.int .i64 1), (.int .i64 0)]) (by simp)).ext (by repeat (first | exact Ext.refl _ | apply Ext.plus | apply Ext.alloc | apply Ext.drew))
    clear hW9 hO hP
    generalize w.heap.size + 1 + 1 + 1 + 1 + 1 + X9.n = g0 at hb ⊢
    have B0 := Lib.hid hb
    have BL := Lib.hid hlo
    have BH := Lib.hid hhi
    clear hb hlo hhi
    have p0 := B0.out.cell 0
    have p1 := B0.out.cell 1
    have p2 := B0.out.cell 2
    have po' := B0.out.old
    simp only [List.getElem?_cons_zero, List.getElem?_cons_succ] at p0 p1 p2
    have h0 := BH.out.cell 0
    have h1 := BH.out.cell 1
    have ho' := BH.out.old
    simp only [List.getElem?_cons_zero, List.getElem?_cons_succ] at h0 h1
    go_wp2_with fail
    refine (implSubmit_any P0 _ highL 2 9 1 _ (HP0.out.ext (by repeat (first | exact Ext.refl _ | apply Ext.plus | apply Ext.alloc | apply Ext.drew))) (right_fits R0.out) (by unfold Lab.ok I64; decide) (by unfold I64; decide) (by unfold I64; decide) (by unfold I64; decide)).mono ?_
    clear p0 p1 p2 po' h0 h1 ho'
    rintro e _ ⟨cv9, jv9, fc9, fj9, rfl, ⟨X9, rfl⟩, hO⟩
    rw [QA.out] at hO ⊢
    obtain ⟨acA, ccA, rfl⟩ := hO.1.shape
    obtain ⟨ajA, cjA, rfl⟩ := hO.2.1.shape
    have hP := hO.e' (right_ok RA.out).1
    unfold Pl.val at hP
    unfold poV
    go_upto_region 7 with fail
    refine gen_world (fun WA hW9 => ?_)
    have hx : Ext W0 WA := by rw [hW9]; exact (by repeat (first | exact Ext.refl _ | apply Ext.plus | apply Ext.alloc | apply Ext.drew))
    have HPA := Lib.hid (hP.ext (show Ext _ WA by rw [hW9]; exact (by repeat (first | exact Ext.refl _ | apply Ext.plus | apply Ext.alloc | apply Ext.drew))))
    have hb : Blk WA (W0.heap.size + X9.n) [.slice acA PA.clear.length ccA, .slice ajA PA.jobs.length cjA, (.int .i64 PA.now), (.int .i64 ia), (.int .i64 0)] 45 := by rw [hW9]; exact Blk.new (by simp)
    clear hW9 hO hP
    generalize W0.heap.size + X9.n = gA at hb ⊢
    have BA := Lib.hid hb
    have EA := Lib.hid hx
    clear hb hx
    have a0 := BA.out.cell 0
    have a1 := BA.out.cell 1
    have a2 := BA.out.cell 2
    have a3 := BA.out.cell 3
    have a4 := BA.out.cell 4
    have ao' := BA.out.old
    simp only [List.getElem?_cons_zero, List.getElem?_cons_succ] at a0 a1 a2 a3 a4
    go_wp2_with fail
    refine (implAdvance_any PA _ _ (HPA.out.ext (by repeat (first | exact Ext.refl _ | apply Ext.plus | apply Ext.alloc | apply Ext.drew))) (right_fits RA.out)).mono ?_
    clear a0 a1 a2 a3 a4 ao'
    rintro e _ ⟨cv9, jv9, fc9, fj9, rfl, ⟨X9, rfl⟩, hO⟩
    rw [QB.out] at hO ⊢
    obtain ⟨acB, ccB, rfl⟩ := hO.1.shape
    obtain ⟨ajB, cjB, rfl⟩ := hO.2.1.shape
    have hP := hO.e' (right_ok RB.out).1
    unfold Pl.val at hP
    unfold poV
    go_upto_region 8 with fail
    refine gen_world (fun WB hW9 => ?_)
    have hx : Ext WA WB := by rw [hW9]; exact (by repeat (first | exact Ext.refl _ | apply Ext.plus | apply Ext.alloc | apply Ext.drew))
    have HPB := Lib.hid (hP.ext (show Ext _ WB by rw [hW9]; exact (by repeat (first | exact Ext.refl _ | apply Ext.plus | apply Ext.alloc | apply Ext.drew))))
    have hb : Blk WB (WA.heap.size + X9.n) [.slice acB PB.clear.length ccB, .slice ajB PB.jobs.length cjB, (.int .i64 PB.now), (.int .i64 0), (.int .i64 0)] 45 := by rw [hW9]; exact Blk.new (by simp)
    clear hW9 hO hP
    generalize WA.heap.size + X9.n = gB at hb ⊢
    have BB := Lib.hid hb
    have EB := Lib.hid hx
    clear hb hx
    have a0 := BB.out.cell 0
    have a1 := BB.out.cell 1
    have a2 := BB.out.cell 2
    have a3 := BB.out.cell 3
    have a4 := BB.out.cell 4
    have ao' := BB.out.old
    simp only [List.getElem?_cons_zero, List.getElem?_cons_succ] at a0 a1 a2 a3 a4
    have h0 := (BL.out.ext (EA.out.trans EB.out)).cell 0
    have h1 := (BL.out.ext (EA.out.trans EB.out)).cell 1
    have ho' := (BL.out.ext (EA.out.trans EB.out)).old
    simp only [List.getElem?_cons_zero, List.getElem?_cons_succ] at h0 h1
    go_wp2_with fail
    refine (implSubmit_any PB _ lowL 1 (2 + (k : Int)) 0 _ (HPB.out.ext (by repeat (first | exact Ext.refl _ | apply Ext.plus | apply Ext.alloc | apply Ext.drew))) (right_fits RB.out) (by unfold Lab.ok I64; decide) (by unfold I64; decide) (by unfold I64; omega) (by unfold I64; decide)).mono ?_
    clear a0 a1 a2 a3 a4 ao'
    clear h0 h1 ho'
    rintro e _ ⟨cv9, jv9, fc9, fj9, rfl, ⟨X9, rfl⟩, hO⟩
    rw [QC.out] at hO ⊢
    obtain ⟨acC, ccC, rfl⟩ := hO.1.shape
    obtain ⟨ajC, cjC, rfl⟩ := hO.2.1.shape
    have hP := hO.e' (right_ok RC.out).1
    unfold Pl.val at hP
    unfold poV
    go_upto_region 9 with fail
    refine gen_world (fun WC hW9 => ?_)
    have hx : Ext WB WC := by rw [hW9]; exact (by repeat (first | exact Ext.refl _ | apply Ext.plus | apply Ext.alloc | apply Ext.drew))
    have HPC := Lib.hid (hP.ext (show Ext _ WC by rw [hW9]; exact (by repeat (first | exact Ext.refl _ | apply Ext.plus | apply Ext.alloc | apply Ext.drew))))
    have hb : Blk WC (WB.heap.size + X9.n) [.slice acC PC.clear.length ccC, .slice ajC PC.jobs.length cjC, (.int .i64 PC.now), (.int .i64 ic), (.int .i64 0)] 45 := by rw [hW9]; exact Blk.new (by simp)
    clear hW9 hO hP
    generalize WB.heap.size + X9.n = gC at hb ⊢
    have BC := Lib.hid hb
    have EC := Lib.hid hx
    clear hb hx
    have a0 := BC.out.cell 0
    have a1 := BC.out.cell 1
    have a2 := BC.out.cell 2
    have a3 := BC.out.cell 3
    have a4 := BC.out.cell 4
    have ao' := BC.out.old
    simp only [List.getElem?_cons_zero, List.getElem?_cons_succ] at a0 a1 a2 a3 a4
    go_wp2_with fail
    refine (implAdvance_any PC _ _ (HPC.out.ext (by repeat (first | exact Ext.refl _ | apply Ext.plus | apply Ext.alloc | apply Ext.drew))) (right_fits RC.out)).mono ?_
    clear a0 a1 a2 a3 a4 ao'
    rintro e _ ⟨cv9, jv9, fc9, fj9, rfl, ⟨X9, rfl⟩, hO⟩
    rw [QD.out] at hO ⊢
    obtain ⟨acD, ccD, rfl⟩ := hO.1.shape
    obtain ⟨ajD, cjD, rfl⟩ := hO.2.1.shape
    have hP := hO.e' (right_ok RD.out).1
    unfold Pl.val at hP
    unfold poV
    go_upto_region 10 with fail
    refine gen_world (fun WD hW9 => ?_)
    have hx : Ext WC WD := by rw [hW9]; exact (by repeat (first | exact Ext.refl _ | apply Ext.plus | apply Ext.alloc | apply Ext.drew))
    have HPD := Lib.hid (hP.ext (show Ext _ WD by rw [hW9]; exact (by repeat (first | exact Ext.refl _ | apply Ext.plus | apply Ext.alloc | apply Ext.drew))))
    have hb : Blk WD (WC.heap.size + X9.n) [.slice acD PD.clear.length ccD, .slice ajD PD.jobs.length cjD, (.int .i64 PD.now), (.int .i64 0), (.int .i64 0)] 45 := by rw [hW9]; exact Blk.new (by simp)
    clear hW9 hO hP
    generalize WC.heap.size + X9.n = gD at hb ⊢
    have BD := Lib.hid hb
    have ED := Lib.hid hx
    clear hb hx
    have EBD := Lib.hid (EC.out.trans ED.out)
    have EAD := Lib.hid (EB.out.trans EBD.out)
    have E0D := Lib.hid (EA.out.trans EAD.out)
    have XA := Lib.hid (BA.out.ext EAD.out)
    have XB := Lib.hid (BB.out.ext EBD.out)
    have XC := Lib.hid (BC.out.ext ED.out)
    have X0 := Lib.hid (B0.out.ext E0D.out)
    have XL := Lib.hid (BL.out.ext E0D.out)
    have XH := Lib.hid (BH.out.ext E0D.out)
    have XPB := Lib.hid (HPB.out.ext EBD.out)
    have XP0 := Lib.hid (HP0.out.ext E0D.out)
    have a0 := XA.out.cell 0
    have a1 := XA.out.cell 1
    have a2 := XA.out.cell 2
    have a3 := XA.out.cell 3
    have a4 := XA.out.cell 4
    have ao' := XA.out.old
    simp only [List.getElem?_cons_zero, List.getElem?_cons_succ] at a0 a1 a2 a3 a4
    have b0 := XB.out.cell 0
    have b1 := XB.out.cell 1
    have b2 := XB.out.cell 2
    have b3 := XB.out.cell 3
    have b4 := XB.out.cell 4
    have bo' := XB.out.old
    simp only [List.getElem?_cons_zero, List.getElem?_cons_succ] at b0 b1 b2 b3 b4
    have c0 := XC.out.cell 0
    have c1 := XC.out.cell 1
    have c2 := XC.out.cell 2
    have c3 := XC.out.cell 3
    have c4 := XC.out.cell 4
    have co' := XC.out.old
    simp only [List.getElem?_cons_zero, List.getElem?_cons_succ] at c0 c1 c2 c3 c4
    have d0 := BD.out.cell 0
    have d1 := BD.out.cell 1
    have d2 := BD.out.cell 2
    have d3 := BD.out.cell 3
    have d4 := BD.out.cell 4
    have do' := BD.out.old
    simp only [List.getElem?_cons_zero, List.getElem?_cons_succ] at d0 d1 d2 d3 d4
    have h0 := XH.out.cell 0
    have h1 := XH.out.cell 1
    have ho' := XH.out.old
    simp only [List.getElem?_cons_zero, List.getElem?_cons_succ] at h0 h1
    have t0 := XL.out.cell 0
    have t1 := XL.out.cell 1
    have to' := XL.out.old
    simp only [List.getElem?_cons_zero, List.getElem?_cons_succ] at t0 t1
    go_wp2_with fail
    refine (implJobOf_any _ PB.jobs highL 1 _ (ePool_jobs (XPB.out.ext (by repeat (first | exact Ext.refl _ | apply Ext.plus | apply Ext.alloc | apply Ext.drew)))) (right_nodes RB.out)).mono ?_
    rintro e _ ⟨nv, fpn, rfl, ⟨XJ, rfl⟩, hJ⟩
    obtain ⟨an, cn, rfl⟩ := hJ.shape
    clear hJ fpn
    unfold Jb.val
    go_wp2_with fail
    refine (implJobOf_any _ PD.jobs highL 1 _ (ePool_jobs (HPD.out.ext (by repeat (first | exact Ext.refl _ | apply Ext.plus | apply Ext.alloc | apply Ext.drew)))) (right_nodes RD.out)).mono ?_
    rintro e _ ⟨nv, fpn, rfl, ⟨XJ, rfl⟩, hJ⟩
    obtain ⟨an, cn, rfl⟩ := hJ.shape
    clear hJ fpn
    unfold Jb.val
    go_wp2_with fail
    refine (implJobOf_any _ PD.jobs lowL 1 _ (ePool_jobs (HPD.out.ext (by repeat (first | exact Ext.refl _ | apply Ext.plus | apply Ext.alloc | apply Ext.drew)))) (right_nodes RD.out)).mono ?_
    rintro e _ ⟨nv, fpn, rfl, ⟨XJ, rfl⟩, hJ⟩
    obtain ⟨an, cn, rfl⟩ := hJ.shape
    clear hJ fpn
    unfold Jb.val
    go_wp2_with fail
    refine (implPlanOf_any PD _ _ (HPD.out.ext (by repeat (first | exact Ext.refl _ | apply Ext.plus | apply Ext.alloc | apply Ext.drew)))).mono ?_
    rintro e _ ⟨pv, fpp, rfl, ⟨XP, rfl⟩, hPl⟩
    obtain ⟨gp, capp, hv⟩ := oSl_slice hPl.1 (show 0 < (planP PD).length by rw [L1.out]; decide)
    subst hv
    have hsl := oSltS_m9 hPl.1
    clear hPl
    rw [L1.out]
    go_upto_region 15 with fail
    refine gen_world (fun W5 hW5 => ?_)
    have E5 := Lib.hid (show Ext WD W5 by rw [hW5]; exact (by repeat (first | exact Ext.refl _ | apply Ext.plus | apply Ext.alloc | apply Ext.drew)))
    have hs5 := hsl.ext (fun _ _ _ _ _ h => h) (show Ext _ W5 by rw [hW5]; exact (by repeat (first | exact Ext.refl _ | apply Ext.plus | apply Ext.alloc | apply Ext.drew)))
    clear hW5 hsl
    have HS5 : Hid (W5.cell? ⟨gp, 8, none⟩ = some (.int .i64 (2 + (2 + (k : Int))))) := Lib.hid (by
      have h1 : 1 < (planP PD).length := by rw [L1.out]; decide
      obtain ⟨cs, _, hc, u, hcs⟩ := slr_cells hs5 h1
      subst hcs
      have h3 := hc 3 _ rfl
      have h4 := L2.out
      rw [show (planP PD).getD 1 ⟨lowL, 0, 0, []⟩ = (planP PD)[1] by simp [h1]] at h4
      rw [h4] at h3
      simpa using h3)
    clear hs5 a0 a1 a2 a3 a4 ao' b0 b1 b2 b3 b4 bo' c0 c1 c2 c3 c4 co' d0 d1 d2 d3 d4 do' h0 h1 ho' t0 t1 to'
    have X5B := Lib.hid (XB.out.ext E5.out)
    have X50 := Lib.hid (X0.out.ext E5.out)
    have X5L := Lib.hid (XL.out.ext E5.out)
    have X5P := Lib.hid (XPB.out.ext E5.out)
    have X5Q := Lib.hid (XP0.out.ext E5.out)
    have s8 := HS5.out
    have so' := World.old_of_cell s8
    have b0 := X5B.out.cell 0
    have b1 := X5B.out.cell 1
    have b2 := X5B.out.cell 2
    have b3 := X5B.out.cell 3
    have b4 := X5B.out.cell 4
    have bo' := X5B.out.old
    simp only [List.getElem?_cons_zero, List.getElem?_cons_succ] at b0 b1 b2 b3 b4
    have p0 := X50.out.cell 0
    have p1 := X50.out.cell 1
    have p2 := X50.out.cell 2
    have po' := X50.out.old
    simp only [List.getElem?_cons_zero, List.getElem?_cons_succ] at p0 p1 p2
    have t0 := X5L.out.cell 0
    have t1 := X5L.out.cell 1
    have to' := X5L.out.old
    simp only [List.getElem?_cons_zero, List.getElem?_cons_succ] at t0 t1
    obtain ⟨BN, hBN⟩ : ∃ BN, BN = W5.heap.size := ⟨_, rfl⟩
    have HBN := Lib.hid hBN
    clear hBN
    (refine wp_region_y 24 [(fun u _ => u = (.slice (some ⟨gp, 0, none⟩) 2 capp)), (fun u _ => u = (.int .i64 2)), (fun u _ => u = (.bool false)), (fun u _ => u = (.bool false)), (fun u _ => u = (.slice (some ⟨gp, 0, none⟩) 2 capp)), (fun u _ => u = (.pointer (some ⟨gp, 5, none⟩))), (fun u _ => u = (.pointer (some ⟨gp, 8, none⟩))), (fun u _ => u = (.int .i64 (2 + (2 + (k : Int))))), (fun u _ => u = (.int .i64 (2 + (k : Int)))), (fun u _ => u = (.int .i64 (2 + (2 + (k : Int))))), (fun u _ => u = (.bool false)), (fun u _ => u = (.bool false)), (fun u _ => u = (.bool false)), (fun u _ => u = (.pointer (some ⟨gB, 0, none⟩))), (fun u _ => u = (.agg #[.slice acB PB.clear.length ccB, .slice ajB PB.jobs.length cjB, (.int .i64 PB.now)])), (fun u _ => u = (.agg #[(.int .i64 0), (.int .i64 0)])), (fun u _ => u = (.string (viewS PB lowL))), (fun u _ => u = (.agg #[.slice ac0 P0.clear.length cc0, .slice aj0 P0.jobs.length cj0, (.int .i64 P0.now)])), kOutO BN PN 0 0, kPoolF PN, (fun u _ => u = (.agg #[(.int .i64 0), (.int .i64 0)])), (fun u _ => u = (.string (viewS PB lowL))), (fun u _ => u = (.bool false)), (fun u _ => u = (.bool false))] (by kernel_rfl) (by kernel_rfl) (by kernel_rfl) rfl ?_ (by (repeat' (first | exact trivial | exact XReg.GoodK.same _ default | refine And.intro ?_ ?_)); all_goals (first | exact kOutO_good (right_ok RN.out).2.1 | exact kPoolF_any RN.out)))
    (apply YReg.val (.slice (some ⟨gp, 0, none⟩) 2 capp); (case h => (intro w' hw' hF'; obtain ⟨X', rfl⟩ := hw'; have HF' := Lib.hid hF'; clear hF'; go_wp2_with (fail); exact ⟨rfl, (by repeat (first | exact Ext.refl _ | apply Ext.plus | apply Ext.alloc | apply Ext.drew))⟩)); (case hv => kernel_rfl))
    (apply YReg.val (.int .i64 2); (case h => (intro w' hw' hF'; obtain ⟨X', rfl⟩ := hw'; have HF' := Lib.hid hF'; clear hF'; go_wp2_with (fail); exact ⟨rfl, (by repeat (first | exact Ext.refl _ | apply Ext.plus | apply Ext.alloc | apply Ext.drew))⟩)); (case hv => kernel_rfl))
    (apply YReg.val (.bool false); (case h => (intro w' hw' hF'; obtain ⟨X', rfl⟩ := hw'; have HF' := Lib.hid hF'; clear hF'; go_wp2_with (fail); exact ⟨rfl, (by repeat (first | exact Ext.refl _ | apply Ext.plus | apply Ext.alloc | apply Ext.drew))⟩)); (case hv => kernel_rfl))
    (apply YReg.val (.bool false); (case h => (intro w' hw' hF'; obtain ⟨X', rfl⟩ := hw'; have HF' := Lib.hid hF'; clear hF'; go_wp2_with (fail); exact ⟨rfl, (by repeat (first | exact Ext.refl _ | apply Ext.plus | apply Ext.alloc | apply Ext.drew))⟩)); (case hv => kernel_rfl))
    (apply YReg.val (.slice (some ⟨gp, 0, none⟩) 2 capp); (case h => (intro w' hw' hF'; obtain ⟨X', rfl⟩ := hw'; have HF' := Lib.hid hF'; clear hF'; go_wp2_with (fail); exact ⟨rfl, (by repeat (first | exact Ext.refl _ | apply Ext.plus | apply Ext.alloc | apply Ext.drew))⟩)); (case hv => kernel_rfl))
    (apply YReg.val (.pointer (some ⟨gp, 5, none⟩)); (case h => (intro w' hw' hF'; obtain ⟨X', rfl⟩ := hw'; have HF' := Lib.hid hF'; clear hF'; go_wp2_with (fail); exact ⟨rfl, (by repeat (first | exact Ext.refl _ | apply Ext.plus | apply Ext.alloc | apply Ext.drew))⟩)); (case hv => kernel_rfl))
    (apply YReg.val (.pointer (some ⟨gp, 8, none⟩)); (case h => (intro w' hw' hF'; obtain ⟨X', rfl⟩ := hw'; have HF' := Lib.hid hF'; clear hF'; go_wp2_with (fail); exact ⟨rfl, (by repeat (first | exact Ext.refl _ | apply Ext.plus | apply Ext.alloc | apply Ext.drew))⟩)); (case hv => kernel_rfl))
    (apply YReg.val (.int .i64 (2 + (2 + (k : Int)))); (case h => (intro w' hw' hF'; obtain ⟨X', rfl⟩ := hw'; have HF' := Lib.hid hF'; clear hF'; go_wp2_with (fail); exact ⟨rfl, (by repeat (first | exact Ext.refl _ | apply Ext.plus | apply Ext.alloc | apply Ext.drew))⟩)); (case hv => kernel_rfl))
    (apply YReg.val (.int .i64 (2 + (k : Int))); (case h => (intro w' hw' hF'; obtain ⟨X', rfl⟩ := hw'; have HF' := Lib.hid hF'; clear hF'; go_wp2_with (fail); exact ⟨rfl, (by repeat (first | exact Ext.refl _ | apply Ext.plus | apply Ext.alloc | apply Ext.drew))⟩)); (case hv => kernel_rfl))
    (apply YReg.val (.int .i64 (2 + (2 + (k : Int)))); (case h => (intro w' hw' hF'; obtain ⟨X', rfl⟩ := hw'; have HF' := Lib.hid hF'; clear hF'; go_wp2_with (fail); exact ⟨rfl, (by repeat (first | exact Ext.refl _ | apply Ext.plus | apply Ext.alloc | apply Ext.drew))⟩)); (case hv => kernel_rfl))
    (apply YReg.val (.bool false); (case h => (intro w' hw' hF'; obtain ⟨X', rfl⟩ := hw'; have HF' := Lib.hid hF'; clear hF'; go_wp2_with (fail); exact ⟨rfl, (by repeat (first | exact Ext.refl _ | apply Ext.plus | apply Ext.alloc | apply Ext.drew))⟩)); (case hv => kernel_rfl))
    (apply YReg.val (.bool false); (case h => (intro w' hw' hF'; obtain ⟨X', rfl⟩ := hw'; have HF' := Lib.hid hF'; clear hF'; go_wp2_with (fail); exact ⟨rfl, (by repeat (first | exact Ext.refl _ | apply Ext.plus | apply Ext.alloc | apply Ext.drew))⟩)); (case hv => kernel_rfl))
    (apply YReg.val (.bool false); (case h => (intro w' hw' hF'; obtain ⟨X', rfl⟩ := hw'; have HF' := Lib.hid hF'; clear hF'; go_wp2_with (fail); exact ⟨rfl, (by repeat (first | exact Ext.refl _ | apply Ext.plus | apply Ext.alloc | apply Ext.drew))⟩)); (case hv => kernel_rfl))
    (apply YReg.val (.pointer (some ⟨gB, 0, none⟩)); (case h => (intro w' hw' hF'; obtain ⟨X', rfl⟩ := hw'; have HF' := Lib.hid hF'; clear hF'; go_wp2_with (fail); exact ⟨rfl, (by repeat (first | exact Ext.refl _ | apply Ext.plus | apply Ext.alloc | apply Ext.drew))⟩)); (case hv => kernel_rfl))
    (apply YReg.val (.agg #[.slice acB PB.clear.length ccB, .slice ajB PB.jobs.length cjB, (.int .i64 PB.now)]); (case h => (intro w' hw' hF'; obtain ⟨X', rfl⟩ := hw'; have HF' := Lib.hid hF'; clear hF'; go_wp2_with (fail); exact ⟨rfl, (by repeat (first | exact Ext.refl _ | apply Ext.plus | apply Ext.alloc | apply Ext.drew))⟩)); (case hv => kernel_rfl))
    (apply YReg.val (.agg #[(.int .i64 0), (.int .i64 0)]); (case h => (intro w' hw' hF'; obtain ⟨X', rfl⟩ := hw'; have HF' := Lib.hid hF'; clear hF'; go_wp2_with (fail); exact ⟨rfl, (by repeat (first | exact Ext.refl _ | apply Ext.plus | apply Ext.alloc | apply Ext.drew))⟩)); (case hv => kernel_rfl))
    (apply YReg.val (.string (viewS PB lowL)); (case h => (intro w' hw' hF'; obtain ⟨X', rfl⟩ := hw'; have HF' := Lib.hid hF'; clear hF'; go_wp2_with ((go_at_call 24; refine (implView_any PB lowL acB ccB ajB cjB _ (X5P.out.ext (by repeat (first | exact Ext.refl _ | apply Ext.plus | apply Ext.alloc | apply Ext.drew)))).mono ?_; rintro e _ ⟨rfl, XV, rfl⟩)); exact ⟨rfl, (by repeat (first | exact Ext.refl _ | apply Ext.plus | apply Ext.alloc | apply Ext.drew))⟩)); (case hv => kernel_rfl))
    (apply YReg.val (.agg #[.slice ac0 P0.clear.length cc0, .slice aj0 P0.jobs.length cj0, (.int .i64 P0.now)]); (case h => (intro w' hw' hF'; obtain ⟨X', rfl⟩ := hw'; have HF' := Lib.hid hF'; clear hF'; go_wp2_with (fail); exact ⟨rfl, (by repeat (first | exact Ext.refl _ | apply Ext.plus | apply Ext.alloc | apply Ext.drew))⟩)); (case hv => kernel_rfl))
    refine YReg.kind (fun w' hw' hF' => ?_) (fun v1 w1 hK => ?_)
    · have HSW : Hid (BN ≤ w'.heap.size) := Lib.hid (by rw [HBN.out]; exact hw'.below.size)
      obtain ⟨X9, rfl⟩ := hw'
      clear hF'
      go_wp2_with fail
      refine (implAdvance_any P0 _ _ (X5Q.out.ext (by repeat (first | exact Ext.refl _ | apply Ext.plus | apply Ext.alloc | apply Ext.drew))) (right_fits R0.out)).mono ?_
      rintro e _ ⟨cv9, jv9, fc9, fj9, rfl, ⟨Y9, rfl⟩, hO9⟩
      rw [QN.out] at hO9 ⊢
      have H9 := Lib.hid (kOutO_in (id := 0) (c := 0) (hO9.mono HSW.out))
      obtain ⟨a9, c9, rfl⟩ := hO9.1.shape
      obtain ⟨b9, d9, rfl⟩ := hO9.2.1.shape
      clear hO9
      unfold poV at H9 ⊢
      go_wp2
      exact ⟨(by repeat (first | exact Ext.refl _ | apply Ext.plus | apply Ext.alloc | apply Ext.drew)), H9.out⟩
    obtain ⟨a7, c7, b7, d7, fq1, fq2, rfl, hq9⟩ := hK
    clear hq9 w1 fq1 fq2
    unfold poV
    refine YReg.kind (fun w' hw' hF' => ?_) (fun v1 w1 hK => ?_)
    · obtain ⟨fc9, fj9, hO9⟩ := kOutO_out (hF'.get 18 (p := (kOutO BN PN 0 0, .agg #[.slice a7 PN.clear.length c7, .slice b7 PN.jobs.length d7, (.int .i64 PN.now), (.int .i64 0), (.int .i64 0)])) (by kernel_rfl) (by kernel_rfl))
      have HP9 := Lib.hid (hO9.e' (right_ok RN.out).1)
      unfold Pl.val at HP9
      clear hF' hO9 hw'
      go_wp2
      exact ⟨(by repeat (first | exact Ext.refl _ | apply Ext.plus | apply Ext.alloc | apply Ext.drew)), HP9.out⟩
    obtain ⟨a8, c8, b8, d8, rfl, hq1, hq2, hq3⟩ := hK
    clear hq1 hq2 hq3 w1
    unfold Pl.val
    (apply YReg.val (.agg #[(.int .i64 0), (.int .i64 0)]); (case h => (intro w' hw' hF'; obtain ⟨X', rfl⟩ := hw'; have HF' := Lib.hid hF'; clear hF'; go_wp2_with (fail); exact ⟨rfl, (by repeat (first | exact Ext.refl _ | apply Ext.plus | apply Ext.alloc | apply Ext.drew))⟩)); (case hv => kernel_rfl))
    (apply YReg.val (.string (viewS PB lowL)); (case h => (intro w' hw' hF'; obtain ⟨X', rfl⟩ := hw'; have HF' := Lib.hid hF'; clear hF'; go_wp2_with ((go_at_call 24; refine (implView_any PN lowL a8 c8 b8 d8 _ (HF'.out.get 19 (p := (kPoolF PN, (Value.agg #[.slice a8 PN.clear.length c8, .slice b8 PN.jobs.length d8, (.int .i64 PN.now)]))) (by kernel_rfl) (by kernel_rfl))).mono ?_; rintro e _ ⟨rfl, XV, rfl⟩; rw [← L3.out])); exact ⟨rfl, (by repeat (first | exact Ext.refl _ | apply Ext.plus | apply Ext.alloc | apply Ext.drew))⟩)); (case hv => kernel_rfl))
    (apply YReg.val (.bool false); (case h => (intro w' hw' hF'; obtain ⟨X', rfl⟩ := hw'; have HF' := Lib.hid hF'; clear hF'; go_wp2_with (fail); exact ⟨rfl, (by repeat (first | exact Ext.refl _ | apply Ext.plus | apply Ext.alloc | apply Ext.drew))⟩)); (case hv => kernel_rfl))
    (apply YReg.val (.bool false); (case h => (intro w' hw' hF'; obtain ⟨X', rfl⟩ := hw'; have HF' := Lib.hid hF'; clear hF'; go_wp2_with (fail); exact ⟨rfl, (by repeat (first | exact Ext.refl _ | apply Ext.plus | apply Ext.alloc | apply Ext.drew))⟩)); (case hv => kernel_rfl))
    refine YReg.doneN (fun X15 _ => ?_)
    clear s8 so' b0 b1 b2 b3 b4 bo' p0 p1 p2 po' t0 t1 to' X5B X50 X5P X5Q HS5 HBN
    have ED5 := Lib.hid ((E5.out).trans ((Ext.refl _).plus X15))
    have XD := Lib.hid (BD.out.ext ED5.out)
    have XPD := Lib.hid (HPD.out.ext ED5.out)
    have E05 := Lib.hid (EW.out.trans (E0D.out.trans ED5.out))
    have X6L := Lib.hid (XL.out.ext ED5.out)
    have X6H := Lib.hid (XH.out.ext ED5.out)
    have d0 := XD.out.cell 0
    have d1 := XD.out.cell 1
    have d2 := XD.out.cell 2
    have d3 := XD.out.cell 3
    have d4 := XD.out.cell 4
    have do' := XD.out.old
    simp only [List.getElem?_cons_zero, List.getElem?_cons_succ] at d0 d1 d2 d3 d4
    go_upto_region 18 with fail
    refine gen_world (fun W6 hW6 => ?_)
    have hb : Blk W6 (W5.heap.size + X15.n) [.slice acD PD.clear.length ccD, .slice ajD PD.jobs.length cjD, (.int .i64 PD.now)] 43 := by rw [hW6]; exact Blk.new (by simp)
    have E6 := Lib.hid (show Ext w W6 from E05.out.trans (by rw [hW6]; exact (by repeat (first | exact Ext.refl _ | apply Ext.plus | apply Ext.alloc | apply Ext.drew))))
    have P6 := Lib.hid (XPD.out.ext (show Ext _ W6 by rw [hW6]; exact (by repeat (first | exact Ext.refl _ | apply Ext.plus | apply Ext.alloc | apply Ext.drew))))
    have L6 := Lib.hid (X6L.out.ext (show Ext _ W6 by rw [hW6]; exact (by repeat (first | exact Ext.refl _ | apply Ext.plus | apply Ext.alloc | apply Ext.drew))))
    have H6 := Lib.hid (X6H.out.ext (show Ext _ W6 by rw [hW6]; exact (by repeat (first | exact Ext.refl _ | apply Ext.plus | apply Ext.alloc | apply Ext.drew))))
    have hge : w.heap.size + 2 ≤ W5.heap.size + X15.n := by
      have h1 := (BH.out.ext (E0D.out.trans E5.out)).old
      unfold World.old at h1
      omega
    clear hW6 d0 d1 d2 d3 d4 do'
    generalize W5.heap.size + X15.n = ge at hb hge ⊢
    have B6 := Lib.hid hb
    have GE := Lib.hid hge
    clear hb hge
    go_wp2
    go_loopw [13] (fun i wr => ∃ (n : Nat) (a : Option Addr) (c : Nat) (b : Option Addr) (d : Nat), n ≤ 2 + k ∧ i = .int .i64 n ∧ Hid (Chg [ge] W6 wr) ∧ Hid (Blk wr ge [.slice a (rmI PD n).clear.length c, .slice b (rmI PD n).jobs.length d, (.int .i64 (rmI PD n).now)] 43) ∧ Hid (ePool wr (.agg #[.slice a (rmI PD n).clear.length c, .slice b (rmI PD n).jobs.length d, (.int .i64 (rmI PD n).now)]) (rmI PD n))) (fun i _ => 2 + k - (intOf i).toNat)
    case atStart => exact ⟨0, acD, ccD, ajD, cjD, Nat.zero_le _, rfl, Lib.hid ((Ext.refl _).chg _), B6, P6⟩
    case round =>
      obtain ⟨n, a, c, b, d, hn, rfl, HC, HB, HP⟩ := hrel
      by_cases hlt : n < 2 + k
      · have hltb : decide ((n : Int) < 2 + (k : Int)) = true := decide_eq_true (by omega)
        have hRn := RI.out n (by omega)
        have HRN := Lib.hid (RI.out (n + 1) (by omega))
        have HRn := Lib.hid hRn
        have e0 := HB.out.cell 0
        have e1 := HB.out.cell 1
        have e2 := HB.out.cell 2
        have eo' := HB.out.old
        simp only [List.getElem?_cons_zero, List.getElem?_cons_succ] at e0 e1 e2
        have ef := HB.out.fz
        clear hRn
        go_wp2_with fail
        refine (implAdvance_any (rmI PD n) _ _ (HP.out.ext (by repeat (first | exact Ext.refl _ | apply Ext.plus | apply Ext.alloc | apply Ext.drew))) (right_fits HRn.out)).mono ?_
        rintro e _ ⟨cv9, jv9, fc9, fj9, rfl, ⟨X9, rfl⟩, hO⟩
        obtain ⟨a2, c2, rfl⟩ := hO.1.shape
        obtain ⟨b2, d2, rfl⟩ := hO.2.1.shape
        have HO := Lib.hid hO
        have HSZ : Hid (w.heap.size + 2 ≤ wr.heap.size) := Lib.hid (by have h1 := GE.out; have h2 := HB.out.old; unfold World.old at h2; omega)
        clear hO
        unfold poV
        go_upto_region 20 with fail
        refine gen_world (fun Z hZ => ?_)
        have hcz : Chg [ge] wr Z := by rw [hZ]; exact (set3_chgR wr ge (.slice a2 (advR (rmI PD n)).1.clear.length c2) (.slice b2 (advR (rmI PD n)).1.jobs.length d2) (.int .i64 (advR (rmI PD n)).1.now)).trans (Ext.chg (by repeat (first | exact Ext.refl _ | apply Ext.plus | apply Ext.alloc | apply Ext.drew)) _)
        have hbz : Blk Z ge [.slice a2 (advR (rmI PD n)).1.clear.length c2, .slice b2 (advR (rmI PD n)).1.jobs.length d2, (.int .i64 (advR (rmI PD n)).1.now)] 43 := by rw [hZ]; exact (set3_blk3 HB.out (.slice a2 (advR (rmI PD n)).1.clear.length c2) (.slice b2 (advR (rmI PD n)).1.jobs.length d2) (.int .i64 (advR (rmI PD n)).1.now)).ext (by repeat (first | exact Ext.refl _ | apply Ext.plus | apply Ext.alloc | apply Ext.drew))
        have hcx : Chg [ge] (wr.plus X9) Z := by rw [hZ, ← set3_plusR HB.out.old]; exact set3_chgR _ ge _ _ _
        have HPZ := Lib.hid ((HO.out.far hcx (HO.out.boxT (HB.out.ext ((Ext.refl _).plus X9)) (by decide) (by decide))).e' (right_ok (show poolR (advR (rmI PD n)).1 = true from HRN.out)).1)
        unfold Pl.val at HPZ
        have HCZ := Lib.hid hcz
        have HBZ := Lib.hid hbz
        clear hZ hcz hbz hcx e0 e1 e2 eo' ef
        go_wp2
        exact ⟨⟨n + 1, a2, c2, b2, d2, by omega, by go_num, Lib.hid (HC.out.trans HCZ.out), HBZ, HPZ⟩, by simp [intOf]; omega⟩
      · have hltb : decide ((n : Int) < 2 + (k : Int)) = false := decide_eq_false (by omega)
        obtain rfl : n = 2 + k := by omega
        have HRn := Lib.hid (RI.out (2 + k) (Nat.le_refl _))
        have hs4 : ((jobOf (rmI PD (2 + k)).jobs lowL 1).state == 3) = true := by rw [S4.out]; rfl
        have hs5 : ((jobOf (rmI PD (2 + k)).jobs highL 1).state == 2) = true := by rw [S5.out]; rfl
        have hs6 : ((jobOf (rmI PD (2 + k)).jobs highL 1).start == 2 + (2 + (k : Int))) = true := by rw [S6.out]; exact beq_self_eq_true _
        have XH' := Lib.hid (H6.out.chg HC.out (fun hm => by have h1 := List.mem_singleton.1 hm; have h2 := GE.out; omega))
        have XL' := Lib.hid (L6.out.chg HC.out (fun hm => by have h1 := List.mem_singleton.1 hm; have h2 := GE.out; omega))
        have e0 := HB.out.cell 0
        have e1 := HB.out.cell 1
        have e2 := HB.out.cell 2
        have eo' := HB.out.old
        simp only [List.getElem?_cons_zero, List.getElem?_cons_succ] at e0 e1 e2
        have h0 := XH'.out.cell 0
        have h1 := XH'.out.cell 1
        have ho' := XH'.out.old
        simp only [List.getElem?_cons_zero, List.getElem?_cons_succ] at h0 h1
        have t0 := XL'.out.cell 0
        have t1 := XL'.out.cell 1
        have to' := XL'.out.old
        simp only [List.getElem?_cons_zero, List.getElem?_cons_succ] at t0 t1
        generalize rmI PD (2 + k) = PE at *
        go_wp2_with fail
        refine (implChange_any PE _ highL 1 4 _ (HP.out.ext (by repeat (first | exact Ext.refl _ | apply Ext.plus | apply Ext.alloc | apply Ext.drew))) (right_fits HRn.out)).mono ?_
        rintro e _ ⟨cv9, jv9, fc9, fj9, rfl, ⟨X9, rfl⟩, hO⟩
        rw [QH.out] at hO ⊢
        obtain ⟨a2, c2, rfl⟩ := hO.1.shape
        obtain ⟨b2, d2, rfl⟩ := hO.2.1.shape
        have HPH := Lib.hid (hO.e' (right_ok RH.out).1)
        unfold Pl.val at HPH
        clear hO
        unfold poV
        go_wp2_with fail
        refine (implJobOf_any _ PE.jobs lowL 1 _ (ePool_jobs (HP.out.ext (by repeat (first | exact Ext.refl _ | apply Ext.plus | apply Ext.alloc | apply Ext.drew)))) (right_nodes HRn.out)).mono ?_
        rintro e _ ⟨nv, fpn, rfl, ⟨XJ, rfl⟩, hJ⟩
        obtain ⟨an, cn, rfl⟩ := hJ.shape
        clear hJ fpn
        unfold Jb.val
        go_wp2_with fail
        refine (implJobOf_any _ PE.jobs highL 1 _ (ePool_jobs (HP.out.ext (by repeat (first | exact Ext.refl _ | apply Ext.plus | apply Ext.alloc | apply Ext.drew)))) (right_nodes HRn.out)).mono ?_
        rintro e _ ⟨nv, fpn, rfl, ⟨XJ, rfl⟩, hJ⟩
        obtain ⟨an, cn, rfl⟩ := hJ.shape
        clear hJ fpn
        unfold Jb.val
        go_wp2_with fail
        refine (implJobOf_any _ PE.jobs highL 1 _ (ePool_jobs (HP.out.ext (by repeat (first | exact Ext.refl _ | apply Ext.plus | apply Ext.alloc | apply Ext.drew)))) (right_nodes HRn.out)).mono ?_
        rintro e _ ⟨nv, fpn, rfl, ⟨XJ, rfl⟩, hJ⟩
        obtain ⟨an, cn, rfl⟩ := hJ.shape
        clear hJ fpn
        unfold Jb.val
        go_wp2_with fail
        refine (implPlanOf_any PH _ _ (HPH.out.ext (by repeat (first | exact Ext.refl _ | apply Ext.plus | apply Ext.alloc | apply Ext.drew)))).mono ?_
        rintro e _ ⟨pv, fpp, rfl, ⟨XP, rfl⟩, hPl⟩
        obtain ⟨ap, cp, rfl⟩ := hPl.shape
        clear hPl
        rw [L4.out]
        go_wp2
        go_ret
        exact ⟨rfl, (HC.out.ext E6.out (fun z hz => by have h1 := List.mem_singleton.1 hz; have h2 := GE.out; omega)).trans (by repeat (first | exact Ext.refl _ | apply Ext.plus | apply Ext.alloc | apply Ext.drew))⟩
  · have hlb : decide ((1048576 : Int) < (l.length : Int)) = true := decide_eq_true (by omega)
    go_enter Try.func5, Try.ntmps5
    go_wp2
    go_ret
    exact ⟨rfl, (by repeat (first | exact Ext.refl _ | apply Ext.plus | apply Ext.alloc | apply Ext.drew))⟩
end Go.Proofs.Ytagdkpcdagknlaa
