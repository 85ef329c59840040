/- The draws of FnDown. -/
import Derived.Test.YtocadhcggkbimaaFDA
import Derived.Test.YtocadhcggkbimaaC1
import Derived.Deep.Cut
set_option maxRecDepth 100000
set_option linter.unusedVariables false
namespace Go.Proofs.Ytocadhcggkbimaa
open Go.RowKit Go.Fin1
theorem eDesk_of {B1 B2 B3 n : Nat} {w : World} {p b a : Value} {d : Dk} (h1 : Row B1 w 75 6 Ltr.cells p d.pairs) (h2 : Row B2 w 75 6 Ltr.cells b d.box) (h3 : Row B3 w 75 6 Ltr.cells a d.audit) (h : DkI n d) (hn : n ≤ 40) : eDesk w (d.val p b a) d := by
  obtain ⟨a1, c1, rfl⟩ := row_shape h1
  obtain ⟨a2, c2, rfl⟩ := row_shape h2
  obtain ⟨a3, c3, rfl⟩ := row_shape h3
  exact ⟨a1, c1, a2, c2, a3, c3, rfl, by have := h.used; unfold I64; omega, by have := h.now; unfold I64; omega, row_ltr h1 h.op, row_ltr h2 h.ob, row_ltr h3 h.oa⟩
set_option maxHeartbeats 1600000 in
theorem drawNextTime_any (v : Value) (l : List Int) (w : World) (h : SlR w 1 rU8 v l) (hl : l.length ≤ 1048576) :
    Calls Try.prog 8 #[v] w fun e w' => ∃ d p b a, e = .returned (Dk.val d p b a) ∧ eDesk w' (Dk.val d p b a) d ∧ DkI 3 d ∧ Ext w w' := by
  have HS := Lib.hid h
  clear h
  go_enter Try.func8, Try.ntmps8
  have hRn := Lib.hid (Blk.new (w := w) (cs := #[.slice none 0 0, .slice none 0 0, .slice none 0 0, (.int .i64 0), (.int .i64 0)]) (ty := 25) rfl)
  go_wp2_with fail
  refine (l01Source_any v l _ (HS.out.ext rU8_stable (by repeat (first | exact Ext.refl _ | apply Ext.plus | apply Ext.alloc | apply Ext.drew))) hl).mono ?_
  rintro e w2 ⟨g, rfl, hg, hx, hs⟩
  have HG := Lib.hid hg
  have HX := Lib.hid hx
  have HR := Lib.hid (hRn.out.ext hx)
  have HA := Lib.hid hs
  clear hx hs hg hRn
  go_wp2_with fail
  refine (srcDesk_any g _ v l HA.out).mono ?_
  rintro e w3 ⟨d, p, b, a, rfl, hc, hs, hP, hB, hU, hI⟩
  have HGS : Hid (w.heap.size < g) := Lib.hid (by have := HG.out; simp at this; omega)
  have HR3 := Lib.hid (HR.out.chg hc (by have := HGS.out; simp; omega))
  have HX3 := Lib.hid (hc.ext HX.out (by simpa using HG.out))
  have HP := Lib.hid hP
  have HB := Lib.hid hB
  have HU := Lib.hid hU
  have HI := Lib.hid hI
  obtain ⟨p1, p2, rfl⟩ := row_shape hP
  obtain ⟨b1, b2, rfl⟩ := row_shape hB
  obtain ⟨a1, a2, rfl⟩ := row_shape hU
  clear hc hs hP hB hU hI HR HX HA
  have y0 : w3.cell? ⟨w.heap.size, 0, none⟩ = some (.slice none 0 0) := HR3.out.cell 0
  have y1 : w3.cell? ⟨w.heap.size, 1, none⟩ = some (.slice none 0 0) := HR3.out.cell 1
  have y2 : w3.cell? ⟨w.heap.size, 2, none⟩ = some (.slice none 0 0) := HR3.out.cell 2
  have y3 : w3.cell? ⟨w.heap.size, 3, none⟩ = some (.int .i64 0) := HR3.out.cell 3
  have y4 : w3.cell? ⟨w.heap.size, 4, none⟩ = some (.int .i64 0) := HR3.out.cell 4
  have yo := HR3.out.old
  have yf := HR3.out.fz
  unfold Dk.val
  go_wp2
  have HC5 := Lib.hid (set5_chg w3 w.heap.size (.slice p1 d.pairs.length p2) (.slice b1 d.box.length b2) (.slice a1 d.audit.length a2) (.int .i64 d.used) (.int .i64 d.now))
  refine bodyPost_ret (v := .agg #[.slice p1 d.pairs.length p2, .slice b1 d.box.length b2, .slice a1 d.audit.length a2, (.int .i64 d.used), (.int .i64 d.now)]) (by simp [results, Try.results8, go_sem, y0, y1, y2, y3, y4]) rfl ⟨d, _, _, _, rfl, ?_, HI.out, ?_⟩
  · exact eDesk_of (HP.out.off HR3.out (by decide) HC5.out) (HB.out.off HR3.out (by decide) HC5.out) (HU.out.off HR3.out (by decide) HC5.out) HI.out (by decide)
  · exact HC5.out.ext (((Ext.refl w).alloc _).trans HX3.out) (by simp)

set_option maxHeartbeats 3200000 in
theorem drawReads_any (v : Value) (l : List Int) (w : World) (h : SlR w 1 rU8 v l) (hl : l.length ≤ 1048576) :
    Calls Try.prog 10 #[v] w fun e w' => ∃ d p b a, ∃ x : Lab, e = .returned (.tuple #[Dk.val d p b a, .agg #[(.int .i64 x.lv), (.int .i64 x.st)]]) ∧ eDesk w' (Dk.val d p b a) d ∧ DkI 3 d ∧ x.ok ∧ Ext w w' := by
  have HS := Lib.hid h
  clear h
  go_enter Try.func10, Try.ntmps10
  have hRn := Lib.hid ((Blk.new (w := w) (cs := #[.slice none 0 0, .slice none 0 0, .slice none 0 0, (.int .i64 0), (.int .i64 0)]) (ty := 25) rfl).ext ((Ext.refl _).alloc (.cells #[(.int .i64 0), (.int .i64 0)] 27)))
  have hLn := Lib.hid (Blk.new (b := w.heap.size + 1) (w := w.alloc (.cells #[.slice none 0 0, .slice none 0 0, .slice none 0 0, (.int .i64 0), (.int .i64 0)] 25)) (cs := #[(.int .i64 0), (.int .i64 0)]) (ty := 27) (by simp))
  go_wp2_with fail
  refine (l01Source_any v l _ (HS.out.ext rU8_stable (by repeat (first | exact Ext.refl _ | apply Ext.plus | apply Ext.alloc | apply Ext.drew))) hl).mono ?_
  rintro e w2 ⟨g, rfl, hg, hx, hs⟩
  have HGS : Hid (w.heap.size + 1 < g) := Lib.hid (by simp at hg; omega)
  have HR := Lib.hid (hRn.out.ext hx)
  have HL := Lib.hid (hLn.out.ext hx)
  have HX := Lib.hid ((((Ext.refl w).alloc (.cells #[.slice none 0 0, .slice none 0 0, .slice none 0 0, (.int .i64 0), (.int .i64 0)] 25)).alloc (.cells #[(.int .i64 0), (.int .i64 0)] 27)).trans hx)
  have HA := Lib.hid hs
  clear hx hs hg hRn hLn
  go_wp2_with fail
  refine (srcDesk_any g _ v l HA.out).mono ?_
  rintro e w3 ⟨d, p, b, a, rfl, hc, hs, hP, hB, hU, hI⟩
  have HR3 := Lib.hid (HR.out.chg hc (by have := HGS.out; simp; omega))
  have HL3 := Lib.hid (HL.out.chg hc (by have := HGS.out; simp; omega))
  have HX3 := Lib.hid (hc.ext HX.out (by have := HGS.out; simp; omega))
  have HA3 := Lib.hid hs
  have HGW : Hid (g < w2.heap.size) := Lib.hid HA.out.old
  have HP := Lib.hid hP
  have HB := Lib.hid hB
  have HU := Lib.hid hU
  have HI := Lib.hid hI
  obtain ⟨p1, p2, rfl⟩ := row_shape hP
  obtain ⟨b1, b2, rfl⟩ := row_shape hB
  obtain ⟨a1, a2, rfl⟩ := row_shape hU
  clear hc hs hP hB hU hI HR HL HX
  unfold Dk.val
  go_upto_region 3 with fail
  have hDn := Lib.hid (Blk.new (w := w3) (cs := #[.slice p1 d.pairs.length p2, .slice b1 d.box.length b2, .slice a1 d.audit.length a2, (.int .i64 d.used), (.int .i64 d.now)]) (ty := 25) rfl)
  have hex : Ext w3 (w3.alloc (.cells #[.slice p1 d.pairs.length p2, .slice b1 d.box.length b2, .slice a1 d.audit.length a2, (.int .i64 d.used), (.int .i64 d.now)] 25)) := (Ext.refl _).alloc _
  have HR4 := Lib.hid (HR3.out.ext hex)
  have HL4 := Lib.hid (HL3.out.ext hex)
  have HX4 := Lib.hid (HX3.out.trans hex)
  have HA4 := Lib.hid (HA3.out.ext hex)
  have HP4 := Lib.hid (HP.out.ext hex)
  have HB4 := Lib.hid (HB.out.ext hex)
  have HU4 := Lib.hid (HU.out.ext hex)
  have hgd : g ≠ w3.heap.size := by have := HA3.out.old; unfold World.old at this; omega
  clear hex HR3 HL3 HX3 HA3 HP HB HU
  generalize w3.heap.size = gD at hDn hgd ⊢
  generalize w3.alloc (.cells #[.slice p1 d.pairs.length p2, .slice b1 d.box.length b2, .slice a1 d.audit.length a2, (.int .i64 d.used), (.int .i64 d.now)] 25) = w4 at hDn HR4 HL4 HX4 HA4 HP4 HB4 HU4 ⊢
  have HGD := Lib.hid hgd
  clear hgd w3
  (refine wp_region_l (R := SrcR g v l) (SrcR.trans) 3 [(fun u _ => u = (.agg #[.slice p1 d.pairs.length p2, .slice b1 d.box.length b2, .slice a1 d.audit.length a2, (.int .i64 d.used), (.int .i64 d.now)])), (fun u _ => u = (.pointer (some ⟨g, 0, none⟩))), kLab] (by kernel_rfl) (by kernel_rfl) (by kernel_rfl) rfl ?_ (by repeat' (first | exact trivial | exact XReg.GoodKL.same _ _ default | exact kI64_good | exact kLt_good (by decide) | exact kArr_good | exact kPt_good (by decide) | exact kLab_goodL | refine And.intro ?_ ?_)) (SrcR.ext (Ext.refl _).drew))
  apply LReg.val (.agg #[.slice p1 d.pairs.length p2, .slice b1 d.box.length b2, .slice a1 d.audit.length a2, (.int .i64 d.used), (.int .i64 d.now)])
  case h =>
    intro w' hw' hF'
    have hB := hDn.out.chg hw'.1 (by have := HGD.out; simp; omega)
    have e0 : w'.cell? ⟨gD, 0, none⟩ = some (.slice p1 d.pairs.length p2) := hB.cell 0
    have e1 : w'.cell? ⟨gD, 1, none⟩ = some (.slice b1 d.box.length b2) := hB.cell 1
    have e2 : w'.cell? ⟨gD, 2, none⟩ = some (.slice a1 d.audit.length a2) := hB.cell 2
    have e3 : w'.cell? ⟨gD, 3, none⟩ = some (.int .i64 d.used) := hB.cell 3
    have e4 : w'.cell? ⟨gD, 4, none⟩ = some (.int .i64 d.now) := hB.cell 4
    have eo := hB.old
    clear hF' hw' hB
    go_wp2_with fail
    exact ⟨rfl, SrcR.ext (by repeat (first | exact Ext.refl _ | apply Ext.plus | apply Ext.alloc | apply Ext.drew))⟩
  case hv => kernel_rfl
  (apply LReg.val (.pointer (some ⟨g, 0, none⟩)); (case h => (intro w' hw' hF'; have HW' := Lib.hid hw'; clear hF' hw'; go_wp2_with fail; exact ⟨rfl, SrcR.ext (by repeat (first | exact Ext.refl _ | apply Ext.plus | apply Ext.alloc | apply Ext.drew))⟩)); (case hv => kernel_rfl))
  refine LReg.kind (fun w' hw' hF' => ?_) (fun v1 w1 hK => ?_)
  · have HW' := Lib.hid (hw'.2 HA4.out)
    clear hF' hw'
    go_wp2_with fail
    refine (srcLabel_any g _ v l (HW'.out.ext (by repeat (first | exact Ext.refl _ | apply Ext.plus | apply Ext.alloc | apply Ext.drew)))).mono ?_
    rintro e w8 ⟨y, rfl, hyo, hc, hs⟩
    have HR8 := Lib.hid (SrcR.of (w := w') (by repeat (first | exact Ext.refl _ | apply Ext.plus | apply Ext.alloc | apply Ext.drew)) hc hs)
    have HY := Lib.hid hyo
    clear hc hs hyo
    go_wp2
    exact ⟨HR8.out, y, rfl, HY.out.1, HY.out.2⟩
  obtain ⟨y, rfl, hy1, hy2⟩ := hK
  clear w1
  refine LReg.done (fun w9 hw9 hF => ?_)
  have HR9 := Lib.hid (HR4.out.chg hw9.1 (by have := HGS.out; simp; omega))
  have HL9 := Lib.hid (HL4.out.chg hw9.1 (by have := HGS.out; simp; omega))
  have HX9 := Lib.hid (hw9.1.ext HX4.out (by have := HGS.out; simp; omega))
  have HP9 := Lib.hid (HP4.out.chg hw9.1 (fun x hx => by have := (HP4.out.blk x hx).1; have := HGW.out; simp; omega))
  have HB9 := Lib.hid (HB4.out.chg hw9.1 (fun x hx => by have := (HB4.out.blk x hx).1; have := HGW.out; simp; omega))
  have HU9 := Lib.hid (HU4.out.chg hw9.1 (fun x hx => by have := (HU4.out.blk x hx).1; have := HGW.out; simp; omega))
  have HY := Lib.hid (And.intro hy1 hy2)
  clear hF hw9 HR4 HL4 HX4 HA4 HP4 HB4 HU4 hDn hy1 hy2 w4
  have y0 : w9.cell? ⟨w.heap.size, 0, none⟩ = some (.slice none 0 0) := HR9.out.cell 0
  have y1 : w9.cell? ⟨w.heap.size, 1, none⟩ = some (.slice none 0 0) := HR9.out.cell 1
  have y2 : w9.cell? ⟨w.heap.size, 2, none⟩ = some (.slice none 0 0) := HR9.out.cell 2
  have y3 : w9.cell? ⟨w.heap.size, 3, none⟩ = some (.int .i64 0) := HR9.out.cell 3
  have y4 : w9.cell? ⟨w.heap.size, 4, none⟩ = some (.int .i64 0) := HR9.out.cell 4
  have yo := HR9.out.old
  have yf := HR9.out.fz
  have z0 : w9.cell? ⟨w.heap.size + 1, 0, none⟩ = some (.int .i64 0) := HL9.out.cell 0
  have z1 : w9.cell? ⟨w.heap.size + 1, 1, none⟩ = some (.int .i64 0) := HL9.out.cell 1
  have zo := HL9.out.old
  have zf := HL9.out.fz
  go_wp2
  have HC5 := Lib.hid (set5_chg w9 w.heap.size (.slice p1 d.pairs.length p2) (.slice b1 d.box.length b2) (.slice a1 d.audit.length a2) (.int .i64 d.used) (.int .i64 d.now))
  refine bodyPost_ret (v := .tuple #[.agg #[.slice p1 d.pairs.length p2, .slice b1 d.box.length b2, .slice a1 d.audit.length a2, (.int .i64 d.used), (.int .i64 d.now)], .agg #[(.int .i64 y.lv), (.int .i64 y.st)]]) (by simp [results, Try.results10, go_sem, y0, y1, y2, y3, y4, z0, z1]) rfl ⟨d, _, _, _, y, rfl, ?_, HI.out, HY.out, ?_⟩
  · have hL5 := HL9.out.chg HC5.out (by simp)
    have hC6 := set2_chg (((((w9.setCell ⟨w.heap.size, 0, none⟩ (.slice p1 d.pairs.length p2)).setCell ⟨w.heap.size, 1, none⟩ (.slice b1 d.box.length b2)).setCell ⟨w.heap.size, 2, none⟩ (.slice a1 d.audit.length a2)).setCell ⟨w.heap.size, 3, none⟩ (.int .i64 d.used)).setCell ⟨w.heap.size, 4, none⟩ (.int .i64 d.now)) (w.heap.size + 1) (.int .i64 y.lv) (.int .i64 y.st)
    exact eDesk_of ((HP9.out.off HR9.out (by decide) HC5.out).off hL5 (by decide) hC6) ((HB9.out.off HR9.out (by decide) HC5.out).off hL5 (by decide) hC6) ((HU9.out.off HR9.out (by decide) HC5.out).off hL5 (by decide) hC6) HI.out (by decide)
  · exact (set2_chg _ _ _ _).ext (HC5.out.ext HX9.out (by simp)) (by simp)
end Go.Proofs.Ytocadhcggkbimaa

set_option maxRecDepth 100000
set_option linter.unusedVariables false
namespace Go.Proofs.Ytocadhcggkbimaa
open Go.RowKit Go.Fin1
theorem SrcA.side {S : List Nat} {w0 w w' : World} {g : Nat} {cv : Value} {l : List Int} (h : SrcA w g cv l) (h0 : SlR w0 1 rU8 cv l) (hx : Chg S w w') (hg : g ∉ S) (hS : ∀ b ∈ S, w0.heap.size ≤ b) : SrcA w' g cv l := by
  have hl := h.old
  have hc : ∀ j u, w.cell? ⟨g, j, none⟩ = some u → w'.cell? ⟨g, j, none⟩ = some u := fun j u hu => by
    simp only [World.cell?, hx.block g hl hg] at hu ⊢; exact hu
  refine ⟨?_, ?_, h.far⟩
  · obtain ⟨⟨k, hk, q1⟩, q0, ⟨m, m0, m1, q2⟩, hf⟩ := h.src
    refine ⟨⟨k, hk, hc _ _ q1⟩, hc _ _ q0, ⟨m, m0, m1, hc _ _ q2⟩, fun j => ?_⟩
    have := hf j
    simp only [World.frozen?, hx.block g hl hg] at this ⊢; exact this
  · obtain ⟨a, cap, rfl, h1, h2, h3⟩ := h.code
    refine ⟨a, cap, rfl, h1, h2, fun i hi => ?_⟩
    obtain ⟨b, off, cs, rfl, hk, hcc, hr⟩ := h3 i hi
    have hb0 : b < w0.heap.size := (u8_at h0 hi).1
    refine ⟨b, off, cs, rfl, hk, fun j u hu => ?_, hr⟩
    have hq := hcc j u hu
    have hlt := World.block_lt_of_cell? w _ hq
    simp only [World.cell?, hx.block b hlt (fun hb => by have := hS _ hb; omega)] at hq ⊢
    exact hq
def kLtZ (m : Nat) (_ : Nat × Nat) : XReg.Kind := fun v _ => ∃ n : Nat, n < m ∧ v = (.int .i64 (n : Int))
def kIZ (_ : Nat × Nat) : XReg.Kind := fun v _ => ∃ n : Int, I64 n ∧ v = (.int .i64 n)
def kArZ (C : Nat) (cs : List Value) (n : Nat) (_ : Nat × Nat) : XReg.Kind := fun v u => ∃ b, v = .slice (some ⟨b, 0, none⟩) n n ∧ C ≤ b ∧ Blk u b cs 2
def kPtZ (C : Nat) (cs : List Value) (n : Nat) (_ : Nat × Nat) : XReg.Kind := fun v u => ∃ b k, v = .pointer (some ⟨b, k, none⟩) ∧ k < n ∧ C ≤ b ∧ Blk u b cs 2
def kStZ (b : Nat) (cs : List Value) (ty : TypeId) (_ : Nat × Nat) : XReg.Kind := fun _ u => Blk u b cs ty
theorem kLtZ_good {m : Nat} {S U V : List Nat} (h : 0 < m) : (XReg.ZOp.A (kLtZ m) S U V).Good := ⟨fun _ _ _ _ _ h => h, (0, 0), _, default, 0, h, rfl⟩
theorem kIZ_good {S U V : List Nat} : (XReg.ZOp.A kIZ S U V).Good := ⟨fun _ _ _ _ _ h => h, (0, 0), _, default, 0, by unfold I64; omega, rfl⟩
theorem kArZ_good {C n : Nat} {cs : List Value} {S U V : List Nat} (hV : ∀ b ∈ V, b < C) : (XReg.ZOp.A (kArZ C cs n) S U V).Good :=
  ⟨fun _ _ _ _ hx ⟨b, hv, hb, h⟩ => ⟨b, hv, hb, h.chg hx (fun hm => by have := hV _ hm; omega)⟩, (0, 0), .slice (some ⟨(emptyG C).heap.size, 0, none⟩) n n, _, _, rfl, by rw [emptyG_size]; exact Nat.le_refl _, Blk.new (cs := cs.toArray) rfl⟩
theorem kPtZ_good {C n : Nat} {cs : List Value} {S U V : List Nat} (hn : 0 < n) (hV : ∀ b ∈ V, b < C) : (XReg.ZOp.A (kPtZ C cs n) S U V).Good :=
  ⟨fun _ _ _ _ hx ⟨b, k, hv, hk, hb, h⟩ => ⟨b, k, hv, hk, hb, h.chg hx (fun hm => by have := hV _ hm; omega)⟩, (0, 0), .pointer (some ⟨(emptyG C).heap.size, 0, none⟩), _, _, 0, rfl, hn, by rw [emptyG_size]; exact Nat.le_refl _, Blk.new (cs := cs.toArray) rfl⟩
theorem kStZ_good {b : Nat} {cs : List Value} {ty : TypeId} {S U V : List Nat} (hV : b ∉ V) : (XReg.ZOp.A (kStZ b cs ty) S U V).Good :=
  ⟨fun _ _ _ _ hx h => h.chg hx hV, (0, 0), undef, _, Blk.new (w := emptyG b) (cs := cs.toArray) (emptyG_size b).symm⟩
set_option maxHeartbeats 3200000 in
theorem drawLetDown_any (v : Value) (l : List Int) (w : World) (h : SlR w 1 rU8 v l) (hl : l.length ≤ 1048576) :
    Calls Try.prog 6 #[v] w fun e w' => ∃ d p b a, ∃ x y : Lab, ∃ q : Int, e = .returned (.tuple #[Dk.val d p b a, .agg #[(.int .i64 x.lv), (.int .i64 x.st)], .agg #[(.int .i64 y.lv), (.int .i64 y.st)], (.int .i64 q)]) ∧ eDesk w' (Dk.val d p b a) d ∧ DkI 3 d ∧ x.ok ∧ y.ok ∧ I64 q ∧ Ext w w' := by
  have HS := Lib.hid h
  have H2 : Hid (I64 2) := Lib.hid (by unfold I64; omega)
  have H3 : Hid (I64 3) := Lib.hid (by unfold I64; omega)
  have H6 : Hid (I64 6) := Lib.hid (by unfold I64; omega)
  have H8 : Hid (I64 8) := Lib.hid (by unfold I64; omega)
  have H99 : Hid (I64 99) := Lib.hid (by unfold I64; omega)
  clear h
  go_enter Try.func6, Try.ntmps6
  have hRn := Lib.hid ((Blk.new (w := w) (cs := #[.slice none 0 0, .slice none 0 0, .slice none 0 0, (.int .i64 0), (.int .i64 0)]) (ty := 25) rfl).ext (((Ext.refl _).alloc (.cells #[(.int .i64 0), (.int .i64 0)] 27)).alloc (.cells #[(.int .i64 0), (.int .i64 0)] 27)))
  have hLn := Lib.hid ((Blk.new (b := w.heap.size + 1) (w := w.alloc (.cells #[.slice none 0 0, .slice none 0 0, .slice none 0 0, (.int .i64 0), (.int .i64 0)] 25)) (cs := #[(.int .i64 0), (.int .i64 0)]) (ty := 27) (by simp)).ext ((Ext.refl _).alloc (.cells #[(.int .i64 0), (.int .i64 0)] 27)))
  have hMn := Lib.hid (Blk.new (b := w.heap.size + 1 + 1) (w := (w.alloc (.cells #[.slice none 0 0, .slice none 0 0, .slice none 0 0, (.int .i64 0), (.int .i64 0)] 25)).alloc (.cells #[(.int .i64 0), (.int .i64 0)] 27)) (cs := #[(.int .i64 0), (.int .i64 0)]) (ty := 27) (by simp))
  go_wp2_with fail
  refine (l01Source_any v l _ (HS.out.ext rU8_stable (by repeat (first | exact Ext.refl _ | apply Ext.plus | apply Ext.alloc | apply Ext.drew))) hl).mono ?_
  rintro e w2 ⟨g, rfl, hg, hx, hs⟩
  have HGS : Hid (w.heap.size + 1 + 1 < g) := Lib.hid (by simp at hg; omega)
  have HR := Lib.hid (hRn.out.ext hx)
  have HL := Lib.hid (hLn.out.ext hx)
  have HM := Lib.hid (hMn.out.ext hx)
  have HX := Lib.hid (((((Ext.refl w).alloc (.cells #[.slice none 0 0, .slice none 0 0, .slice none 0 0, (.int .i64 0), (.int .i64 0)] 25)).alloc (.cells #[(.int .i64 0), (.int .i64 0)] 27)).alloc (.cells #[(.int .i64 0), (.int .i64 0)] 27)).trans hx)
  have HA := Lib.hid hs
  clear hx hs hg hRn hLn hMn
  go_wp2_with fail
  refine (srcDesk_any g _ v l HA.out).mono ?_
  rintro e w3 ⟨d, p, b, a, rfl, hc, hs, hP, hB, hU, hI⟩
  have HR3 := Lib.hid (HR.out.chg hc (by have := HGS.out; simp; omega))
  have HL3 := Lib.hid (HL.out.chg hc (by have := HGS.out; simp; omega))
  have HM3 := Lib.hid (HM.out.chg hc (by have := HGS.out; simp; omega))
  have HX3 := Lib.hid (hc.ext HX.out (by have := HGS.out; simp; omega))
  have HA3 := Lib.hid hs
  have HGW : Hid (g < w2.heap.size) := Lib.hid HA.out.old
  have HP := Lib.hid hP
  have HB := Lib.hid hB
  have HU := Lib.hid hU
  have HI := Lib.hid hI
  obtain ⟨p1, p2, rfl⟩ := row_shape hP
  obtain ⟨b1, b2, rfl⟩ := row_shape hB
  obtain ⟨a1, a2, rfl⟩ := row_shape hU
  obtain ⟨bP, oP, rfl⟩ := slr_some (row_ltr hP hI.op) (i := 0) (by have := hI.pairs; omega)
  clear hc hs hP hB hU hI HR HL HM HX HA
  unfold Dk.val
  go_upto_region 3 with fail
  have hDn := Lib.hid (Blk.new (w := w3) (cs := #[.slice (some ⟨bP, oP, none⟩) d.pairs.length p2, .slice b1 d.box.length b2, .slice a1 d.audit.length a2, (.int .i64 d.used), (.int .i64 d.now)]) (ty := 25) rfl)
  have hex : Ext w3 (w3.alloc (.cells #[.slice (some ⟨bP, oP, none⟩) d.pairs.length p2, .slice b1 d.box.length b2, .slice a1 d.audit.length a2, (.int .i64 d.used), (.int .i64 d.now)] 25)) := (Ext.refl _).alloc _
  have HR4 := Lib.hid (HR3.out.ext hex)
  have HL4 := Lib.hid (HL3.out.ext hex)
  have HM4 := Lib.hid (HM3.out.ext hex)
  have HX4 := Lib.hid (HX3.out.trans hex)
  have HA4 := Lib.hid (HA3.out.ext hex)
  have HP4 := Lib.hid (HP.out.ext hex)
  have HB4 := Lib.hid (HB.out.ext hex)
  have HU4 := Lib.hid (HU.out.ext hex)
  have hgd : g ≠ w3.heap.size := by have := HA3.out.old; unfold World.old at this; omega
  have HGZ : Hid (w.heap.size + 1 + 1 < w3.heap.size) := Lib.hid HM3.out.old
  clear hex HR3 HL3 HM3 HX3 HA3 HP HB HU
  generalize w3.heap.size = gD at hDn hgd HGZ ⊢
  generalize w3.alloc (.cells #[.slice (some ⟨bP, oP, none⟩) d.pairs.length p2, .slice b1 d.box.length b2, .slice a1 d.audit.length a2, (.int .i64 d.used), (.int .i64 d.now)] 25) = w4 at hDn HR4 HL4 HM4 HX4 HA4 HP4 HB4 HU4 ⊢
  have HGD := Lib.hid hgd
  have HD4 := hDn
  clear hgd hDn w3
  (refine wp_region_l (R := SrcR g v l) (SrcR.trans) 7 [(fun u _ => u = (.pointer (some ⟨gD, 0, none⟩))), (fun u _ => u = (.slice (some ⟨bP, oP, none⟩) d.pairs.length p2)), (fun u _ => u = (.pointer (some ⟨g, 0, none⟩))), kLt 2, kLtrP bP oP 2, kLtrV, kBoxN w4.heap.size g [(.int .i64 0), (.int .i64 0), (.int .i64 0), (.int .i64 0), (.int .i64 0), (.int .i64 0)] 75] (by kernel_rfl) (by kernel_rfl) (by kernel_rfl) rfl ?_ (by repeat' (first | exact trivial | exact XReg.GoodKL.same _ _ default | exact kI64_good | exact kLt_good (by decide) | exact kArr_good | exact kPt_good (by decide) | (first | exact kLtrP_good (by decide) | exact kLtrV_good | exact kBoxN_good) | refine And.intro ?_ ?_)) (SrcR.ext (Ext.refl _).drew))
  (apply LReg.val (.pointer (some ⟨gD, 0, none⟩)); (case h => (intro w' hw' hF'; have HW' := Lib.hid hw'; clear hF' hw'; go_wp2_with fail; exact ⟨rfl, SrcR.ext (by repeat (first | exact Ext.refl _ | apply Ext.plus | apply Ext.alloc | apply Ext.drew))⟩)); (case hv => kernel_rfl))
  apply LReg.val (.slice (some ⟨bP, oP, none⟩) d.pairs.length p2)
  case h =>
    intro w' hw' hF'
    have hB := HD4.out.chg hw'.1 (by have := HGD.out; simp; omega)
    have e0 : w'.cell? ⟨gD, 0, none⟩ = some (.slice (some ⟨bP, oP, none⟩) d.pairs.length p2) := hB.cell 0
    have eo := hB.old
    clear hF' hw' hB
    go_wp2_with fail
    exact ⟨rfl, SrcR.ext (by repeat (first | exact Ext.refl _ | apply Ext.plus | apply Ext.alloc | apply Ext.drew))⟩
  case hv => kernel_rfl
  (apply LReg.val (.pointer (some ⟨g, 0, none⟩)); (case h => (intro w' hw' hF'; have HW' := Lib.hid hw'; clear hF' hw'; go_wp2_with fail; exact ⟨rfl, SrcR.ext (by repeat (first | exact Ext.refl _ | apply Ext.plus | apply Ext.alloc | apply Ext.drew))⟩)); (case hv => kernel_rfl))
  refine LReg.kind (fun w' hw' hF' => ?_) (fun v1 w1 hK => ?_)
  · have HW' := Lib.hid (hw'.2 HA4.out)
    clear hF' hw'
    go_wp2_with fail
    refine (srcN' g 2 _ v l (HW'.out.ext (by repeat (first | exact Ext.refl _ | apply Ext.plus | apply Ext.alloc | apply Ext.drew))) H2.out).mono ?_
    rintro e w8 ⟨n, rfl, hb, hc, hs⟩
    have HR8 := Lib.hid (SrcR.of (w := w') (by repeat (first | exact Ext.refl _ | apply Ext.plus | apply Ext.alloc | apply Ext.drew)) hc hs)
    have hn : n < 2 := by omega
    clear hc hs hb
    go_wp2
    exact ⟨HR8.out, _, rfl, hn⟩
  obtain ⟨kq, rfl, hkq⟩ := hK
  clear w1
  refine LReg.kind (fun w' hw' hF' => ?_) (fun v1 w1 hK => ?_)
  · clear hF' hw'
    have hlt : kq < d.pairs.length := by have := HI.out.pairs; omega
    go_wp2
    exact ⟨SrcR.ext (by repeat (first | exact Ext.refl _ | apply Ext.plus | apply Ext.alloc | apply Ext.drew)), kq, hkq, rfl⟩
  obtain ⟨kp, hkp, rfl⟩ := hK
  clear w1
  refine LReg.kind (fun w' hw' hF' => ?_) (fun v1 w1 hK => ?_)
  · have hlt : kp < d.pairs.length := by have := HI.out.pairs; omega
    have hPP := HP4.out.chg hw'.1 (fun x hx => by have := (HP4.out.blk x hx).1; have := HGW.out; simp; omega)
    obtain ⟨ho, hok, h0, h1, h2, h3, h4, h5⟩ := ltr_at (row_ltr hPP HI.out.op) hlt
    have HX := Lib.hid hok
    clear hw' hF' hok hPP
    go_wp2
    exact ⟨SrcR.ext (by repeat (first | exact Ext.refl _ | apply Ext.plus | apply Ext.alloc | apply Ext.drew)), _, HX.out, rfl⟩
  obtain ⟨⟨⟨x1, x2⟩, ⟨x3, x4⟩, x5, x6⟩, hx, rfl⟩ := hK
  clear w1
  dsimp only
  refine LReg.kind (fun w' hw' hF' => ?_) (fun v1 w1 hK => ?_)
  · clear hF'
    have hgs := (hw'.2 HA4.out).old
    unfold World.old at hgs
    have hsz := hw'.1.size
    have H9a := Lib.hid (show kBoxN w4.heap.size g [(.int .i64 0), (.int .i64 0), (.int .i64 0), (.int .i64 0), (.int .i64 0), (.int .i64 0)] 75 (.pointer (some ⟨w'.heap.size, 0, none⟩)) (w'.alloc (.cells #[(.int .i64 0), (.int .i64 0), (.int .i64 0), (.int .i64 0), (.int .i64 0), (.int .i64 0)] 75)) from ⟨_, rfl, hsz, by omega, Blk.new rfl⟩)
    clear hw' hgs hsz
    go_wp2
    exact ⟨SrcR.ext (by repeat (first | exact Ext.refl _ | apply Ext.plus | apply Ext.alloc | apply Ext.drew)), H9a.out⟩
  obtain ⟨bx, rfl, hbB, hbg, hs3⟩ := hK
  clear hs3 w1
  refine LReg.done (fun w5 hw9 hF => ?_)
  obtain ⟨b', hv', -, -, hB9⟩ := hF 6 (kBoxN w4.heap.size g [(.int .i64 0), (.int .i64 0), (.int .i64 0), (.int .i64 0), (.int .i64 0), (.int .i64 0)] 75, .pointer (some ⟨bx, 0, none⟩)) (by kernel_rfl)
  obtain rfl : bx = b' := by simpa using hv'
  have HXQ : Hid ((I64 x1 ∧ I64 x2) ∧ (I64 x3 ∧ I64 x4)) := Lib.hid ⟨hx.1, hx.2.1⟩
  have hr4 : w.heap.size + 1 + 1 < w4.heap.size := HM4.out.old
  have hd4 : gD < w4.heap.size := HD4.out.old
  have HR5 := Lib.hid (HR4.out.chg hw9.1 (by have := HGS.out; simp; omega))
  have HL5 := Lib.hid (HL4.out.chg hw9.1 (by have := HGS.out; simp; omega))
  have HM5 := Lib.hid (HM4.out.chg hw9.1 (by have := HGS.out; simp; omega))
  have HX5 := Lib.hid (hw9.1.ext HX4.out (by have := HGS.out; simp; omega))
  have HP5 := Lib.hid (HP4.out.chg hw9.1 (fun x hx => by have := (HP4.out.blk x hx).1; have := HGW.out; simp; omega))
  have HB5 := Lib.hid (HB4.out.chg hw9.1 (fun x hx => by have := (HB4.out.blk x hx).1; have := HGW.out; simp; omega))
  have HU5 := Lib.hid (HU4.out.chg hw9.1 (fun x hx => by have := (HU4.out.blk x hx).1; have := HGW.out; simp; omega))
  have HD5 := Lib.hid (HD4.out.chg hw9.1 (by have := HGD.out; simp; omega))
  have HA5 := Lib.hid (hw9.2 HA4.out)
  have HBX5 := Lib.hid hB9
  have HZ4 : Hid (w.heap.size + 1 + 1 < gD ∧ w.heap.size + 1 + 1 < bx) := Lib.hid ⟨HGZ.out, by omega⟩
  have HLT := Lib.hid (show (∀ x ∈ blkL (.slice (some ⟨bP, oP, none⟩) d.pairs.length p2), x < bx) ∧ (∀ x ∈ blkL (.slice b1 d.box.length b2), x < bx) ∧ (∀ x ∈ blkL (.slice a1 d.audit.length a2), x < bx) from ⟨fun x hx => by have := (HP4.out.blk x hx).2; omega, fun x hx => by have := (HB4.out.blk x hx).2; omega, fun x hx => by have := (HU4.out.blk x hx).2; omega⟩)
  have d0 : w5.cell? ⟨bx, 0, none⟩ = some (.int .i64 0) := hB9.cell 0
  have d1 : w5.cell? ⟨bx, 1, none⟩ = some (.int .i64 0) := hB9.cell 1
  have d2 : w5.cell? ⟨bx, 2, none⟩ = some (.int .i64 0) := hB9.cell 2
  have d3 : w5.cell? ⟨bx, 3, none⟩ = some (.int .i64 0) := hB9.cell 3
  have d4 : w5.cell? ⟨bx, 4, none⟩ = some (.int .i64 0) := hB9.cell 4
  have d5 : w5.cell? ⟨bx, 5, none⟩ = some (.int .i64 0) := hB9.cell 5
  have do9 := hB9.old
  have df9 := hB9.fz
  clear hF hv' hw9 hB9 hx HR4 HL4 HM4 HX4 HP4 HB4 HU4 HD4
  go_upto_region 4 with fail
  refine gen_world (fun w6 hW => ?_)
  have hch : Chg [bx] w5 w6 := by rw [hW]; exact set6_chg _ _ _ _ _ _ _ _
  have HBX6 := Lib.hid (show Blk w6 bx [(.int .i64 x1), (.int .i64 x2), (.int .i64 x3), (.int .i64 x4), (.int .i64 x5), (.int .i64 x6)] 75 by rw [hW]; exact HBX5.out.set6 _ _ _ _ _ _)
  have HR6 := Lib.hid (HR5.out.chg hch (by simp; omega))
  have HL6 := Lib.hid (HL5.out.chg hch (by simp; omega))
  have HM6 := Lib.hid (HM5.out.chg hch (by simp; omega))
  have HX6 := Lib.hid (hch.ext HX5.out (by simp; omega))
  have HP6 := Lib.hid (HP5.out.chg hch (fun x hx => by have := HLT.out.1 x hx; simp; omega))
  have HB6 := Lib.hid (HB5.out.chg hch (fun x hx => by have := HLT.out.2.1 x hx; simp; omega))
  have HU6 := Lib.hid (HU5.out.chg hch (fun x hx => by have := HLT.out.2.2 x hx; simp; omega))
  have HD6 := Lib.hid (HD5.out.chg hch (by simp; omega))
  have HA6 := Lib.hid (HA5.out.chg HA4.out hch (by simp; omega))
  clear hW hch d0 d1 d2 d3 d4 d5 do9 df9 HR5 HL5 HM5 HX5 HA5 HP5 HB5 HU5 HD5 HBX5
  go_wp2_with fail
  refine (srcOne_any g 6 _ v l HA6.out H6.out).mono ?_
  rintro e w7 ⟨bl, rfl, hc, hs⟩
  have HR7 := Lib.hid (HR6.out.chg hc (by have := HGS.out; simp; omega))
  have HL7 := Lib.hid (HL6.out.chg hc (by have := HGS.out; simp; omega))
  have HM7 := Lib.hid (HM6.out.chg hc (by have := HGS.out; simp; omega))
  have HX7 := Lib.hid (hc.ext HX6.out (by have := HGS.out; simp; omega))
  have HP7 := Lib.hid (HP6.out.chg hc (fun x hx => by have := (HP6.out.blk x hx).1; have := HGW.out; simp; omega))
  have HB7 := Lib.hid (HB6.out.chg hc (fun x hx => by have := (HB6.out.blk x hx).1; have := HGW.out; simp; omega))
  have HU7 := Lib.hid (HU6.out.chg hc (fun x hx => by have := (HU6.out.blk x hx).1; have := HGW.out; simp; omega))
  have HD7 := Lib.hid (HD6.out.chg hc (by have := HGD.out; simp; omega))
  have HBX7 := Lib.hid (HBX6.out.chg hc (by simp; omega))
  have HA7 := Lib.hid hs
  clear hc hs HR6 HL6 HM6 HX6 HA6 HP6 HB6 HU6 HD6 HBX6
  cases bl
  · have HXO : Hid (I64 x1 ∧ I64 x2 ∧ I64 x3 ∧ I64 x4) := Lib.hid ⟨HXQ.out.1.1, HXQ.out.1.2, HXQ.out.2.1, HXQ.out.2.2⟩
    go_wp2_with fail
    refine (srcOne_any g 8 _ v l HA7.out H8.out).mono ?_
    rintro e w8 ⟨bl, rfl, hc, hs⟩
    have HR8 := Lib.hid (HR7.out.chg hc (by have := HGS.out; simp; omega))
    have HL8 := Lib.hid (HL7.out.chg hc (by have := HGS.out; simp; omega))
    have HM8 := Lib.hid (HM7.out.chg hc (by have := HGS.out; simp; omega))
    have HX8 := Lib.hid (hc.ext HX7.out (by have := HGS.out; simp; omega))
    have HP8 := Lib.hid (HP7.out.chg hc (fun x hx => by have := (HP7.out.blk x hx).1; have := HGW.out; simp; omega))
    have HB8 := Lib.hid (HB7.out.chg hc (fun x hx => by have := (HB7.out.blk x hx).1; have := HGW.out; simp; omega))
    have HU8 := Lib.hid (HU7.out.chg hc (fun x hx => by have := (HU7.out.blk x hx).1; have := HGW.out; simp; omega))
    have HD8 := Lib.hid (HD7.out.chg hc (by have := HGD.out; simp; omega))
    have HBX8 := Lib.hid (HBX7.out.chg hc (by simp; omega))
    have HA8 := Lib.hid hs
    clear hc hs HR7 HL7 HM7 HX7 HP7 HB7 HU7 HD7 HBX7 HA7
    have HZD : Hid (w.heap.size + 1 + 1 < gD ∧ w.heap.size + 1 + 1 < bx ∧ bx < w8.heap.size ∧ g < w8.heap.size ∧ w.heap.size + 1 + 1 < w8.heap.size) := Lib.hid (by
      have q1 := HZ4.out
      have q2 := HM8.out.old
      have q3 := HBX8.out.old
      have q4 := HA8.out.old
      unfold World.old at q2 q3 q4
      omega)
    have hzd := HZD.out
    cases bl
    · go_upto_region 8 with fail
      refine wp_region_z [g, w.heap.size, w.heap.size + 1, w.heap.size + 1 + 1] [.A (fun _ u _ => u = (.agg #[.slice (some ⟨bP, oP, none⟩) d.pairs.length p2, .slice b1 d.box.length b2, .slice a1 d.audit.length a2, (.int .i64 d.used), (.int .i64 d.now)])) [] [g, w.heap.size, w.heap.size + 1, w.heap.size + 1 + 1] [g, w.heap.size, w.heap.size + 1, w.heap.size + 1 + 1], .V (.pointer (some ⟨bx, 0, none⟩)), .A (fun _ u _ => u = (.agg #[(.int .i64 x1), (.int .i64 x2)])) [] [g, w.heap.size, w.heap.size + 1, w.heap.size + 1 + 1] [g, w.heap.size, w.heap.size + 1, w.heap.size + 1 + 1], .V (.pointer (some ⟨bx, 2, none⟩)), .A (fun _ u _ => u = (.agg #[(.int .i64 x3), (.int .i64 x4)])) [] [g, w.heap.size, w.heap.size + 1, w.heap.size + 1 + 1] [g, w.heap.size, w.heap.size + 1, w.heap.size + 1 + 1], .V (.pointer (some ⟨g, 0, none⟩)), .A (kLtZ 99) [g] [w.heap.size, w.heap.size + 1, w.heap.size + 1 + 1] [g, w.heap.size, w.heap.size + 1, w.heap.size + 1 + 1], .A (kStZ w.heap.size [.slice (some ⟨bP, oP, none⟩) d.pairs.length p2, .slice b1 d.box.length b2, .slice a1 d.audit.length a2, (.int .i64 d.used), (.int .i64 d.now)] 25) [w.heap.size] [g, w.heap.size + 1, w.heap.size + 1 + 1] [g, w.heap.size + 1, w.heap.size + 1 + 1], .A (kStZ (w.heap.size + 1) [(.int .i64 x1), (.int .i64 x2)] 27) [w.heap.size + 1] [g, w.heap.size, w.heap.size + 1 + 1] [g, w.heap.size, w.heap.size + 1 + 1], .A (kStZ (w.heap.size + 1 + 1) [(.int .i64 x3), (.int .i64 x4)] 27) [w.heap.size + 1 + 1] [g, w.heap.size, w.heap.size + 1] [g, w.heap.size, w.heap.size + 1], .A (kLtZ 99) [] [g, w.heap.size, w.heap.size + 1, w.heap.size + 1 + 1] [g, w.heap.size, w.heap.size + 1, w.heap.size + 1 + 1]] [] (by kernel_rfl) (by kernel_rfl) (by kernel_rfl) (by kernel_rfl) rfl ?_ (by repeat' (first | exact trivial | exact XReg.ZOp.good_is _ _ _ _ | exact XReg.ZOp.good_v _ | exact kLtZ_good (by decide) | exact kStZ_good (by have := HGS.out; simp; omega) | refine And.intro ?_ ?_)) (by repeat' (first | exact trivial | exact XReg.subL_nil _ | exact XReg.subL_refl _ | exact Or.inr (XReg.subL_nil _) | exact Or.inr (XReg.subL_refl _) | refine And.intro ?_ ?_ | (refine Or.inr (fun x hx => ?_); simp only [XReg.ZOp.S, List.mem_cons, List.not_mem_nil, or_false] at hx ⊢; omega) | (intro x hx; simp only [XReg.ZOp.S, List.mem_cons, List.not_mem_nil, or_false] at hx ⊢; omega) | exact Or.inl (by kernel_rfl)))
      apply ZReg.setU (.agg #[.slice (some ⟨bP, oP, none⟩) d.pairs.length p2, .slice b1 d.box.length b2, .slice a1 d.audit.length a2, (.int .i64 d.used), (.int .i64 d.now)])
      case h =>
        intro w' hw' hF'
        have hB := HD8.out.chg hw' (by have := HGD.out; have := HZD.out; simp; omega)
        have e0 : w'.cell? ⟨gD, 0, none⟩ = some (.slice (some ⟨bP, oP, none⟩) d.pairs.length p2) := hB.cell 0
        have e1 : w'.cell? ⟨gD, 1, none⟩ = some (.slice b1 d.box.length b2) := hB.cell 1
        have e2 : w'.cell? ⟨gD, 2, none⟩ = some (.slice a1 d.audit.length a2) := hB.cell 2
        have e3 : w'.cell? ⟨gD, 3, none⟩ = some (.int .i64 d.used) := hB.cell 3
        have e4 : w'.cell? ⟨gD, 4, none⟩ = some (.int .i64 d.now) := hB.cell 4
        have eo := hB.old
        clear hF' hw' hB
        go_wp2_with fail
        exact ⟨rfl, (by repeat (first | exact Ext.refl _ | apply Ext.plus | apply Ext.alloc | apply Ext.drew))⟩
      case hv => kernel_rfl
      intro _
      (apply ZReg.val (.pointer (some ⟨bx, 0, none⟩)); (case h => (intro w'; go_wp2_with (fail); first | exact ⟨rfl, rfl⟩ | exact rfl)); (case hv => kernel_rfl))
      apply ZReg.setU (.agg #[(.int .i64 x1), (.int .i64 x2)])
      case h =>
        intro w' hw' hF'
        have hB := HBX8.out.chg hw' (by simp; omega)
        have e0 : w'.cell? ⟨bx, 0, none⟩ = some (.int .i64 x1) := hB.cell 0
        have e1 : w'.cell? ⟨bx, 1, none⟩ = some (.int .i64 x2) := hB.cell 1
        have eo := hB.old
        clear hF' hw' hB
        go_wp2_with fail
        exact ⟨rfl, (by repeat (first | exact Ext.refl _ | apply Ext.plus | apply Ext.alloc | apply Ext.drew))⟩
      case hv => kernel_rfl
      intro _
      (apply ZReg.val (.pointer (some ⟨bx, 2, none⟩)); (case h => (intro w'; go_wp2_with (fail); first | exact ⟨rfl, rfl⟩ | exact rfl)); (case hv => kernel_rfl))
      apply ZReg.setU (.agg #[(.int .i64 x3), (.int .i64 x4)])
      case h =>
        intro w' hw' hF'
        have hB := HBX8.out.chg hw' (by simp; omega)
        have e0 : w'.cell? ⟨bx, 2, none⟩ = some (.int .i64 x3) := hB.cell 2
        have e1 : w'.cell? ⟨bx, 3, none⟩ = some (.int .i64 x4) := hB.cell 3
        have eo := hB.old
        clear hF' hw' hB
        go_wp2_with fail
        exact ⟨rfl, (by repeat (first | exact Ext.refl _ | apply Ext.plus | apply Ext.alloc | apply Ext.drew))⟩
      case hv => kernel_rfl
      intro _
      (apply ZReg.val (.pointer (some ⟨g, 0, none⟩)); (case h => (intro w'; go_wp2_with (fail); first | exact ⟨rfl, rfl⟩ | exact rfl)); (case hv => kernel_rfl))
      refine ZReg.kind (fun w' hw' hF' => ?_) (fun v1 w1 xq hK => ?_)
      · have HW' := Lib.hid (HA8.out.side HS.out hw' (by have := HGS.out; simp; omega) (by simp; omega))
        clear hF' hw'
        go_wp2_with fail
        refine (srcN' g 99 _ v l HW'.out H99.out).mono ?_
        rintro e w8 ⟨n, rfl, hb, hc, hs⟩
        have hn : n < 99 := by omega
        have HC8 := Lib.hid hc
        clear hc hs hb
        go_wp2
        exact ⟨HC8.out, _, hn, rfl⟩
      obtain ⟨kn, hkn, rfl⟩ := hK
      clear w1
      refine ZReg.kind (fun w' hw' hF' => ?_) (fun vD w1 xD hK => ?_)
      · have hB := HR8.out.chg hw' (by have := HGS.out; simp; omega)
        have e0 : w'.cell? ⟨w.heap.size, 0, none⟩ = some (.slice none 0 0) := hB.cell 0
        have e1 : w'.cell? ⟨w.heap.size, 1, none⟩ = some (.slice none 0 0) := hB.cell 1
        have e2 : w'.cell? ⟨w.heap.size, 2, none⟩ = some (.slice none 0 0) := hB.cell 2
        have e3 : w'.cell? ⟨w.heap.size, 3, none⟩ = some (.int .i64 0) := hB.cell 3
        have e4 : w'.cell? ⟨w.heap.size, 4, none⟩ = some (.int .i64 0) := hB.cell 4
        have eo := hB.old
        have ef := hB.fz
        have H9 := Lib.hid (And.intro (set5_chg w' w.heap.size (.slice (some ⟨bP, oP, none⟩) d.pairs.length p2) (.slice b1 d.box.length b2) (.slice a1 d.audit.length a2) (.int .i64 d.used) (.int .i64 d.now)) (hB.set5 (.slice (some ⟨bP, oP, none⟩) d.pairs.length p2) (.slice b1 d.box.length b2) (.slice a1 d.audit.length a2) (.int .i64 d.used) (.int .i64 d.now)))
        clear hF' hw' hB
        go_wp2
        exact ⟨H9.out.1, undef, H9.out.2⟩
      clear hK w1
      refine ZReg.kind (fun w' hw' hF' => ?_) (fun vL w1 xL hK => ?_)
      · have hB := HL8.out.chg hw' (by have := HGS.out; simp; omega)
        have e0 : w'.cell? ⟨w.heap.size + 1, 0, none⟩ = some (.int .i64 0) := hB.cell 0
        have e1 : w'.cell? ⟨w.heap.size + 1, 1, none⟩ = some (.int .i64 0) := hB.cell 1
        have eo := hB.old
        have ef := hB.fz
        have H9 := Lib.hid (show Chg [w.heap.size + 1] w' ((w'.setCell ⟨w.heap.size + 1, 0, none⟩ (.int .i64 x1)).setCell ⟨w.heap.size + 1, 1, none⟩ (.int .i64 x2)) ∧ Blk ((w'.setCell ⟨w.heap.size + 1, 0, none⟩ (.int .i64 x1)).setCell ⟨w.heap.size + 1, 1, none⟩ (.int .i64 x2)) (w.heap.size + 1) [(.int .i64 x1), (.int .i64 x2)] 27 from ⟨set2_chg _ _ _ _, (hB.set 0 _).set 1 _⟩)
        clear hF' hw' hB
        go_wp2
        exact ⟨H9.out.1, undef, H9.out.2⟩
      clear hK w1
      refine ZReg.kind (fun w' hw' hF' => ?_) (fun vM w1 xM hK => ?_)
      · have hB := HM8.out.chg hw' (by have := HGS.out; simp; omega)
        have e0 : w'.cell? ⟨w.heap.size + 1 + 1, 0, none⟩ = some (.int .i64 0) := hB.cell 0
        have e1 : w'.cell? ⟨w.heap.size + 1 + 1, 1, none⟩ = some (.int .i64 0) := hB.cell 1
        have eo := hB.old
        have ef := hB.fz
        have H9 := Lib.hid (show Chg [w.heap.size + 1 + 1] w' ((w'.setCell ⟨w.heap.size + 1 + 1, 0, none⟩ (.int .i64 x3)).setCell ⟨w.heap.size + 1 + 1, 1, none⟩ (.int .i64 x4)) ∧ Blk ((w'.setCell ⟨w.heap.size + 1 + 1, 0, none⟩ (.int .i64 x3)).setCell ⟨w.heap.size + 1 + 1, 1, none⟩ (.int .i64 x4)) (w.heap.size + 1 + 1) [(.int .i64 x3), (.int .i64 x4)] 27 from ⟨set2_chg _ _ _ _, (hB.set 0 _).set 1 _⟩)
        clear hF' hw' hB
        go_wp2
        exact ⟨H9.out.1, undef, H9.out.2⟩
      clear hK w1
      refine ZReg.kind (fun w' hw' hF' => ?_) (fun v2 w1 xz hK => ?_)
      · clear hF' hw'
        go_wp2
        exact ⟨Ext.chg (by repeat (first | exact Ext.refl _ | apply Ext.plus | apply Ext.alloc | apply Ext.drew)) _, kn, hkn, rfl⟩
      obtain ⟨km, hkm, rfl⟩ := hK
      clear w1
      have HQ : Hid (I64 (km : Int)) := Lib.hid (by unfold I64; omega)
      refine ZReg.done (fun w9 hw9 hF hR => ?_)
      have hD9 : Blk w9 w.heap.size _ 25 := hF 7 (kStZ w.heap.size [.slice (some ⟨bP, oP, none⟩) d.pairs.length p2, .slice b1 d.box.length b2, .slice a1 d.audit.length a2, (.int .i64 d.used), (.int .i64 d.now)] 25 xD, vD) (by kernel_rfl)
      have hL9 : Blk w9 (w.heap.size + 1) _ 27 := hF 8 (kStZ (w.heap.size + 1) [(.int .i64 x1), (.int .i64 x2)] 27 xL, vL) (by kernel_rfl)
      have hM9 : Blk w9 (w.heap.size + 1 + 1) _ 27 := hF 9 (kStZ (w.heap.size + 1 + 1) [(.int .i64 x3), (.int .i64 x4)] 27 xM, vM) (by kernel_rfl)
      have HX9 := Lib.hid (hw9.ext HX8.out (by have := HGS.out; simp; omega))
      have HP9 := Lib.hid (HP8.out.chg hw9 (fun x hx => by have := (HP8.out.blk x hx).1; have := HGW.out; have := HGS.out; simp; omega))
      have HB9 := Lib.hid (HB8.out.chg hw9 (fun x hx => by have := (HB8.out.blk x hx).1; have := HGW.out; have := HGS.out; simp; omega))
      have HU9 := Lib.hid (HU8.out.chg hw9 (fun x hx => by have := (HU8.out.blk x hx).1; have := HGW.out; have := HGS.out; simp; omega))
      clear hF hR hw9 HR8 HL8 HM8 HX8 HA8 HP8 HB8 HU8 HD8 HBX8
      have y0 : w9.cell? ⟨w.heap.size, 0, none⟩ = some (.slice (some ⟨bP, oP, none⟩) d.pairs.length p2) := hD9.cell 0
      have y1 : w9.cell? ⟨w.heap.size, 1, none⟩ = some (.slice b1 d.box.length b2) := hD9.cell 1
      have y2 : w9.cell? ⟨w.heap.size, 2, none⟩ = some (.slice a1 d.audit.length a2) := hD9.cell 2
      have y3 : w9.cell? ⟨w.heap.size, 3, none⟩ = some (.int .i64 d.used) := hD9.cell 3
      have y4 : w9.cell? ⟨w.heap.size, 4, none⟩ = some (.int .i64 d.now) := hD9.cell 4
      have yo := hD9.old
      have z0 : w9.cell? ⟨w.heap.size + 1, 0, none⟩ = some (.int .i64 x1) := hL9.cell 0
      have z1 : w9.cell? ⟨w.heap.size + 1, 1, none⟩ = some (.int .i64 x2) := hL9.cell 1
      have zo := hL9.old
      have u0 : w9.cell? ⟨w.heap.size + 1 + 1, 0, none⟩ = some (.int .i64 x3) := hM9.cell 0
      have u1 : w9.cell? ⟨w.heap.size + 1 + 1, 1, none⟩ = some (.int .i64 x4) := hM9.cell 1
      have uo := hM9.old
      clear hD9 hL9 hM9
      refine ZReg.end_ ?_
      go_wp2
      refine bodyPost_ret (v := .tuple #[(.agg #[.slice (some ⟨bP, oP, none⟩) d.pairs.length p2, .slice b1 d.box.length b2, .slice a1 d.audit.length a2, (.int .i64 d.used), (.int .i64 d.now)]), .agg #[(.int .i64 x1), (.int .i64 x2)], .agg #[(.int .i64 x3), (.int .i64 x4)], (.int .i64 (km : Int))]) (by simp [results, Try.results6, go_sem, y0, y1, y2, y3, y4, z0, z1, u0, u1]) rfl ⟨d, _, _, _, ⟨x1, x2⟩, ⟨x3, x4⟩, _, rfl, ?_, HI.out, ⟨HXO.out.1, HXO.out.2.1⟩, ⟨HXO.out.2.2.1, HXO.out.2.2.2⟩, HQ.out, HX9.out⟩
      exact eDesk_of HP9.out HB9.out HU9.out HI.out (by decide)
    · go_upto_region 7 with fail
      refine wp_region_z [g, w.heap.size, w.heap.size + 1, w.heap.size + 1 + 1] [.A (fun _ u _ => u = (.agg #[.slice (some ⟨bP, oP, none⟩) d.pairs.length p2, .slice b1 d.box.length b2, .slice a1 d.audit.length a2, (.int .i64 d.used), (.int .i64 d.now)])) [] [g, w.heap.size, w.heap.size + 1, w.heap.size + 1 + 1] [g, w.heap.size, w.heap.size + 1, w.heap.size + 1 + 1], .V (.pointer (some ⟨bx, 0, none⟩)), .A (fun _ u _ => u = (.agg #[(.int .i64 x1), (.int .i64 x2)])) [] [g, w.heap.size, w.heap.size + 1, w.heap.size + 1 + 1] [g, w.heap.size, w.heap.size + 1, w.heap.size + 1 + 1], .V (.pointer (some ⟨bx, 2, none⟩)), .A (fun _ u _ => u = (.agg #[(.int .i64 x3), (.int .i64 x4)])) [] [g, w.heap.size, w.heap.size + 1, w.heap.size + 1 + 1] [g, w.heap.size, w.heap.size + 1, w.heap.size + 1 + 1], .A (kArZ w8.heap.size [(.int .i64 (-1)), (.int .i64 1000000), (.int .i64 1000001)] 3) [] [g, w.heap.size, w.heap.size + 1, w.heap.size + 1 + 1] [g, w.heap.size, w.heap.size + 1, w.heap.size + 1 + 1], .V (.pointer (some ⟨g, 0, none⟩)), .A (kLtZ 3) [g] [w.heap.size, w.heap.size + 1, w.heap.size + 1 + 1] [g, w.heap.size, w.heap.size + 1, w.heap.size + 1 + 1], .A (kPtZ w8.heap.size [(.int .i64 (-1)), (.int .i64 1000000), (.int .i64 1000001)] 3) [] [g, w.heap.size, w.heap.size + 1, w.heap.size + 1 + 1] [g, w.heap.size, w.heap.size + 1, w.heap.size + 1 + 1], .A kIZ [] [g, w.heap.size, w.heap.size + 1, w.heap.size + 1 + 1] [g, w.heap.size, w.heap.size + 1, w.heap.size + 1 + 1], .A (kStZ w.heap.size [.slice (some ⟨bP, oP, none⟩) d.pairs.length p2, .slice b1 d.box.length b2, .slice a1 d.audit.length a2, (.int .i64 d.used), (.int .i64 d.now)] 25) [w.heap.size] [g, w.heap.size + 1, w.heap.size + 1 + 1] [g, w.heap.size + 1, w.heap.size + 1 + 1], .A (kStZ (w.heap.size + 1) [(.int .i64 x1), (.int .i64 x2)] 27) [w.heap.size + 1] [g, w.heap.size, w.heap.size + 1 + 1] [g, w.heap.size, w.heap.size + 1 + 1], .A (kStZ (w.heap.size + 1 + 1) [(.int .i64 x3), (.int .i64 x4)] 27) [w.heap.size + 1 + 1] [g, w.heap.size, w.heap.size + 1] [g, w.heap.size, w.heap.size + 1], .A kIZ [] [g, w.heap.size, w.heap.size + 1, w.heap.size + 1 + 1] [g, w.heap.size, w.heap.size + 1, w.heap.size + 1 + 1]] [] (by kernel_rfl) (by kernel_rfl) (by kernel_rfl) (by kernel_rfl) rfl ?_ (by repeat' (first | exact trivial | exact XReg.ZOp.good_is _ _ _ _ | exact XReg.ZOp.good_v _ | exact kLtZ_good (by decide) | exact kIZ_good | exact kArZ_good (by simp; omega) | exact kPtZ_good (by decide) (by simp; omega) | exact kStZ_good (by have := HGS.out; simp; omega) | refine And.intro ?_ ?_)) (by repeat' (first | exact trivial | exact XReg.subL_nil _ | exact XReg.subL_refl _ | exact Or.inr (XReg.subL_nil _) | exact Or.inr (XReg.subL_refl _) | refine And.intro ?_ ?_ | (refine Or.inr (fun x hx => ?_); simp only [XReg.ZOp.S, List.mem_cons, List.not_mem_nil, or_false] at hx ⊢; omega) | (intro x hx; simp only [XReg.ZOp.S, List.mem_cons, List.not_mem_nil, or_false] at hx ⊢; omega) | exact Or.inl (by kernel_rfl)))
      apply ZReg.setU (.agg #[.slice (some ⟨bP, oP, none⟩) d.pairs.length p2, .slice b1 d.box.length b2, .slice a1 d.audit.length a2, (.int .i64 d.used), (.int .i64 d.now)])
      case h =>
        intro w' hw' hF'
        have hB := HD8.out.chg hw' (by have := HGD.out; have := HZD.out; simp; omega)
        have e0 : w'.cell? ⟨gD, 0, none⟩ = some (.slice (some ⟨bP, oP, none⟩) d.pairs.length p2) := hB.cell 0
        have e1 : w'.cell? ⟨gD, 1, none⟩ = some (.slice b1 d.box.length b2) := hB.cell 1
        have e2 : w'.cell? ⟨gD, 2, none⟩ = some (.slice a1 d.audit.length a2) := hB.cell 2
        have e3 : w'.cell? ⟨gD, 3, none⟩ = some (.int .i64 d.used) := hB.cell 3
        have e4 : w'.cell? ⟨gD, 4, none⟩ = some (.int .i64 d.now) := hB.cell 4
        have eo := hB.old
        clear hF' hw' hB
        go_wp2_with fail
        exact ⟨rfl, (by repeat (first | exact Ext.refl _ | apply Ext.plus | apply Ext.alloc | apply Ext.drew))⟩
      case hv => kernel_rfl
      intro _
      (apply ZReg.val (.pointer (some ⟨bx, 0, none⟩)); (case h => (intro w'; go_wp2_with (fail); first | exact ⟨rfl, rfl⟩ | exact rfl)); (case hv => kernel_rfl))
      apply ZReg.setU (.agg #[(.int .i64 x1), (.int .i64 x2)])
      case h =>
        intro w' hw' hF'
        have hB := HBX8.out.chg hw' (by simp; omega)
        have e0 : w'.cell? ⟨bx, 0, none⟩ = some (.int .i64 x1) := hB.cell 0
        have e1 : w'.cell? ⟨bx, 1, none⟩ = some (.int .i64 x2) := hB.cell 1
        have eo := hB.old
        clear hF' hw' hB
        go_wp2_with fail
        exact ⟨rfl, (by repeat (first | exact Ext.refl _ | apply Ext.plus | apply Ext.alloc | apply Ext.drew))⟩
      case hv => kernel_rfl
      intro _
      (apply ZReg.val (.pointer (some ⟨bx, 2, none⟩)); (case h => (intro w'; go_wp2_with (fail); first | exact ⟨rfl, rfl⟩ | exact rfl)); (case hv => kernel_rfl))
      apply ZReg.setU (.agg #[(.int .i64 x3), (.int .i64 x4)])
      case h =>
        intro w' hw' hF'
        have hB := HBX8.out.chg hw' (by simp; omega)
        have e0 : w'.cell? ⟨bx, 2, none⟩ = some (.int .i64 x3) := hB.cell 2
        have e1 : w'.cell? ⟨bx, 3, none⟩ = some (.int .i64 x4) := hB.cell 3
        have eo := hB.old
        clear hF' hw' hB
        go_wp2_with fail
        exact ⟨rfl, (by repeat (first | exact Ext.refl _ | apply Ext.plus | apply Ext.alloc | apply Ext.drew))⟩
      case hv => kernel_rfl
      intro _
      refine ZReg.kind (fun w' hw' hF' => ?_) (fun v3 w1 xA hK => ?_)
      · have hsz := hw'.size
        have H9a := Lib.hid (show kArZ w8.heap.size [(.int .i64 (-1)), (.int .i64 1000000), (.int .i64 1000001)] 3 (0, 0) (.slice (some ⟨w'.heap.size, 0, none⟩) 3 3) (w'.alloc (.cells #[(.int .i64 (-1)), (.int .i64 1000000), (.int .i64 1000001)] 2)) from ⟨_, rfl, hsz, Blk.new rfl⟩)
        clear hw' hF' hsz
        go_wp2
        exact ⟨Ext.chg (by repeat (first | exact Ext.refl _ | apply Ext.plus | apply Ext.alloc | apply Ext.drew)) _, H9a.out⟩
      obtain ⟨bA1, rfl, -, -⟩ := hK
      clear w1
      (apply ZReg.val (.pointer (some ⟨g, 0, none⟩)); (case h => (intro w'; go_wp2_with (fail); first | exact ⟨rfl, rfl⟩ | exact rfl)); (case hv => kernel_rfl))
      refine ZReg.kind (fun w' hw' hF' => ?_) (fun v1 w1 xq hK => ?_)
      · have HW' := Lib.hid (HA8.out.side HS.out hw' (by have := HGS.out; simp; omega) (by simp; omega))
        clear hF' hw'
        go_wp2_with fail
        refine (srcN' g 3 _ v l HW'.out H3.out).mono ?_
        rintro e w8 ⟨n, rfl, hb, hc, hs⟩
        have hn : n < 3 := by omega
        have HC8 := Lib.hid hc
        clear hc hs hb
        go_wp2
        exact ⟨HC8.out, _, hn, rfl⟩
      obtain ⟨k1, hk1, rfl⟩ := hK
      clear w1
      refine ZReg.kind (fun w' hw' hF' => ?_) (fun v3 w1 xP hK => ?_)
      · obtain ⟨bB, hbv, hbB, hB⟩ := hF'.get 5 (p := (kArZ w8.heap.size [(.int .i64 (-1)), (.int .i64 1000000), (.int .i64 1000001)] 3 xA, .slice (some ⟨bA1, 0, none⟩) 3 3)) (by kernel_rfl) (by kernel_rfl)
        obtain rfl : bA1 = bB := by simpa using hbv
        have H9a := Lib.hid (show kPtZ w8.heap.size [(.int .i64 (-1)), (.int .i64 1000000), (.int .i64 1000001)] 3 (0, 0) (.pointer (some ⟨bA1, k1, none⟩)) w' from ⟨bA1, k1, rfl, hk1, hbB, hB⟩)
        have hbo := hB.old
        clear hw' hF' hB hbv
        go_wp2
        exact ⟨Ext.chg (by repeat (first | exact Ext.refl _ | apply Ext.plus | apply Ext.alloc | apply Ext.drew)) _, H9a.out⟩
      obtain ⟨bP1, kP1, rfl, hkP1, -, -⟩ := hK
      clear w1
      refine ZReg.kind (fun w' hw' hF' => ?_) (fun v3 w1 xI hK => ?_)
      · obtain ⟨bB, kB, hbv, hkB, hbB, hB⟩ := hF'.get 8 (p := (kPtZ w8.heap.size [(.int .i64 (-1)), (.int .i64 1000000), (.int .i64 1000001)] 3 xP, .pointer (some ⟨bP1, kP1, none⟩))) (by kernel_rfl) (by kernel_rfl)
        obtain ⟨rfl, rfl⟩ : bP1 = bB ∧ kP1 = kB := by simpa using hbv
        obtain ⟨n, hni, hn⟩ : ∃ n : Int, I64 n ∧ ([(.int .i64 (-1)), (.int .i64 1000000), (.int .i64 1000001)] : List Value)[kP1]? = some (.int .i64 n) := by
          have : kP1 = 0 ∨ kP1 = 1 ∨ kP1 = 2 := by omega
          rcases this with h | h | h <;> rw [h] <;> (refine ⟨_, ?_, rfl⟩; unfold I64; omega)
        have hc0 : w'.cell? ⟨bP1, kP1, none⟩ = some (.int .i64 n) := by rw [hB.cell kP1]; exact hn
        have hbo := hB.old
        clear hw' hF' hB hbv hn
        go_wp2
        exact ⟨Ext.chg (by repeat (first | exact Ext.refl _ | apply Ext.plus | apply Ext.alloc | apply Ext.drew)) _, _, hni, rfl⟩
      obtain ⟨n1, hn1, rfl⟩ := hK
      clear w1
      refine ZReg.kind (fun w' hw' hF' => ?_) (fun vD w1 xD hK => ?_)
      · have hB := HR8.out.chg hw' (by have := HGS.out; simp; omega)
        have e0 : w'.cell? ⟨w.heap.size, 0, none⟩ = some (.slice none 0 0) := hB.cell 0
        have e1 : w'.cell? ⟨w.heap.size, 1, none⟩ = some (.slice none 0 0) := hB.cell 1
        have e2 : w'.cell? ⟨w.heap.size, 2, none⟩ = some (.slice none 0 0) := hB.cell 2
        have e3 : w'.cell? ⟨w.heap.size, 3, none⟩ = some (.int .i64 0) := hB.cell 3
        have e4 : w'.cell? ⟨w.heap.size, 4, none⟩ = some (.int .i64 0) := hB.cell 4
        have eo := hB.old
        have ef := hB.fz
        have H9 := Lib.hid (And.intro (set5_chg w' w.heap.size (.slice (some ⟨bP, oP, none⟩) d.pairs.length p2) (.slice b1 d.box.length b2) (.slice a1 d.audit.length a2) (.int .i64 d.used) (.int .i64 d.now)) (hB.set5 (.slice (some ⟨bP, oP, none⟩) d.pairs.length p2) (.slice b1 d.box.length b2) (.slice a1 d.audit.length a2) (.int .i64 d.used) (.int .i64 d.now)))
        clear hF' hw' hB
        go_wp2
        exact ⟨H9.out.1, undef, H9.out.2⟩
      clear hK w1
      refine ZReg.kind (fun w' hw' hF' => ?_) (fun vL w1 xL hK => ?_)
      · have hB := HL8.out.chg hw' (by have := HGS.out; simp; omega)
        have e0 : w'.cell? ⟨w.heap.size + 1, 0, none⟩ = some (.int .i64 0) := hB.cell 0
        have e1 : w'.cell? ⟨w.heap.size + 1, 1, none⟩ = some (.int .i64 0) := hB.cell 1
        have eo := hB.old
        have ef := hB.fz
        have H9 := Lib.hid (show Chg [w.heap.size + 1] w' ((w'.setCell ⟨w.heap.size + 1, 0, none⟩ (.int .i64 x1)).setCell ⟨w.heap.size + 1, 1, none⟩ (.int .i64 x2)) ∧ Blk ((w'.setCell ⟨w.heap.size + 1, 0, none⟩ (.int .i64 x1)).setCell ⟨w.heap.size + 1, 1, none⟩ (.int .i64 x2)) (w.heap.size + 1) [(.int .i64 x1), (.int .i64 x2)] 27 from ⟨set2_chg _ _ _ _, (hB.set 0 _).set 1 _⟩)
        clear hF' hw' hB
        go_wp2
        exact ⟨H9.out.1, undef, H9.out.2⟩
      clear hK w1
      refine ZReg.kind (fun w' hw' hF' => ?_) (fun vM w1 xM hK => ?_)
      · have hB := HM8.out.chg hw' (by have := HGS.out; simp; omega)
        have e0 : w'.cell? ⟨w.heap.size + 1 + 1, 0, none⟩ = some (.int .i64 0) := hB.cell 0
        have e1 : w'.cell? ⟨w.heap.size + 1 + 1, 1, none⟩ = some (.int .i64 0) := hB.cell 1
        have eo := hB.old
        have ef := hB.fz
        have H9 := Lib.hid (show Chg [w.heap.size + 1 + 1] w' ((w'.setCell ⟨w.heap.size + 1 + 1, 0, none⟩ (.int .i64 x3)).setCell ⟨w.heap.size + 1 + 1, 1, none⟩ (.int .i64 x4)) ∧ Blk ((w'.setCell ⟨w.heap.size + 1 + 1, 0, none⟩ (.int .i64 x3)).setCell ⟨w.heap.size + 1 + 1, 1, none⟩ (.int .i64 x4)) (w.heap.size + 1 + 1) [(.int .i64 x3), (.int .i64 x4)] 27 from ⟨set2_chg _ _ _ _, (hB.set 0 _).set 1 _⟩)
        clear hF' hw' hB
        go_wp2
        exact ⟨H9.out.1, undef, H9.out.2⟩
      clear hK w1
      refine ZReg.kind (fun w' hw' hF' => ?_) (fun v2 w1 xz hK => ?_)
      · clear hw' hF'
        go_wp2
        exact ⟨Ext.chg (by repeat (first | exact Ext.refl _ | apply Ext.plus | apply Ext.alloc | apply Ext.drew)) _, n1, hn1, rfl⟩
      obtain ⟨km, hkm, rfl⟩ := hK
      clear w1
      have HQ := Lib.hid hkm
      refine ZReg.done (fun w9 hw9 hF hR => ?_)
      have hD9 : Blk w9 w.heap.size _ 25 := hF 10 (kStZ w.heap.size [.slice (some ⟨bP, oP, none⟩) d.pairs.length p2, .slice b1 d.box.length b2, .slice a1 d.audit.length a2, (.int .i64 d.used), (.int .i64 d.now)] 25 xD, vD) (by kernel_rfl)
      have hL9 : Blk w9 (w.heap.size + 1) _ 27 := hF 11 (kStZ (w.heap.size + 1) [(.int .i64 x1), (.int .i64 x2)] 27 xL, vL) (by kernel_rfl)
      have hM9 : Blk w9 (w.heap.size + 1 + 1) _ 27 := hF 12 (kStZ (w.heap.size + 1 + 1) [(.int .i64 x3), (.int .i64 x4)] 27 xM, vM) (by kernel_rfl)
      have HX9 := Lib.hid (hw9.ext HX8.out (by have := HGS.out; simp; omega))
      have HP9 := Lib.hid (HP8.out.chg hw9 (fun x hx => by have := (HP8.out.blk x hx).1; have := HGW.out; have := HGS.out; simp; omega))
      have HB9 := Lib.hid (HB8.out.chg hw9 (fun x hx => by have := (HB8.out.blk x hx).1; have := HGW.out; have := HGS.out; simp; omega))
      have HU9 := Lib.hid (HU8.out.chg hw9 (fun x hx => by have := (HU8.out.blk x hx).1; have := HGW.out; have := HGS.out; simp; omega))
      clear hF hR hw9 HR8 HL8 HM8 HX8 HA8 HP8 HB8 HU8 HD8 HBX8
      have y0 : w9.cell? ⟨w.heap.size, 0, none⟩ = some (.slice (some ⟨bP, oP, none⟩) d.pairs.length p2) := hD9.cell 0
      have y1 : w9.cell? ⟨w.heap.size, 1, none⟩ = some (.slice b1 d.box.length b2) := hD9.cell 1
      have y2 : w9.cell? ⟨w.heap.size, 2, none⟩ = some (.slice a1 d.audit.length a2) := hD9.cell 2
      have y3 : w9.cell? ⟨w.heap.size, 3, none⟩ = some (.int .i64 d.used) := hD9.cell 3
      have y4 : w9.cell? ⟨w.heap.size, 4, none⟩ = some (.int .i64 d.now) := hD9.cell 4
      have yo := hD9.old
      have z0 : w9.cell? ⟨w.heap.size + 1, 0, none⟩ = some (.int .i64 x1) := hL9.cell 0
      have z1 : w9.cell? ⟨w.heap.size + 1, 1, none⟩ = some (.int .i64 x2) := hL9.cell 1
      have zo := hL9.old
      have u0 : w9.cell? ⟨w.heap.size + 1 + 1, 0, none⟩ = some (.int .i64 x3) := hM9.cell 0
      have u1 : w9.cell? ⟨w.heap.size + 1 + 1, 1, none⟩ = some (.int .i64 x4) := hM9.cell 1
      have uo := hM9.old
      clear hD9 hL9 hM9
      refine ZReg.end_ ?_
      go_wp2
      refine bodyPost_ret (v := .tuple #[(.agg #[.slice (some ⟨bP, oP, none⟩) d.pairs.length p2, .slice b1 d.box.length b2, .slice a1 d.audit.length a2, (.int .i64 d.used), (.int .i64 d.now)]), .agg #[(.int .i64 x1), (.int .i64 x2)], .agg #[(.int .i64 x3), (.int .i64 x4)], (.int .i64 km)]) (by simp [results, Try.results6, go_sem, y0, y1, y2, y3, y4, z0, z1, u0, u1]) rfl ⟨d, _, _, _, ⟨x1, x2⟩, ⟨x3, x4⟩, _, rfl, ?_, HI.out, ⟨HXO.out.1, HXO.out.2.1⟩, ⟨HXO.out.2.2.1, HXO.out.2.2.2⟩, HQ.out, HX9.out⟩
      exact eDesk_of HP9.out HB9.out HU9.out HI.out (by decide)
  · go_wp2_with fail
    refine (srcLabel_any g _ v l HA7.out).mono ?_
    rintro e w8 ⟨⟨z3, z4⟩, rfl, hzo, hc, hs⟩
    have HR8 := Lib.hid (HR7.out.chg hc (by have := HGS.out; simp; omega))
    have HL8 := Lib.hid (HL7.out.chg hc (by have := HGS.out; simp; omega))
    have HM8 := Lib.hid (HM7.out.chg hc (by have := HGS.out; simp; omega))
    have HX8 := Lib.hid (hc.ext HX7.out (by have := HGS.out; simp; omega))
    have HP8 := Lib.hid (HP7.out.chg hc (fun x hx => by have := (HP7.out.blk x hx).1; have := HGW.out; simp; omega))
    have HB8 := Lib.hid (HB7.out.chg hc (fun x hx => by have := (HB7.out.blk x hx).1; have := HGW.out; simp; omega))
    have HU8 := Lib.hid (HU7.out.chg hc (fun x hx => by have := (HU7.out.blk x hx).1; have := HGW.out; simp; omega))
    have HD8 := Lib.hid (HD7.out.chg hc (by have := HGD.out; simp; omega))
    have HBX8 := Lib.hid (HBX7.out.chg hc (by simp; omega))
    have HA8 := Lib.hid hs
    have HXO : Hid (I64 x1 ∧ I64 x2 ∧ I64 z3 ∧ I64 z4) := Lib.hid ⟨HXQ.out.1.1, HXQ.out.1.2, hzo.1, hzo.2⟩
    clear hc hs hzo HR7 HL7 HM7 HX7 HP7 HB7 HU7 HD7 HBX7 HA7 w7
    dsimp only
    have d2 : w8.cell? ⟨bx, 2, none⟩ = some (.int .i64 x3) := HBX8.out.cell 2
    have d3 : w8.cell? ⟨bx, 3, none⟩ = some (.int .i64 x4) := HBX8.out.cell 3
    have do9 := HBX8.out.old
    have df9 := HBX8.out.fz
    go_upto_region 6 with fail
    refine gen_world (fun w7 hW => ?_)
    have hch : Chg [bx] w8 w7 := by rw [hW]; exact ((Chg.refl _ _).setCell (.inl (by simp)) _).setCell (.inl (by simp)) _
    have HBX7 := Lib.hid (show Blk w7 bx [(.int .i64 x1), (.int .i64 x2), (.int .i64 z3), (.int .i64 z4), (.int .i64 x5), (.int .i64 x6)] 75 by rw [hW]; exact (HBX8.out.set 2 _).set 3 _)
    have HR7 := Lib.hid (HR8.out.chg hch (by simp; omega))
    have HL7 := Lib.hid (HL8.out.chg hch (by simp; omega))
    have HM7 := Lib.hid (HM8.out.chg hch (by simp; omega))
    have HX7 := Lib.hid (hch.ext HX8.out (by simp; omega))
    have HP7 := Lib.hid (HP8.out.chg hch (fun x hx => by have := HLT.out.1 x hx; simp; omega))
    have HB7 := Lib.hid (HB8.out.chg hch (fun x hx => by have := HLT.out.2.1 x hx; simp; omega))
    have HU7 := Lib.hid (HU8.out.chg hch (fun x hx => by have := HLT.out.2.2 x hx; simp; omega))
    have HD7 := Lib.hid (HD8.out.chg hch (by simp; omega))
    have HA7 := Lib.hid (HA8.out.chg HA4.out hch (by simp; omega))
    clear hW hch d2 d3 do9 df9 HR8 HL8 HM8 HX8 HP8 HB8 HU8 HD8 HBX8 HA8 w8
    go_wp2_with fail
    refine (srcOne_any g 8 _ v l HA7.out H8.out).mono ?_
    rintro e w8 ⟨bl, rfl, hc, hs⟩
    have HR8 := Lib.hid (HR7.out.chg hc (by have := HGS.out; simp; omega))
    have HL8 := Lib.hid (HL7.out.chg hc (by have := HGS.out; simp; omega))
    have HM8 := Lib.hid (HM7.out.chg hc (by have := HGS.out; simp; omega))
    have HX8 := Lib.hid (hc.ext HX7.out (by have := HGS.out; simp; omega))
    have HP8 := Lib.hid (HP7.out.chg hc (fun x hx => by have := (HP7.out.blk x hx).1; have := HGW.out; simp; omega))
    have HB8 := Lib.hid (HB7.out.chg hc (fun x hx => by have := (HB7.out.blk x hx).1; have := HGW.out; simp; omega))
    have HU8 := Lib.hid (HU7.out.chg hc (fun x hx => by have := (HU7.out.blk x hx).1; have := HGW.out; simp; omega))
    have HD8 := Lib.hid (HD7.out.chg hc (by have := HGD.out; simp; omega))
    have HBX8 := Lib.hid (HBX7.out.chg hc (by simp; omega))
    have HA8 := Lib.hid hs
    clear hc hs HR7 HL7 HM7 HX7 HP7 HB7 HU7 HD7 HBX7 HA7
    have HZD : Hid (w.heap.size + 1 + 1 < gD ∧ w.heap.size + 1 + 1 < bx ∧ bx < w8.heap.size ∧ g < w8.heap.size ∧ w.heap.size + 1 + 1 < w8.heap.size) := Lib.hid (by
      have q1 := HZ4.out
      have q2 := HM8.out.old
      have q3 := HBX8.out.old
      have q4 := HA8.out.old
      unfold World.old at q2 q3 q4
      omega)
    have hzd := HZD.out
    cases bl
    · go_upto_region 8 with fail
      refine wp_region_z [g, w.heap.size, w.heap.size + 1, w.heap.size + 1 + 1] [.A (fun _ u _ => u = (.agg #[.slice (some ⟨bP, oP, none⟩) d.pairs.length p2, .slice b1 d.box.length b2, .slice a1 d.audit.length a2, (.int .i64 d.used), (.int .i64 d.now)])) [] [g, w.heap.size, w.heap.size + 1, w.heap.size + 1 + 1] [g, w.heap.size, w.heap.size + 1, w.heap.size + 1 + 1], .V (.pointer (some ⟨bx, 0, none⟩)), .A (fun _ u _ => u = (.agg #[(.int .i64 x1), (.int .i64 x2)])) [] [g, w.heap.size, w.heap.size + 1, w.heap.size + 1 + 1] [g, w.heap.size, w.heap.size + 1, w.heap.size + 1 + 1], .V (.pointer (some ⟨bx, 2, none⟩)), .A (fun _ u _ => u = (.agg #[(.int .i64 z3), (.int .i64 z4)])) [] [g, w.heap.size, w.heap.size + 1, w.heap.size + 1 + 1] [g, w.heap.size, w.heap.size + 1, w.heap.size + 1 + 1], .V (.pointer (some ⟨g, 0, none⟩)), .A (kLtZ 99) [g] [w.heap.size, w.heap.size + 1, w.heap.size + 1 + 1] [g, w.heap.size, w.heap.size + 1, w.heap.size + 1 + 1], .A (kStZ w.heap.size [.slice (some ⟨bP, oP, none⟩) d.pairs.length p2, .slice b1 d.box.length b2, .slice a1 d.audit.length a2, (.int .i64 d.used), (.int .i64 d.now)] 25) [w.heap.size] [g, w.heap.size + 1, w.heap.size + 1 + 1] [g, w.heap.size + 1, w.heap.size + 1 + 1], .A (kStZ (w.heap.size + 1) [(.int .i64 x1), (.int .i64 x2)] 27) [w.heap.size + 1] [g, w.heap.size, w.heap.size + 1 + 1] [g, w.heap.size, w.heap.size + 1 + 1], .A (kStZ (w.heap.size + 1 + 1) [(.int .i64 z3), (.int .i64 z4)] 27) [w.heap.size + 1 + 1] [g, w.heap.size, w.heap.size + 1] [g, w.heap.size, w.heap.size + 1], .A (kLtZ 99) [] [g, w.heap.size, w.heap.size + 1, w.heap.size + 1 + 1] [g, w.heap.size, w.heap.size + 1, w.heap.size + 1 + 1]] [] (by kernel_rfl) (by kernel_rfl) (by kernel_rfl) (by kernel_rfl) rfl ?_ (by repeat' (first | exact trivial | exact XReg.ZOp.good_is _ _ _ _ | exact XReg.ZOp.good_v _ | exact kLtZ_good (by decide) | exact kStZ_good (by have := HGS.out; simp; omega) | refine And.intro ?_ ?_)) (by repeat' (first | exact trivial | exact XReg.subL_nil _ | exact XReg.subL_refl _ | exact Or.inr (XReg.subL_nil _) | exact Or.inr (XReg.subL_refl _) | refine And.intro ?_ ?_ | (refine Or.inr (fun x hx => ?_); simp only [XReg.ZOp.S, List.mem_cons, List.not_mem_nil, or_false] at hx ⊢; omega) | (intro x hx; simp only [XReg.ZOp.S, List.mem_cons, List.not_mem_nil, or_false] at hx ⊢; omega) | exact Or.inl (by kernel_rfl)))
      apply ZReg.setU (.agg #[.slice (some ⟨bP, oP, none⟩) d.pairs.length p2, .slice b1 d.box.length b2, .slice a1 d.audit.length a2, (.int .i64 d.used), (.int .i64 d.now)])
      case h =>
        intro w' hw' hF'
        have hB := HD8.out.chg hw' (by have := HGD.out; have := HZD.out; simp; omega)
        have e0 : w'.cell? ⟨gD, 0, none⟩ = some (.slice (some ⟨bP, oP, none⟩) d.pairs.length p2) := hB.cell 0
        have e1 : w'.cell? ⟨gD, 1, none⟩ = some (.slice b1 d.box.length b2) := hB.cell 1
        have e2 : w'.cell? ⟨gD, 2, none⟩ = some (.slice a1 d.audit.length a2) := hB.cell 2
        have e3 : w'.cell? ⟨gD, 3, none⟩ = some (.int .i64 d.used) := hB.cell 3
        have e4 : w'.cell? ⟨gD, 4, none⟩ = some (.int .i64 d.now) := hB.cell 4
        have eo := hB.old
        clear hF' hw' hB
        go_wp2_with fail
        exact ⟨rfl, (by repeat (first | exact Ext.refl _ | apply Ext.plus | apply Ext.alloc | apply Ext.drew))⟩
      case hv => kernel_rfl
      intro _
      (apply ZReg.val (.pointer (some ⟨bx, 0, none⟩)); (case h => (intro w'; go_wp2_with (fail); first | exact ⟨rfl, rfl⟩ | exact rfl)); (case hv => kernel_rfl))
      apply ZReg.setU (.agg #[(.int .i64 x1), (.int .i64 x2)])
      case h =>
        intro w' hw' hF'
        have hB := HBX8.out.chg hw' (by simp; omega)
        have e0 : w'.cell? ⟨bx, 0, none⟩ = some (.int .i64 x1) := hB.cell 0
        have e1 : w'.cell? ⟨bx, 1, none⟩ = some (.int .i64 x2) := hB.cell 1
        have eo := hB.old
        clear hF' hw' hB
        go_wp2_with fail
        exact ⟨rfl, (by repeat (first | exact Ext.refl _ | apply Ext.plus | apply Ext.alloc | apply Ext.drew))⟩
      case hv => kernel_rfl
      intro _
      (apply ZReg.val (.pointer (some ⟨bx, 2, none⟩)); (case h => (intro w'; go_wp2_with (fail); first | exact ⟨rfl, rfl⟩ | exact rfl)); (case hv => kernel_rfl))
      apply ZReg.setU (.agg #[(.int .i64 z3), (.int .i64 z4)])
      case h =>
        intro w' hw' hF'
        have hB := HBX8.out.chg hw' (by simp; omega)
        have e0 : w'.cell? ⟨bx, 2, none⟩ = some (.int .i64 z3) := hB.cell 2
        have e1 : w'.cell? ⟨bx, 3, none⟩ = some (.int .i64 z4) := hB.cell 3
        have eo := hB.old
        clear hF' hw' hB
        go_wp2_with fail
        exact ⟨rfl, (by repeat (first | exact Ext.refl _ | apply Ext.plus | apply Ext.alloc | apply Ext.drew))⟩
      case hv => kernel_rfl
      intro _
      (apply ZReg.val (.pointer (some ⟨g, 0, none⟩)); (case h => (intro w'; go_wp2_with (fail); first | exact ⟨rfl, rfl⟩ | exact rfl)); (case hv => kernel_rfl))
      refine ZReg.kind (fun w' hw' hF' => ?_) (fun v1 w1 xq hK => ?_)
      · have HW' := Lib.hid (HA8.out.side HS.out hw' (by have := HGS.out; simp; omega) (by simp; omega))
        clear hF' hw'
        go_wp2_with fail
        refine (srcN' g 99 _ v l HW'.out H99.out).mono ?_
        rintro e w8 ⟨n, rfl, hb, hc, hs⟩
        have hn : n < 99 := by omega
        have HC8 := Lib.hid hc
        clear hc hs hb
        go_wp2
        exact ⟨HC8.out, _, hn, rfl⟩
      obtain ⟨kn, hkn, rfl⟩ := hK
      clear w1
      refine ZReg.kind (fun w' hw' hF' => ?_) (fun vD w1 xD hK => ?_)
      · have hB := HR8.out.chg hw' (by have := HGS.out; simp; omega)
        have e0 : w'.cell? ⟨w.heap.size, 0, none⟩ = some (.slice none 0 0) := hB.cell 0
        have e1 : w'.cell? ⟨w.heap.size, 1, none⟩ = some (.slice none 0 0) := hB.cell 1
        have e2 : w'.cell? ⟨w.heap.size, 2, none⟩ = some (.slice none 0 0) := hB.cell 2
        have e3 : w'.cell? ⟨w.heap.size, 3, none⟩ = some (.int .i64 0) := hB.cell 3
        have e4 : w'.cell? ⟨w.heap.size, 4, none⟩ = some (.int .i64 0) := hB.cell 4
        have eo := hB.old
        have ef := hB.fz
        have H9 := Lib.hid (And.intro (set5_chg w' w.heap.size (.slice (some ⟨bP, oP, none⟩) d.pairs.length p2) (.slice b1 d.box.length b2) (.slice a1 d.audit.length a2) (.int .i64 d.used) (.int .i64 d.now)) (hB.set5 (.slice (some ⟨bP, oP, none⟩) d.pairs.length p2) (.slice b1 d.box.length b2) (.slice a1 d.audit.length a2) (.int .i64 d.used) (.int .i64 d.now)))
        clear hF' hw' hB
        go_wp2
        exact ⟨H9.out.1, undef, H9.out.2⟩
      clear hK w1
      refine ZReg.kind (fun w' hw' hF' => ?_) (fun vL w1 xL hK => ?_)
      · have hB := HL8.out.chg hw' (by have := HGS.out; simp; omega)
        have e0 : w'.cell? ⟨w.heap.size + 1, 0, none⟩ = some (.int .i64 0) := hB.cell 0
        have e1 : w'.cell? ⟨w.heap.size + 1, 1, none⟩ = some (.int .i64 0) := hB.cell 1
        have eo := hB.old
        have ef := hB.fz
        have H9 := Lib.hid (show Chg [w.heap.size + 1] w' ((w'.setCell ⟨w.heap.size + 1, 0, none⟩ (.int .i64 x1)).setCell ⟨w.heap.size + 1, 1, none⟩ (.int .i64 x2)) ∧ Blk ((w'.setCell ⟨w.heap.size + 1, 0, none⟩ (.int .i64 x1)).setCell ⟨w.heap.size + 1, 1, none⟩ (.int .i64 x2)) (w.heap.size + 1) [(.int .i64 x1), (.int .i64 x2)] 27 from ⟨set2_chg _ _ _ _, (hB.set 0 _).set 1 _⟩)
        clear hF' hw' hB
        go_wp2
        exact ⟨H9.out.1, undef, H9.out.2⟩
      clear hK w1
      refine ZReg.kind (fun w' hw' hF' => ?_) (fun vM w1 xM hK => ?_)
      · have hB := HM8.out.chg hw' (by have := HGS.out; simp; omega)
        have e0 : w'.cell? ⟨w.heap.size + 1 + 1, 0, none⟩ = some (.int .i64 0) := hB.cell 0
        have e1 : w'.cell? ⟨w.heap.size + 1 + 1, 1, none⟩ = some (.int .i64 0) := hB.cell 1
        have eo := hB.old
        have ef := hB.fz
        have H9 := Lib.hid (show Chg [w.heap.size + 1 + 1] w' ((w'.setCell ⟨w.heap.size + 1 + 1, 0, none⟩ (.int .i64 z3)).setCell ⟨w.heap.size + 1 + 1, 1, none⟩ (.int .i64 z4)) ∧ Blk ((w'.setCell ⟨w.heap.size + 1 + 1, 0, none⟩ (.int .i64 z3)).setCell ⟨w.heap.size + 1 + 1, 1, none⟩ (.int .i64 z4)) (w.heap.size + 1 + 1) [(.int .i64 z3), (.int .i64 z4)] 27 from ⟨set2_chg _ _ _ _, (hB.set 0 _).set 1 _⟩)
        clear hF' hw' hB
        go_wp2
        exact ⟨H9.out.1, undef, H9.out.2⟩
      clear hK w1
      refine ZReg.kind (fun w' hw' hF' => ?_) (fun v2 w1 xz hK => ?_)
      · clear hF' hw'
        go_wp2
        exact ⟨Ext.chg (by repeat (first | exact Ext.refl _ | apply Ext.plus | apply Ext.alloc | apply Ext.drew)) _, kn, hkn, rfl⟩
      obtain ⟨km, hkm, rfl⟩ := hK
      clear w1
      have HQ : Hid (I64 (km : Int)) := Lib.hid (by unfold I64; omega)
      refine ZReg.done (fun w9 hw9 hF hR => ?_)
      have hD9 : Blk w9 w.heap.size _ 25 := hF 7 (kStZ w.heap.size [.slice (some ⟨bP, oP, none⟩) d.pairs.length p2, .slice b1 d.box.length b2, .slice a1 d.audit.length a2, (.int .i64 d.used), (.int .i64 d.now)] 25 xD, vD) (by kernel_rfl)
      have hL9 : Blk w9 (w.heap.size + 1) _ 27 := hF 8 (kStZ (w.heap.size + 1) [(.int .i64 x1), (.int .i64 x2)] 27 xL, vL) (by kernel_rfl)
      have hM9 : Blk w9 (w.heap.size + 1 + 1) _ 27 := hF 9 (kStZ (w.heap.size + 1 + 1) [(.int .i64 z3), (.int .i64 z4)] 27 xM, vM) (by kernel_rfl)
      have HX9 := Lib.hid (hw9.ext HX8.out (by have := HGS.out; simp; omega))
      have HP9 := Lib.hid (HP8.out.chg hw9 (fun x hx => by have := (HP8.out.blk x hx).1; have := HGW.out; have := HGS.out; simp; omega))
      have HB9 := Lib.hid (HB8.out.chg hw9 (fun x hx => by have := (HB8.out.blk x hx).1; have := HGW.out; have := HGS.out; simp; omega))
      have HU9 := Lib.hid (HU8.out.chg hw9 (fun x hx => by have := (HU8.out.blk x hx).1; have := HGW.out; have := HGS.out; simp; omega))
      clear hF hR hw9 HR8 HL8 HM8 HX8 HA8 HP8 HB8 HU8 HD8 HBX8
      have y0 : w9.cell? ⟨w.heap.size, 0, none⟩ = some (.slice (some ⟨bP, oP, none⟩) d.pairs.length p2) := hD9.cell 0
      have y1 : w9.cell? ⟨w.heap.size, 1, none⟩ = some (.slice b1 d.box.length b2) := hD9.cell 1
      have y2 : w9.cell? ⟨w.heap.size, 2, none⟩ = some (.slice a1 d.audit.length a2) := hD9.cell 2
      have y3 : w9.cell? ⟨w.heap.size, 3, none⟩ = some (.int .i64 d.used) := hD9.cell 3
      have y4 : w9.cell? ⟨w.heap.size, 4, none⟩ = some (.int .i64 d.now) := hD9.cell 4
      have yo := hD9.old
      have z0 : w9.cell? ⟨w.heap.size + 1, 0, none⟩ = some (.int .i64 x1) := hL9.cell 0
      have z1 : w9.cell? ⟨w.heap.size + 1, 1, none⟩ = some (.int .i64 x2) := hL9.cell 1
      have zo := hL9.old
      have u0 : w9.cell? ⟨w.heap.size + 1 + 1, 0, none⟩ = some (.int .i64 z3) := hM9.cell 0
      have u1 : w9.cell? ⟨w.heap.size + 1 + 1, 1, none⟩ = some (.int .i64 z4) := hM9.cell 1
      have uo := hM9.old
      clear hD9 hL9 hM9
      refine ZReg.end_ ?_
      go_wp2
      refine bodyPost_ret (v := .tuple #[(.agg #[.slice (some ⟨bP, oP, none⟩) d.pairs.length p2, .slice b1 d.box.length b2, .slice a1 d.audit.length a2, (.int .i64 d.used), (.int .i64 d.now)]), .agg #[(.int .i64 x1), (.int .i64 x2)], .agg #[(.int .i64 z3), (.int .i64 z4)], (.int .i64 (km : Int))]) (by simp [results, Try.results6, go_sem, y0, y1, y2, y3, y4, z0, z1, u0, u1]) rfl ⟨d, _, _, _, ⟨x1, x2⟩, ⟨z3, z4⟩, _, rfl, ?_, HI.out, ⟨HXO.out.1, HXO.out.2.1⟩, ⟨HXO.out.2.2.1, HXO.out.2.2.2⟩, HQ.out, HX9.out⟩
      exact eDesk_of HP9.out HB9.out HU9.out HI.out (by decide)
    · go_upto_region 7 with fail
      refine wp_region_z [g, w.heap.size, w.heap.size + 1, w.heap.size + 1 + 1] [.A (fun _ u _ => u = (.agg #[.slice (some ⟨bP, oP, none⟩) d.pairs.length p2, .slice b1 d.box.length b2, .slice a1 d.audit.length a2, (.int .i64 d.used), (.int .i64 d.now)])) [] [g, w.heap.size, w.heap.size + 1, w.heap.size + 1 + 1] [g, w.heap.size, w.heap.size + 1, w.heap.size + 1 + 1], .V (.pointer (some ⟨bx, 0, none⟩)), .A (fun _ u _ => u = (.agg #[(.int .i64 x1), (.int .i64 x2)])) [] [g, w.heap.size, w.heap.size + 1, w.heap.size + 1 + 1] [g, w.heap.size, w.heap.size + 1, w.heap.size + 1 + 1], .V (.pointer (some ⟨bx, 2, none⟩)), .A (fun _ u _ => u = (.agg #[(.int .i64 z3), (.int .i64 z4)])) [] [g, w.heap.size, w.heap.size + 1, w.heap.size + 1 + 1] [g, w.heap.size, w.heap.size + 1, w.heap.size + 1 + 1], .A (kArZ w8.heap.size [(.int .i64 (-1)), (.int .i64 1000000), (.int .i64 1000001)] 3) [] [g, w.heap.size, w.heap.size + 1, w.heap.size + 1 + 1] [g, w.heap.size, w.heap.size + 1, w.heap.size + 1 + 1], .V (.pointer (some ⟨g, 0, none⟩)), .A (kLtZ 3) [g] [w.heap.size, w.heap.size + 1, w.heap.size + 1 + 1] [g, w.heap.size, w.heap.size + 1, w.heap.size + 1 + 1], .A (kPtZ w8.heap.size [(.int .i64 (-1)), (.int .i64 1000000), (.int .i64 1000001)] 3) [] [g, w.heap.size, w.heap.size + 1, w.heap.size + 1 + 1] [g, w.heap.size, w.heap.size + 1, w.heap.size + 1 + 1], .A kIZ [] [g, w.heap.size, w.heap.size + 1, w.heap.size + 1 + 1] [g, w.heap.size, w.heap.size + 1, w.heap.size + 1 + 1], .A (kStZ w.heap.size [.slice (some ⟨bP, oP, none⟩) d.pairs.length p2, .slice b1 d.box.length b2, .slice a1 d.audit.length a2, (.int .i64 d.used), (.int .i64 d.now)] 25) [w.heap.size] [g, w.heap.size + 1, w.heap.size + 1 + 1] [g, w.heap.size + 1, w.heap.size + 1 + 1], .A (kStZ (w.heap.size + 1) [(.int .i64 x1), (.int .i64 x2)] 27) [w.heap.size + 1] [g, w.heap.size, w.heap.size + 1 + 1] [g, w.heap.size, w.heap.size + 1 + 1], .A (kStZ (w.heap.size + 1 + 1) [(.int .i64 z3), (.int .i64 z4)] 27) [w.heap.size + 1 + 1] [g, w.heap.size, w.heap.size + 1] [g, w.heap.size, w.heap.size + 1], .A kIZ [] [g, w.heap.size, w.heap.size + 1, w.heap.size + 1 + 1] [g, w.heap.size, w.heap.size + 1, w.heap.size + 1 + 1]] [] (by kernel_rfl) (by kernel_rfl) (by kernel_rfl) (by kernel_rfl) rfl ?_ (by repeat' (first | exact trivial | exact XReg.ZOp.good_is _ _ _ _ | exact XReg.ZOp.good_v _ | exact kLtZ_good (by decide) | exact kIZ_good | exact kArZ_good (by simp; omega) | exact kPtZ_good (by decide) (by simp; omega) | exact kStZ_good (by have := HGS.out; simp; omega) | refine And.intro ?_ ?_)) (by repeat' (first | exact trivial | exact XReg.subL_nil _ | exact XReg.subL_refl _ | exact Or.inr (XReg.subL_nil _) | exact Or.inr (XReg.subL_refl _) | refine And.intro ?_ ?_ | (refine Or.inr (fun x hx => ?_); simp only [XReg.ZOp.S, List.mem_cons, List.not_mem_nil, or_false] at hx ⊢; omega) | (intro x hx; simp only [XReg.ZOp.S, List.mem_cons, List.not_mem_nil, or_false] at hx ⊢; omega) | exact Or.inl (by kernel_rfl)))
      apply ZReg.setU (.agg #[.slice (some ⟨bP, oP, none⟩) d.pairs.length p2, .slice b1 d.box.length b2, .slice a1 d.audit.length a2, (.int .i64 d.used), (.int .i64 d.now)])
      case h =>
        intro w' hw' hF'
        have hB := HD8.out.chg hw' (by have := HGD.out; have := HZD.out; simp; omega)
        have e0 : w'.cell? ⟨gD, 0, none⟩ = some (.slice (some ⟨bP, oP, none⟩) d.pairs.length p2) := hB.cell 0
        have e1 : w'.cell? ⟨gD, 1, none⟩ = some (.slice b1 d.box.length b2) := hB.cell 1
        have e2 : w'.cell? ⟨gD, 2, none⟩ = some (.slice a1 d.audit.length a2) := hB.cell 2
        have e3 : w'.cell? ⟨gD, 3, none⟩ = some (.int .i64 d.used) := hB.cell 3
        have e4 : w'.cell? ⟨gD, 4, none⟩ = some (.int .i64 d.now) := hB.cell 4
        have eo := hB.old
        clear hF' hw' hB
        go_wp2_with fail
        exact ⟨rfl, (by repeat (first | exact Ext.refl _ | apply Ext.plus | apply Ext.alloc | apply Ext.drew))⟩
      case hv => kernel_rfl
      intro _
      (apply ZReg.val (.pointer (some ⟨bx, 0, none⟩)); (case h => (intro w'; go_wp2_with (fail); first | exact ⟨rfl, rfl⟩ | exact rfl)); (case hv => kernel_rfl))
      apply ZReg.setU (.agg #[(.int .i64 x1), (.int .i64 x2)])
      case h =>
        intro w' hw' hF'
        have hB := HBX8.out.chg hw' (by simp; omega)
        have e0 : w'.cell? ⟨bx, 0, none⟩ = some (.int .i64 x1) := hB.cell 0
        have e1 : w'.cell? ⟨bx, 1, none⟩ = some (.int .i64 x2) := hB.cell 1
        have eo := hB.old
        clear hF' hw' hB
        go_wp2_with fail
        exact ⟨rfl, (by repeat (first | exact Ext.refl _ | apply Ext.plus | apply Ext.alloc | apply Ext.drew))⟩
      case hv => kernel_rfl
      intro _
      (apply ZReg.val (.pointer (some ⟨bx, 2, none⟩)); (case h => (intro w'; go_wp2_with (fail); first | exact ⟨rfl, rfl⟩ | exact rfl)); (case hv => kernel_rfl))
      apply ZReg.setU (.agg #[(.int .i64 z3), (.int .i64 z4)])
      case h =>
        intro w' hw' hF'
        have hB := HBX8.out.chg hw' (by simp; omega)
        have e0 : w'.cell? ⟨bx, 2, none⟩ = some (.int .i64 z3) := hB.cell 2
        have e1 : w'.cell? ⟨bx, 3, none⟩ = some (.int .i64 z4) := hB.cell 3
        have eo := hB.old
        clear hF' hw' hB
        go_wp2_with fail
        exact ⟨rfl, (by repeat (first | exact Ext.refl _ | apply Ext.plus | apply Ext.alloc | apply Ext.drew))⟩
      case hv => kernel_rfl
      intro _
      refine ZReg.kind (fun w' hw' hF' => ?_) (fun v3 w1 xA hK => ?_)
      · have hsz := hw'.size
        have H9a := Lib.hid (show kArZ w8.heap.size [(.int .i64 (-1)), (.int .i64 1000000), (.int .i64 1000001)] 3 (0, 0) (.slice (some ⟨w'.heap.size, 0, none⟩) 3 3) (w'.alloc (.cells #[(.int .i64 (-1)), (.int .i64 1000000), (.int .i64 1000001)] 2)) from ⟨_, rfl, hsz, Blk.new rfl⟩)
        clear hw' hF' hsz
        go_wp2
        exact ⟨Ext.chg (by repeat (first | exact Ext.refl _ | apply Ext.plus | apply Ext.alloc | apply Ext.drew)) _, H9a.out⟩
      obtain ⟨bA1, rfl, -, -⟩ := hK
      clear w1
      (apply ZReg.val (.pointer (some ⟨g, 0, none⟩)); (case h => (intro w'; go_wp2_with (fail); first | exact ⟨rfl, rfl⟩ | exact rfl)); (case hv => kernel_rfl))
      refine ZReg.kind (fun w' hw' hF' => ?_) (fun v1 w1 xq hK => ?_)
      · have HW' := Lib.hid (HA8.out.side HS.out hw' (by have := HGS.out; simp; omega) (by simp; omega))
        clear hF' hw'
        go_wp2_with fail
        refine (srcN' g 3 _ v l HW'.out H3.out).mono ?_
        rintro e w8 ⟨n, rfl, hb, hc, hs⟩
        have hn : n < 3 := by omega
        have HC8 := Lib.hid hc
        clear hc hs hb
        go_wp2
        exact ⟨HC8.out, _, hn, rfl⟩
      obtain ⟨k1, hk1, rfl⟩ := hK
      clear w1
      refine ZReg.kind (fun w' hw' hF' => ?_) (fun v3 w1 xP hK => ?_)
      · obtain ⟨bB, hbv, hbB, hB⟩ := hF'.get 5 (p := (kArZ w8.heap.size [(.int .i64 (-1)), (.int .i64 1000000), (.int .i64 1000001)] 3 xA, .slice (some ⟨bA1, 0, none⟩) 3 3)) (by kernel_rfl) (by kernel_rfl)
        obtain rfl : bA1 = bB := by simpa using hbv
        have H9a := Lib.hid (show kPtZ w8.heap.size [(.int .i64 (-1)), (.int .i64 1000000), (.int .i64 1000001)] 3 (0, 0) (.pointer (some ⟨bA1, k1, none⟩)) w' from ⟨bA1, k1, rfl, hk1, hbB, hB⟩)
        have hbo := hB.old
        clear hw' hF' hB hbv
        go_wp2
        exact ⟨Ext.chg (by repeat (first | exact Ext.refl _ | apply Ext.plus | apply Ext.alloc | apply Ext.drew)) _, H9a.out⟩
      obtain ⟨bP1, kP1, rfl, hkP1, -, -⟩ := hK
      clear w1
      refine ZReg.kind (fun w' hw' hF' => ?_) (fun v3 w1 xI hK => ?_)
      · obtain ⟨bB, kB, hbv, hkB, hbB, hB⟩ := hF'.get 8 (p := (kPtZ w8.heap.size [(.int .i64 (-1)), (.int .i64 1000000), (.int .i64 1000001)] 3 xP, .pointer (some ⟨bP1, kP1, none⟩))) (by kernel_rfl) (by kernel_rfl)
        obtain ⟨rfl, rfl⟩ : bP1 = bB ∧ kP1 = kB := by simpa using hbv
        obtain ⟨n, hni, hn⟩ : ∃ n : Int, I64 n ∧ ([(.int .i64 (-1)), (.int .i64 1000000), (.int .i64 1000001)] : List Value)[kP1]? = some (.int .i64 n) := by
          have : kP1 = 0 ∨ kP1 = 1 ∨ kP1 = 2 := by omega
          rcases this with h | h | h <;> rw [h] <;> (refine ⟨_, ?_, rfl⟩; unfold I64; omega)
        have hc0 : w'.cell? ⟨bP1, kP1, none⟩ = some (.int .i64 n) := by rw [hB.cell kP1]; exact hn
        have hbo := hB.old
        clear hw' hF' hB hbv hn
        go_wp2
        exact ⟨Ext.chg (by repeat (first | exact Ext.refl _ | apply Ext.plus | apply Ext.alloc | apply Ext.drew)) _, _, hni, rfl⟩
      obtain ⟨n1, hn1, rfl⟩ := hK
      clear w1
      refine ZReg.kind (fun w' hw' hF' => ?_) (fun vD w1 xD hK => ?_)
      · have hB := HR8.out.chg hw' (by have := HGS.out; simp; omega)
        have e0 : w'.cell? ⟨w.heap.size, 0, none⟩ = some (.slice none 0 0) := hB.cell 0
        have e1 : w'.cell? ⟨w.heap.size, 1, none⟩ = some (.slice none 0 0) := hB.cell 1
        have e2 : w'.cell? ⟨w.heap.size, 2, none⟩ = some (.slice none 0 0) := hB.cell 2
        have e3 : w'.cell? ⟨w.heap.size, 3, none⟩ = some (.int .i64 0) := hB.cell 3
        have e4 : w'.cell? ⟨w.heap.size, 4, none⟩ = some (.int .i64 0) := hB.cell 4
        have eo := hB.old
        have ef := hB.fz
        have H9 := Lib.hid (And.intro (set5_chg w' w.heap.size (.slice (some ⟨bP, oP, none⟩) d.pairs.length p2) (.slice b1 d.box.length b2) (.slice a1 d.audit.length a2) (.int .i64 d.used) (.int .i64 d.now)) (hB.set5 (.slice (some ⟨bP, oP, none⟩) d.pairs.length p2) (.slice b1 d.box.length b2) (.slice a1 d.audit.length a2) (.int .i64 d.used) (.int .i64 d.now)))
        clear hF' hw' hB
        go_wp2
        exact ⟨H9.out.1, undef, H9.out.2⟩
      clear hK w1
      refine ZReg.kind (fun w' hw' hF' => ?_) (fun vL w1 xL hK => ?_)
      · have hB := HL8.out.chg hw' (by have := HGS.out; simp; omega)
        have e0 : w'.cell? ⟨w.heap.size + 1, 0, none⟩ = some (.int .i64 0) := hB.cell 0
        have e1 : w'.cell? ⟨w.heap.size + 1, 1, none⟩ = some (.int .i64 0) := hB.cell 1
        have eo := hB.old
        have ef := hB.fz
        have H9 := Lib.hid (show Chg [w.heap.size + 1] w' ((w'.setCell ⟨w.heap.size + 1, 0, none⟩ (.int .i64 x1)).setCell ⟨w.heap.size + 1, 1, none⟩ (.int .i64 x2)) ∧ Blk ((w'.setCell ⟨w.heap.size + 1, 0, none⟩ (.int .i64 x1)).setCell ⟨w.heap.size + 1, 1, none⟩ (.int .i64 x2)) (w.heap.size + 1) [(.int .i64 x1), (.int .i64 x2)] 27 from ⟨set2_chg _ _ _ _, (hB.set 0 _).set 1 _⟩)
        clear hF' hw' hB
        go_wp2
        exact ⟨H9.out.1, undef, H9.out.2⟩
      clear hK w1
      refine ZReg.kind (fun w' hw' hF' => ?_) (fun vM w1 xM hK => ?_)
      · have hB := HM8.out.chg hw' (by have := HGS.out; simp; omega)
        have e0 : w'.cell? ⟨w.heap.size + 1 + 1, 0, none⟩ = some (.int .i64 0) := hB.cell 0
        have e1 : w'.cell? ⟨w.heap.size + 1 + 1, 1, none⟩ = some (.int .i64 0) := hB.cell 1
        have eo := hB.old
        have ef := hB.fz
        have H9 := Lib.hid (show Chg [w.heap.size + 1 + 1] w' ((w'.setCell ⟨w.heap.size + 1 + 1, 0, none⟩ (.int .i64 z3)).setCell ⟨w.heap.size + 1 + 1, 1, none⟩ (.int .i64 z4)) ∧ Blk ((w'.setCell ⟨w.heap.size + 1 + 1, 0, none⟩ (.int .i64 z3)).setCell ⟨w.heap.size + 1 + 1, 1, none⟩ (.int .i64 z4)) (w.heap.size + 1 + 1) [(.int .i64 z3), (.int .i64 z4)] 27 from ⟨set2_chg _ _ _ _, (hB.set 0 _).set 1 _⟩)
        clear hF' hw' hB
        go_wp2
        exact ⟨H9.out.1, undef, H9.out.2⟩
      clear hK w1
      refine ZReg.kind (fun w' hw' hF' => ?_) (fun v2 w1 xz hK => ?_)
      · clear hw' hF'
        go_wp2
        exact ⟨Ext.chg (by repeat (first | exact Ext.refl _ | apply Ext.plus | apply Ext.alloc | apply Ext.drew)) _, n1, hn1, rfl⟩
      obtain ⟨km, hkm, rfl⟩ := hK
      clear w1
      have HQ := Lib.hid hkm
      refine ZReg.done (fun w9 hw9 hF hR => ?_)
      have hD9 : Blk w9 w.heap.size _ 25 := hF 10 (kStZ w.heap.size [.slice (some ⟨bP, oP, none⟩) d.pairs.length p2, .slice b1 d.box.length b2, .slice a1 d.audit.length a2, (.int .i64 d.used), (.int .i64 d.now)] 25 xD, vD) (by kernel_rfl)
      have hL9 : Blk w9 (w.heap.size + 1) _ 27 := hF 11 (kStZ (w.heap.size + 1) [(.int .i64 x1), (.int .i64 x2)] 27 xL, vL) (by kernel_rfl)
      have hM9 : Blk w9 (w.heap.size + 1 + 1) _ 27 := hF 12 (kStZ (w.heap.size + 1 + 1) [(.int .i64 z3), (.int .i64 z4)] 27 xM, vM) (by kernel_rfl)
      have HX9 := Lib.hid (hw9.ext HX8.out (by have := HGS.out; simp; omega))
      have HP9 := Lib.hid (HP8.out.chg hw9 (fun x hx => by have := (HP8.out.blk x hx).1; have := HGW.out; have := HGS.out; simp; omega))
      have HB9 := Lib.hid (HB8.out.chg hw9 (fun x hx => by have := (HB8.out.blk x hx).1; have := HGW.out; have := HGS.out; simp; omega))
      have HU9 := Lib.hid (HU8.out.chg hw9 (fun x hx => by have := (HU8.out.blk x hx).1; have := HGW.out; have := HGS.out; simp; omega))
      clear hF hR hw9 HR8 HL8 HM8 HX8 HA8 HP8 HB8 HU8 HD8 HBX8
      have y0 : w9.cell? ⟨w.heap.size, 0, none⟩ = some (.slice (some ⟨bP, oP, none⟩) d.pairs.length p2) := hD9.cell 0
      have y1 : w9.cell? ⟨w.heap.size, 1, none⟩ = some (.slice b1 d.box.length b2) := hD9.cell 1
      have y2 : w9.cell? ⟨w.heap.size, 2, none⟩ = some (.slice a1 d.audit.length a2) := hD9.cell 2
      have y3 : w9.cell? ⟨w.heap.size, 3, none⟩ = some (.int .i64 d.used) := hD9.cell 3
      have y4 : w9.cell? ⟨w.heap.size, 4, none⟩ = some (.int .i64 d.now) := hD9.cell 4
      have yo := hD9.old
      have z0 : w9.cell? ⟨w.heap.size + 1, 0, none⟩ = some (.int .i64 x1) := hL9.cell 0
      have z1 : w9.cell? ⟨w.heap.size + 1, 1, none⟩ = some (.int .i64 x2) := hL9.cell 1
      have zo := hL9.old
      have u0 : w9.cell? ⟨w.heap.size + 1 + 1, 0, none⟩ = some (.int .i64 z3) := hM9.cell 0
      have u1 : w9.cell? ⟨w.heap.size + 1 + 1, 1, none⟩ = some (.int .i64 z4) := hM9.cell 1
      have uo := hM9.old
      clear hD9 hL9 hM9
      refine ZReg.end_ ?_
      go_wp2
      refine bodyPost_ret (v := .tuple #[(.agg #[.slice (some ⟨bP, oP, none⟩) d.pairs.length p2, .slice b1 d.box.length b2, .slice a1 d.audit.length a2, (.int .i64 d.used), (.int .i64 d.now)]), .agg #[(.int .i64 x1), (.int .i64 x2)], .agg #[(.int .i64 z3), (.int .i64 z4)], (.int .i64 km)]) (by simp [results, Try.results6, go_sem, y0, y1, y2, y3, y4, z0, z1, u0, u1]) rfl ⟨d, _, _, _, ⟨x1, x2⟩, ⟨z3, z4⟩, _, rfl, ?_, HI.out, ⟨HXO.out.1, HXO.out.2.1⟩, ⟨HXO.out.2.2.1, HXO.out.2.2.2⟩, HQ.out, HX9.out⟩
      exact eDesk_of HP9.out HB9.out HU9.out HI.out (by decide)
end Go.Proofs.Ytocadhcggkbimaa

set_option maxRecDepth 100000
set_option linter.unusedVariables false
namespace Go.Proofs.Ytocadhcggkbimaa
open Go.RowKit Go.Fin1
theorem letR_zero {d : Dk} {a b : Lab} {q : Int} (hc : (letR d a b q).2 = 0) : (letR d a b q).1 = letD d a b q ∧ boxR (letD d a b q) = true ∧ (∃ l, readsD (letD d a b q) b = l ++ [q]) ∧ d.used + 1 ≤ 2 := by
  cases h1 : (boxR d && isIn q 0 1000000)
  · rw [letR_form h1] at hc; simp at hc
  cases h2 : hasT d.pairs ⟨a, b, 0, 0⟩
  · rw [letR_lab h1 h2] at hc; simp at hc
  by_cases h3 : d.used = 2
  · rw [letR_rate h1 h2 h3] at hc; simp at hc
  by_cases h4 : d.box.length = 6 ∨ d.audit.length = 20
  · rw [letR_full h1 h2 h3 h4] at hc; simp at hc
  rw [letR_yes h1 h2 h3 h4]
  rw [Bool.and_eq_true] at h1
  have hbd := boxR_bd h1.1
  exact ⟨rfl, boxR_let h1.1 h1.2 h2 h3 h4, reads_let h1.1 h1.2 h2 h3 h4, by omega⟩
theorem nextR_zero {d : Dk} (hc : (nextR d).2 = 0) : (nextR d).1 = nextD d ∧ boxR (nextD d) = true := by
  cases h1 : boxR d
  · rw [nextR_no h1] at hc; simp at hc
  by_cases h2 : d.now = 999900
  · rw [nextR_full h1 h2] at hc; simp at hc
  rw [nextR_yes h1 h2]
  exact ⟨rfl, boxR_next h1 h2⟩
/-- Two boxes of a desk under way. -/
structure BxI (W0 : World) (S : List (Option Value)) (z c1 c2 : List Value) (L : Nat → Bool) (vs : Nat → Value) (w : World) : Prop where
  e : Ext W0 w
  s : ∀ k v, S[k]? = some (some v) → L k = true → vs k = v
  j : L 4 = true → ∃ g, vs 4 = .pointer (some ⟨g, 0, none⟩) ∧ W0.heap.size ≤ g ∧ Blk w g (if L 6 = true then c1 else z) 25
  k : L 5 = true → ∃ g, vs 5 = .pointer (some ⟨g, 0, none⟩) ∧ W0.heap.size ≤ g ∧ Blk w g (if L 7 = true then c2 else z) 25
  ne : L 4 = true → L 5 = true → vs 4 ≠ vs 5
  u6 : L 6 = true → L 4 = true
  u7 : L 7 = true → L 5 = true
theorem BxI.start {W0 W : World} {S : List (Option Value)} {z c1 c2 : List Value} {vs : Nat → Value} (h : Ext W0 W) : BxI W0 S z c1 c2 (fun _ => false) vs W :=
  ⟨h, fun _ _ _ h => (by cases h), fun h => (by cases h), fun h => (by cases h), fun h => (by cases h), fun h => (by cases h), fun h => (by cases h)⟩
theorem BxI.put {W0 w : World} {S : List (Option Value)} {z c1 c2 : List Value} {L : Nat → Bool} {vs : Nat → Value} (h : BxI W0 S z c1 c2 L vs w) (k : Nat) (v : Value) (hs : ∀ u, S[k]? = some (some u) → u = v) : ∀ j u, S[j]? = some (some u) → updB L k j = true → updV vs k v j = u := fun j u hq hL => by
  unfold updB at hL
  unfold updV
  by_cases e : j = k
  · rw [if_pos e]; subst e; exact (hs u hq).symm
  · rw [if_neg e] at hL ⊢; exact h.s j u hq hL
theorem BxI.set {W0 w w' : World} {S : List (Option Value)} {z c1 c2 : List Value} {L : Nat → Bool} {vs : Nat → Value} (h : BxI W0 S z c1 c2 L vs w) (k : Nat) (v : Value) (hx : Ext w w') (hk : k < 4) (hs : ∀ u, S[k]? = some (some u) → u = v) : BxI W0 S z c1 c2 (updB L k) (updV vs k v) w' := by
  have e4 : updV vs k v 4 = vs 4 := by unfold updV; rw [if_neg (by omega)]
  have e5 : updV vs k v 5 = vs 5 := by unfold updV; rw [if_neg (by omega)]
  have b4 : updB L k 4 = L 4 := by unfold updB; rw [if_neg (by omega)]
  have b5 : updB L k 5 = L 5 := by unfold updB; rw [if_neg (by omega)]
  have b6 : updB L k 6 = L 6 := by unfold updB; rw [if_neg (by omega)]
  have b7 : updB L k 7 = L 7 := by unfold updB; rw [if_neg (by omega)]
  refine ⟨h.e.trans hx, h.put k v hs, ?_, ?_, ?_, ?_, ?_⟩
  · rw [b4, b6, e4]; intro q; obtain ⟨g, h1, h2, h3⟩ := h.j q; exact ⟨g, h1, h2, h3.ext hx⟩
  · rw [b5, b7, e5]; intro q; obtain ⟨g, h1, h2, h3⟩ := h.k q; exact ⟨g, h1, h2, h3.ext hx⟩
  · rw [b4, b5, e4, e5]; exact h.ne
  · rw [b6, b4]; exact h.u6
  · rw [b7, b5]; exact h.u7
theorem BxI.mk4 {W0 w : World} {S : List (Option Value)} {z c1 c2 : List Value} {L : Nat → Bool} {vs : Nat → Value} (h : BxI W0 S z c1 c2 L vs w) (hl : L 4 = false) (hs : S[4]? = some none) : BxI W0 S z c1 c2 (updB L 4) (updV vs 4 (.pointer (some ⟨w.heap.size, 0, none⟩))) (w.alloc (.cells z.toArray 25)) := by
  have hx : Ext w (w.alloc (.cells z.toArray 25)) := (Ext.refl _).alloc _
  have e4 : updV vs 4 (.pointer (some ⟨w.heap.size, 0, none⟩)) 4 = .pointer (some ⟨w.heap.size, 0, none⟩) := by unfold updV; rw [if_pos rfl]
  have e5 : updV vs 4 (.pointer (some ⟨w.heap.size, 0, none⟩)) 5 = vs 5 := by unfold updV; rw [if_neg (by decide)]
  have b5 : updB L 4 5 = L 5 := by unfold updB; rw [if_neg (by decide)]
  have b6 : updB L 4 6 = L 6 := by unfold updB; rw [if_neg (by decide)]
  have b7 : updB L 4 7 = L 7 := by unfold updB; rw [if_neg (by decide)]
  have l6 : L 6 = false := by
    cases q : L 6
    · rfl
    · rw [h.u6 q] at hl; cases hl
  refine ⟨h.e.trans hx, h.put 4 _ (fun u hu => by rw [hs] at hu; cases hu), fun _ => ?_, ?_, ?_, ?_, ?_⟩
  · rw [e4, b6, l6]
    exact ⟨_, rfl, h.e.below.size, Blk.new rfl⟩
  · rw [b5, b7, e5]; intro q; obtain ⟨g, h1, h2, h3⟩ := h.k q; exact ⟨g, h1, h2, h3.ext hx⟩
  · rw [b5, e4, e5]; intro _ q he
    obtain ⟨g, h1, h2, h3⟩ := h.k q
    have := h3.old
    rw [h1] at he
    simp at he
    unfold World.old at this; omega
  · rw [b6, l6]; intro q; cases q
  · rw [b7, b5]; exact h.u7
theorem BxI.mk5 {W0 w : World} {S : List (Option Value)} {z c1 c2 : List Value} {L : Nat → Bool} {vs : Nat → Value} (h : BxI W0 S z c1 c2 L vs w) (hl : L 5 = false) (hs : S[5]? = some none) : BxI W0 S z c1 c2 (updB L 5) (updV vs 5 (.pointer (some ⟨w.heap.size, 0, none⟩))) (w.alloc (.cells z.toArray 25)) := by
  have hx : Ext w (w.alloc (.cells z.toArray 25)) := (Ext.refl _).alloc _
  have e5 : updV vs 5 (.pointer (some ⟨w.heap.size, 0, none⟩)) 5 = .pointer (some ⟨w.heap.size, 0, none⟩) := by unfold updV; rw [if_pos rfl]
  have e4 : updV vs 5 (.pointer (some ⟨w.heap.size, 0, none⟩)) 4 = vs 4 := by unfold updV; rw [if_neg (by decide)]
  have b4 : updB L 5 4 = L 4 := by unfold updB; rw [if_neg (by decide)]
  have b6 : updB L 5 6 = L 6 := by unfold updB; rw [if_neg (by decide)]
  have b7 : updB L 5 7 = L 7 := by unfold updB; rw [if_neg (by decide)]
  have l7 : L 7 = false := by
    cases q : L 7
    · rfl
    · rw [h.u7 q] at hl; cases hl
  refine ⟨h.e.trans hx, h.put 5 _ (fun u hu => by rw [hs] at hu; cases hu), ?_, fun _ => ?_, ?_, ?_, ?_⟩
  · rw [b4, b6, e4]; intro q; obtain ⟨g, h1, h2, h3⟩ := h.j q; exact ⟨g, h1, h2, h3.ext hx⟩
  · rw [e5, b7, l7]
    exact ⟨_, rfl, h.e.below.size, Blk.new rfl⟩
  · rw [b4, e4, e5]; intro q _ he
    obtain ⟨g, h1, h2, h3⟩ := h.j q
    have := h3.old
    rw [h1] at he
    simp at he
    unfold World.old at this; omega
  · rw [b6, b4]; exact h.u6
  · rw [b7, l7]; intro q; cases q
theorem BxI.st6 {W0 w w' : World} {S : List (Option Value)} {z c1 c2 : List Value} {L : Nat → Bool} {vs : Nat → Value} (h : BxI W0 S z c1 c2 L vs w) {g : Nat} (hv : vs 4 = .pointer (some ⟨g, 0, none⟩)) (hg : W0.heap.size ≤ g) (h4 : L 4 = true) (hs : S[6]? = some none) (hc : Chg [g] w w') (hb : Blk w' g c1 25) (v : Value) : BxI W0 S z c1 c2 (updB L 6) (updV vs 6 v) w' := by
  have e4 : updV vs 6 v 4 = vs 4 := by unfold updV; rw [if_neg (by decide)]
  have e5 : updV vs 6 v 5 = vs 5 := by unfold updV; rw [if_neg (by decide)]
  have b4 : updB L 6 4 = L 4 := by unfold updB; rw [if_neg (by decide)]
  have b5 : updB L 6 5 = L 5 := by unfold updB; rw [if_neg (by decide)]
  have b6 : updB L 6 6 = true := by unfold updB; rw [if_pos rfl]
  have b7 : updB L 6 7 = L 7 := by unfold updB; rw [if_neg (by decide)]
  refine ⟨hc.ext h.e (by simpa using hg), h.put 6 _ (fun u hu => by rw [hs] at hu; cases hu), fun _ => ?_, ?_, ?_, ?_, ?_⟩
  · rw [e4, b6]; exact ⟨g, hv, hg, hb⟩
  · rw [b5, b7, e5]; intro q
    obtain ⟨g2, h1, h2, h3⟩ := h.k q
    refine ⟨g2, h1, h2, h3.chg hc ?_⟩
    intro hm
    simp at hm
    exact h.ne h4 q (by rw [hv, h1, hm])
  · rw [b4, b5, e4, e5]; exact h.ne
  · rw [b4]; intro _; exact h4
  · rw [b7, b5]; exact h.u7
theorem BxI.st7 {W0 w w' : World} {S : List (Option Value)} {z c1 c2 : List Value} {L : Nat → Bool} {vs : Nat → Value} (h : BxI W0 S z c1 c2 L vs w) {g : Nat} (hv : vs 5 = .pointer (some ⟨g, 0, none⟩)) (hg : W0.heap.size ≤ g) (h5 : L 5 = true) (hs : S[7]? = some none) (hc : Chg [g] w w') (hb : Blk w' g c2 25) (v : Value) : BxI W0 S z c1 c2 (updB L 7) (updV vs 7 v) w' := by
  have e4 : updV vs 7 v 4 = vs 4 := by unfold updV; rw [if_neg (by decide)]
  have e5 : updV vs 7 v 5 = vs 5 := by unfold updV; rw [if_neg (by decide)]
  have b4 : updB L 7 4 = L 4 := by unfold updB; rw [if_neg (by decide)]
  have b5 : updB L 7 5 = L 5 := by unfold updB; rw [if_neg (by decide)]
  have b6 : updB L 7 6 = L 6 := by unfold updB; rw [if_neg (by decide)]
  have b7 : updB L 7 7 = true := by unfold updB; rw [if_pos rfl]
  refine ⟨hc.ext h.e (by simpa using hg), h.put 7 _ (fun u hu => by rw [hs] at hu; cases hu), ?_, fun _ => ?_, ?_, ?_, ?_⟩
  · rw [b4, b6, e4]; intro q
    obtain ⟨g2, h1, h2, h3⟩ := h.j q
    refine ⟨g2, h1, h2, h3.chg hc ?_⟩
    intro hm
    simp at hm
    exact h.ne q h5 (by rw [hv, h1, hm])
  · rw [e5, b7]; exact ⟨g, hv, hg, hb⟩
  · rw [b4, b5, e4, e5]; exact h.ne
  · rw [b6, b4]; exact h.u6
  · rw [b5]; intro _; exact h5
set_option maxHeartbeats 3200000 in
theorem lwDesk_any (d : Dk) (c : Int) (p b a p' b' a' : Value) (w : World) (h : eDesk w (d.val p b a) d) (h' : eDesk w (d.val p' b' a') d) (hb : c = 0 → boxR d = true) :
    Calls Try.prog 11 #[.agg #[p, b, a, (.int .i64 d.used), (.int .i64 d.now), (.int .i64 c)], .agg #[p', b', a', (.int .i64 d.used), (.int .i64 d.now), (.int .i64 c)]] w fun e w' => e = .returned (.bool true) ∧ Ext w w' := by
  have HB := Lib.hid hb
  have HE := Lib.hid h
  obtain ⟨p1, p2, b1, b2, a1, a2, hv, -, -, hp, hx, ha⟩ := h
  obtain ⟨q1, q2, c1, c2, e1, e2, hv', -, -, hp', hx', ha'⟩ := h'
  unfold Dk.val at hv hv'
  simp only [Value.agg.injEq, Array.mk.injEq, List.cons.injEq, and_true] at hv hv'
  obtain ⟨rfl, rfl, rfl⟩ := hv
  obtain ⟨rfl, rfl, rfl⟩ := hv'
  have P1 := Lib.hid hp
  have P2 := Lib.hid hx
  have P3 := Lib.hid ha
  have Q1 := Lib.hid hp'
  have Q2 := Lib.hid hx'
  have Q3 := Lib.hid ha'
  clear hp hx ha hp' hx' ha' hb
  unfold Dk.val at HE
  go_enter Try.func11, Try.ntmps11
  go_upto_region 1 with fail
  have hA := (Blk.new (w := w) (cs := #[.slice p1 d.pairs.length p2, .slice b1 d.box.length b2, .slice a1 d.audit.length a2, (.int .i64 d.used), (.int .i64 d.now), (.int .i64 c)]) (ty := 31) rfl).ext ((Ext.refl _).alloc (.cells #[.slice q1 d.pairs.length q2, .slice c1 d.box.length c2, .slice e1 d.audit.length e2, (.int .i64 d.used), (.int .i64 d.now), (.int .i64 c)] 31))
  have hA2 := Blk.new (b := w.heap.size + 1) (w := w.alloc (.cells #[.slice p1 d.pairs.length p2, .slice b1 d.box.length b2, .slice a1 d.audit.length a2, (.int .i64 d.used), (.int .i64 d.now), (.int .i64 c)] 31)) (cs := #[.slice q1 d.pairs.length q2, .slice c1 d.box.length c2, .slice e1 d.audit.length e2, (.int .i64 d.used), (.int .i64 d.now), (.int .i64 c)]) (ty := 31) (by simp)
  refine gen_world (fun W hW => ?_)
  have HW : Hid (Ext w W) := Lib.hid (by rw [hW]; exact (by repeat (first | exact Ext.refl _ | apply Ext.plus | apply Ext.alloc | apply Ext.drew)))
  rw [← hW] at hA hA2
  clear hW
  generalize w.heap.size = gA at hA hA2 ⊢
  generalize hgB : gA + 1 = gB at hA2 ⊢
  have HA1 := Lib.hid hA
  have HA2 := Lib.hid hA2
  clear hgB hA hA2
  have s0 : W.cell? ⟨gA, 0, none⟩ = some (.slice p1 d.pairs.length p2) := HA1.out.cell 0
  have s1 : W.cell? ⟨gA, 1, none⟩ = some (.slice b1 d.box.length b2) := HA1.out.cell 1
  have s2 : W.cell? ⟨gA, 2, none⟩ = some (.slice a1 d.audit.length a2) := HA1.out.cell 2
  have s3 : W.cell? ⟨gA, 3, none⟩ = some (.int .i64 d.used) := HA1.out.cell 3
  have s4 : W.cell? ⟨gA, 4, none⟩ = some (.int .i64 d.now) := HA1.out.cell 4
  have so := HA1.out.old
  have t0 : W.cell? ⟨gB, 0, none⟩ = some (.slice q1 d.pairs.length q2) := HA2.out.cell 0
  have t1 : W.cell? ⟨gB, 1, none⟩ = some (.slice c1 d.box.length c2) := HA2.out.cell 1
  have t2 : W.cell? ⟨gB, 2, none⟩ = some (.slice e1 d.audit.length e2) := HA2.out.cell 2
  have t3 : W.cell? ⟨gB, 3, none⟩ = some (.int .i64 d.used) := HA2.out.cell 3
  have t4 : W.cell? ⟨gB, 4, none⟩ = some (.int .i64 d.now) := HA2.out.cell 4
  have to' := HA2.out.old
  refine wp_region_i 8 (BxI W [some (.pointer (some ⟨gA, 0, none⟩)), some (.agg #[.slice p1 d.pairs.length p2, .slice b1 d.box.length b2, .slice a1 d.audit.length a2, (.int .i64 d.used), (.int .i64 d.now)]), some (.pointer (some ⟨gB, 0, none⟩)), some (.agg #[.slice q1 d.pairs.length q2, .slice c1 d.box.length c2, .slice e1 d.audit.length e2, (.int .i64 d.used), (.int .i64 d.now)]), none, none, none, none] [.slice none 0 0, .slice none 0 0, .slice none 0 0, (.int .i64 0), (.int .i64 0)] [.slice p1 d.pairs.length p2, .slice b1 d.box.length b2, .slice a1 d.audit.length a2, (.int .i64 d.used), (.int .i64 d.now)] [.slice q1 d.pairs.length q2, .slice c1 d.box.length c2, .slice e1 d.audit.length e2, (.int .i64 d.used), (.int .i64 d.now)]) (by kernel_rfl) (by kernel_rfl) (by kernel_rfl) (fun vs => ?_) (fun vs => BxI.start (Ext.refl _).drew)
  refine IReg.step 1 rfl (fun L w' hI hL hj => ?_) ?_
  · obtain ⟨X', hX'⟩ := hI.e
    skip
    have HI := Lib.hid hI
    clear hI hL hj
    subst hX'
    go_wp2
    exact HI.out.set 0 _ (by repeat (first | exact Ext.refl _ | apply Ext.plus | apply Ext.alloc | apply Ext.drew)) (by decide) (fun u hu => by simpa using hu.symm)
  refine IReg.step 2 rfl (fun L w' hI hL hj => ?_) ?_
  · obtain ⟨X', hX'⟩ := hI.e
    rw [hI.s 0 _ rfl (hj 0 (by decide) (by kernel_rfl))]
    have HI := Lib.hid hI
    clear hI hL hj
    subst hX'
    go_wp2
    exact HI.out.set 1 _ (by repeat (first | exact Ext.refl _ | apply Ext.plus | apply Ext.alloc | apply Ext.drew)) (by decide) (fun u hu => by simpa using hu.symm)
  refine IReg.step 3 rfl (fun L w' hI hL hj => ?_) ?_
  · obtain ⟨X', hX'⟩ := hI.e
    skip
    have HI := Lib.hid hI
    clear hI hL hj
    subst hX'
    go_wp2
    exact HI.out.set 2 _ (by repeat (first | exact Ext.refl _ | apply Ext.plus | apply Ext.alloc | apply Ext.drew)) (by decide) (fun u hu => by simpa using hu.symm)
  refine IReg.step 4 rfl (fun L w' hI hL hj => ?_) ?_
  · obtain ⟨X', hX'⟩ := hI.e
    rw [hI.s 2 _ rfl (hj 2 (by decide) (by kernel_rfl))]
    have HI := Lib.hid hI
    clear hI hL hj
    subst hX'
    go_wp2
    exact HI.out.set 3 _ (by repeat (first | exact Ext.refl _ | apply Ext.plus | apply Ext.alloc | apply Ext.drew)) (by decide) (fun u hu => by simpa using hu.symm)
  refine IReg.step 5 rfl (fun L w' hI hL hj => ?_) ?_
  · have HI := Lib.hid (hI.mk4 hL rfl)
    clear hI hL hj
    go_wp2
    exact HI.out
  refine IReg.step 6 rfl (fun L w' hI hL hj => ?_) ?_
  · have HI := Lib.hid (hI.mk5 hL rfl)
    clear hI hL hj
    go_wp2
    exact HI.out
  refine IReg.step 7 rfl (fun L w' hI hL hj => ?_) ?_
  · have h4 := hj 4 (by decide) (by kernel_rfl)
    obtain ⟨gq, hv4, hg4, hb4⟩ := hI.j h4
    rw [hv4, hI.s 1 _ rfl (hj 1 (by decide) (by kernel_rfl))]
    rw [hL] at hb4
    have hb4' : Blk w' gq [.slice none 0 0, .slice none 0 0, .slice none 0 0, (.int .i64 0), (.int .i64 0)] 25 := hb4
    have HI := Lib.hid (fun v => hI.st6 hv4 hg4 h4 rfl (set5_chg w' gq (.slice p1 d.pairs.length p2) (.slice b1 d.box.length b2) (.slice a1 d.audit.length a2) (.int .i64 d.used) (.int .i64 d.now)) (hb4'.set5 (.slice p1 d.pairs.length p2) (.slice b1 d.box.length b2) (.slice a1 d.audit.length a2) (.int .i64 d.used) (.int .i64 d.now)) v)
    have d0 : w'.cell? ⟨gq, 0, none⟩ = some (.slice none 0 0) := hb4'.cell 0
    have d1 : w'.cell? ⟨gq, 1, none⟩ = some (.slice none 0 0) := hb4'.cell 1
    have d2 : w'.cell? ⟨gq, 2, none⟩ = some (.slice none 0 0) := hb4'.cell 2
    have d3 : w'.cell? ⟨gq, 3, none⟩ = some (.int .i64 0) := hb4'.cell 3
    have d4 : w'.cell? ⟨gq, 4, none⟩ = some (.int .i64 0) := hb4'.cell 4
    have do9 := hb4'.old
    have df9 := hb4'.fz
    clear hI hL hj h4 hv4 hg4 hb4 hb4'
    go_wp2
    exact ⟨undef, HI.out undef⟩
  refine IReg.step 8 rfl (fun L w' hI hL hj => ?_) ?_
  · have h4 := hj 5 (by decide) (by kernel_rfl)
    obtain ⟨gq, hv4, hg4, hb4⟩ := hI.k h4
    rw [hv4, hI.s 3 _ rfl (hj 3 (by decide) (by kernel_rfl))]
    rw [hL] at hb4
    have hb4' : Blk w' gq [.slice none 0 0, .slice none 0 0, .slice none 0 0, (.int .i64 0), (.int .i64 0)] 25 := hb4
    have HI := Lib.hid (fun v => hI.st7 hv4 hg4 h4 rfl (set5_chg w' gq (.slice q1 d.pairs.length q2) (.slice c1 d.box.length c2) (.slice e1 d.audit.length e2) (.int .i64 d.used) (.int .i64 d.now)) (hb4'.set5 (.slice q1 d.pairs.length q2) (.slice c1 d.box.length c2) (.slice e1 d.audit.length e2) (.int .i64 d.used) (.int .i64 d.now)) v)
    have d0 : w'.cell? ⟨gq, 0, none⟩ = some (.slice none 0 0) := hb4'.cell 0
    have d1 : w'.cell? ⟨gq, 1, none⟩ = some (.slice none 0 0) := hb4'.cell 1
    have d2 : w'.cell? ⟨gq, 2, none⟩ = some (.slice none 0 0) := hb4'.cell 2
    have d3 : w'.cell? ⟨gq, 3, none⟩ = some (.int .i64 0) := hb4'.cell 3
    have d4 : w'.cell? ⟨gq, 4, none⟩ = some (.int .i64 0) := hb4'.cell 4
    have do9 := hb4'.old
    have df9 := hb4'.fz
    clear hI hL hj h4 hv4 hg4 hb4 hb4'
    go_wp2
    exact ⟨undef, HI.out undef⟩
  refine IReg.done (fun L W2 hL hI => ?_)
  obtain ⟨gJ, hv4, hgJ, hbJ⟩ := hI.j (hL 4 (by decide))
  obtain ⟨gK, hv5, hgK, hbK⟩ := hI.k (hL 5 (by decide))
  rw [hL 6 (by decide)] at hbJ
  rw [hL 7 (by decide)] at hbK
  rw [hv4, hv5]
  have HJ : Hid (Blk W2 gJ [.slice p1 d.pairs.length p2, .slice b1 d.box.length b2, .slice a1 d.audit.length a2, (.int .i64 d.used), (.int .i64 d.now)] 25) := Lib.hid hbJ
  have HK : Hid (Blk W2 gK [.slice q1 d.pairs.length q2, .slice c1 d.box.length c2, .slice e1 d.audit.length e2, (.int .i64 d.used), (.int .i64 d.now)] 25) := Lib.hid hbK
  have HA11 := Lib.hid (HA1.out.ext hI.e)
  have HB11 := Lib.hid (HA2.out.ext hI.e)
  have HX11 := Lib.hid (HW.out.trans hI.e)
  clear hL hI hv4 hgJ hbJ hv5 hgK hbK s0 s1 s2 s3 s4 so t0 t1 t2 t3 t4 to' HA1 HA2 HW W
  have J0 : W2.cell? ⟨gJ, 0, none⟩ = some (.slice p1 d.pairs.length p2) := HJ.out.cell 0
  have J1 : W2.cell? ⟨gJ, 1, none⟩ = some (.slice b1 d.box.length b2) := HJ.out.cell 1
  have J2 : W2.cell? ⟨gJ, 2, none⟩ = some (.slice a1 d.audit.length a2) := HJ.out.cell 2
  have J3 : W2.cell? ⟨gJ, 3, none⟩ = some (.int .i64 d.used) := HJ.out.cell 3
  have J4 : W2.cell? ⟨gJ, 4, none⟩ = some (.int .i64 d.now) := HJ.out.cell 4
  have Jo := HJ.out.old
  have K0 : W2.cell? ⟨gK, 0, none⟩ = some (.slice q1 d.pairs.length q2) := HK.out.cell 0
  have K1 : W2.cell? ⟨gK, 1, none⟩ = some (.slice c1 d.box.length c2) := HK.out.cell 1
  have K2 : W2.cell? ⟨gK, 2, none⟩ = some (.slice e1 d.audit.length e2) := HK.out.cell 2
  have K3 : W2.cell? ⟨gK, 3, none⟩ = some (.int .i64 d.used) := HK.out.cell 3
  have K4 : W2.cell? ⟨gK, 4, none⟩ = some (.int .i64 d.now) := HK.out.cell 4
  have Ko := HK.out.old
  have z1 : W2.cell? ⟨gA, 5, none⟩ = some (.int .i64 c) := HA11.out.cell 5
  have zo := HA11.out.old
  have z2 : W2.cell? ⟨gB, 5, none⟩ = some (.int .i64 c) := HB11.out.cell 5
  have zo2 := HB11.out.old
  by_cases hc0 : c = 0
  rotate_left
  · have hne : (c == 0) = false := by simpa using hc0
    have hne3 : (c != 0) = true := by simpa using hc0
    go_wp2_with fail
    refine (lwLetters_self _ _ d.pairs _ (P1.out.ext rLtr_stable (HX11.out.trans (by repeat (first | exact Ext.refl _ | apply Ext.plus | apply Ext.alloc | apply Ext.drew)))) (Q1.out.ext rLtr_stable (HX11.out.trans (by repeat (first | exact Ext.refl _ | apply Ext.plus | apply Ext.alloc | apply Ext.drew))))).mono ?_
    rintro e _ ⟨rfl, X1, rfl⟩
    go_wp2_with fail
    refine (lwLetters_self _ _ d.box _ (P2.out.ext rLtr_stable (HX11.out.trans (by repeat (first | exact Ext.refl _ | apply Ext.plus | apply Ext.alloc | apply Ext.drew)))) (Q2.out.ext rLtr_stable (HX11.out.trans (by repeat (first | exact Ext.refl _ | apply Ext.plus | apply Ext.alloc | apply Ext.drew))))).mono ?_
    rintro e _ ⟨rfl, X2, rfl⟩
    go_wp2_with fail
    refine (lwLetters_self _ _ d.audit _ (P3.out.ext rLtr_stable (HX11.out.trans (by repeat (first | exact Ext.refl _ | apply Ext.plus | apply Ext.alloc | apply Ext.drew)))) (Q3.out.ext rLtr_stable (HX11.out.trans (by repeat (first | exact Ext.refl _ | apply Ext.plus | apply Ext.alloc | apply Ext.drew))))).mono ?_
    rintro e _ ⟨rfl, X3, rfl⟩
    go_wp2
    go_ret
    exact ⟨rfl, HX11.out.trans (by repeat (first | exact Ext.refl _ | apply Ext.plus | apply Ext.alloc | apply Ext.drew))⟩
  · have HBR := Lib.hid (HB.out hc0)
    subst hc0
    go_wp2_with fail
    refine (lwLetters_self _ _ d.pairs _ (P1.out.ext rLtr_stable (HX11.out.trans (by repeat (first | exact Ext.refl _ | apply Ext.plus | apply Ext.alloc | apply Ext.drew)))) (Q1.out.ext rLtr_stable (HX11.out.trans (by repeat (first | exact Ext.refl _ | apply Ext.plus | apply Ext.alloc | apply Ext.drew))))).mono ?_
    rintro e _ ⟨rfl, X1, rfl⟩
    go_wp2_with fail
    refine (lwLetters_self _ _ d.box _ (P2.out.ext rLtr_stable (HX11.out.trans (by repeat (first | exact Ext.refl _ | apply Ext.plus | apply Ext.alloc | apply Ext.drew)))) (Q2.out.ext rLtr_stable (HX11.out.trans (by repeat (first | exact Ext.refl _ | apply Ext.plus | apply Ext.alloc | apply Ext.drew))))).mono ?_
    rintro e _ ⟨rfl, X2, rfl⟩
    go_wp2_with fail
    refine (lwLetters_self _ _ d.audit _ (P3.out.ext rLtr_stable (HX11.out.trans (by repeat (first | exact Ext.refl _ | apply Ext.plus | apply Ext.alloc | apply Ext.drew)))) (Q3.out.ext rLtr_stable (HX11.out.trans (by repeat (first | exact Ext.refl _ | apply Ext.plus | apply Ext.alloc | apply Ext.drew))))).mono ?_
    rintro e _ ⟨rfl, X3, rfl⟩
    go_wp2_with fail
    refine (specBoxRight_any d _ _ (HE.out.ext (HX11.out.trans (by repeat (first | exact Ext.refl _ | apply Ext.plus | apply Ext.alloc | apply Ext.drew))))).mono ?_
    rintro e _ ⟨rfl, X4, rfl⟩
    rw [HBR.out]
    go_wp2
    go_ret
    exact ⟨rfl, HX11.out.trans (by repeat (first | exact Ext.refl _ | apply Ext.plus | apply Ext.alloc | apply Ext.drew))⟩
end Go.Proofs.Ytocadhcggkbimaa

set_option maxRecDepth 100000
set_option linter.unusedVariables false
namespace Go.Proofs.Ytocadhcggkbimaa
open Go.RowKit Go.Fin1
/-- Blocks and what lies in them. -/
def BsAll (w : World) (l : List (Nat × List Value × TypeId)) : Prop := ∀ t ∈ l, Blk w t.1 t.2.1 t.2.2
theorem BsAll.nil (w : World) : BsAll w [] := fun _ h => by cases h
theorem BsAll.ext {w w' : World} {l : List (Nat × List Value × TypeId)} (h : BsAll w l) (hx : Ext w w') : BsAll w' l := fun t ht => (h t ht).ext hx
theorem BsAll.cons {w : World} {l : List (Nat × List Value × TypeId)} {g : Nat} {cs : List Value} {ty : TypeId} (h : BsAll w l) (hb : Blk w g cs ty) : BsAll w ((g, cs, ty) :: l) := fun t ht => by
  rcases List.mem_cons.1 ht with rfl | ht
  · exact hb
  · exact h t ht
theorem BsAll.at {w : World} {l : List (Nat × List Value × TypeId)} (h : BsAll w l) (i : Nat) {t : Nat × List Value × TypeId} (ht : l[i]? = some t) : Blk w t.1 t.2.1 t.2.2 := h t (List.mem_of_getElem? ht)
theorem eDesk_oks {w : World} {v : Value} {d : Dk} (h : eDesk w v d) : I64 d.used ∧ I64 d.now ∧ (∀ x ∈ d.pairs, x.ok) ∧ (∀ x ∈ d.box, x.ok) ∧ (∀ x ∈ d.audit, x.ok) := by
  obtain ⟨a1, c1, a2, c2, a3, c3, rfl, h0, h1, h2, h3, h4⟩ := h
  exact ⟨h0, h1, slr_ltrs h2, slr_ltrs h3, slr_ltrs h4⟩
theorem implLet_e (d : Dk) (v : Value) (a b : Lab) (q : Int) (w : World) (h : eDesk w v d) (hf : d.sz ≤ 1048576) (ha : a.ok) (hb : b.ok) :
    Calls Try.prog 7 #[v, .agg #[(.int .i64 a.lv), (.int .i64 a.st)], .agg #[(.int .i64 b.lv), (.int .i64 b.st)], (.int .i64 q)] w fun e w' => ∃ p b' a', e = .returned (.agg #[p, b', a', (.int .i64 (letR d a b q).1.used), (.int .i64 (letR d a b q).1.now), (.int .i64 (letR d a b q).2)]) ∧ Ext w w' ∧ eDesk w' (Dk.val (letR d a b q).1 p b' a') (letR d a b q).1 := by
  obtain ⟨h0, h1, h2, h3, h4⟩ := eDesk_oks h
  obtain ⟨k0, k1, k2, k3, k4, -⟩ := letR_ok (q := q) ha hb h0 h2 h3 h4
  refine (implLetDown_any d v a b q w h hf).mono ?_
  rintro e w' ⟨p, bx, au, f1, f2, f3, rfl, hx, hO⟩
  exact ⟨p, bx, au, rfl, hx, hO.e k0 k1 k2 k3 k4⟩
theorem specLet_e (d : Dk) (v : Value) (a b : Lab) (q : Int) (w : World) (h : eDesk w v d) (hf : d.sz ≤ 1048576) (ha : a.ok) (hb : b.ok) :
    Calls Try.prog 12 #[v, .agg #[(.int .i64 a.lv), (.int .i64 a.st)], .agg #[(.int .i64 b.lv), (.int .i64 b.st)], (.int .i64 q)] w fun e w' => ∃ p b' a', e = .returned (.agg #[p, b', a', (.int .i64 (letR d a b q).1.used), (.int .i64 (letR d a b q).1.now), (.int .i64 (letR d a b q).2)]) ∧ Ext w w' ∧ eDesk w' (Dk.val (letR d a b q).1 p b' a') (letR d a b q).1 := by
  obtain ⟨h0, h1, h2, h3, h4⟩ := eDesk_oks h
  obtain ⟨k0, k1, k2, k3, k4, -⟩ := letR_ok (q := q) ha hb h0 h2 h3 h4
  refine (specLetDown_any d v a b q w h hf).mono ?_
  rintro e w' ⟨p, bx, au, f1, f2, f3, rfl, hx, hO⟩
  exact ⟨p, bx, au, rfl, hx, hO.e k0 k1 k2 k3 k4⟩
theorem implNext_e (d : Dk) (v : Value) (w : World) (h : eDesk w v d) (hf : d.sz ≤ 1048576) :
    Calls Try.prog 9 #[v] w fun e w' => ∃ p b' a', e = .returned (.agg #[p, b', a', (.int .i64 (nextR d).1.used), (.int .i64 (nextR d).1.now), (.int .i64 (nextR d).2)]) ∧ Ext w w' ∧ eDesk w' (Dk.val (nextR d).1 p b' a') (nextR d).1 := by
  obtain ⟨h0, h1, h2, h3, h4⟩ := eDesk_oks h
  obtain ⟨k0, k1, k2, k3, k4, -⟩ := nextR_ok h0 h2 h4
  refine (implNextTime_any d v w h hf).mono ?_
  rintro e w' ⟨p, bx, au, f1, f2, f3, rfl, hx, hO⟩
  exact ⟨p, bx, au, rfl, hx, hO.e k0 k1 k2 k3 k4⟩
theorem specNext_e (d : Dk) (v : Value) (w : World) (h : eDesk w v d) (hf : d.sz ≤ 1048576) :
    Calls Try.prog 13 #[v] w fun e w' => ∃ p b' a', e = .returned (.agg #[p, b', a', (.int .i64 (nextR d).1.used), (.int .i64 (nextR d).1.now), (.int .i64 (nextR d).2)]) ∧ Ext w w' ∧ eDesk w' (Dk.val (nextR d).1 p b' a') (nextR d).1 := by
  obtain ⟨h0, h1, h2, h3, h4⟩ := eDesk_oks h
  obtain ⟨k0, k1, k2, k3, k4, -⟩ := nextR_ok h0 h2 h4
  refine (specNextTime_own d v w h hf).mono ?_
  rintro e w' ⟨p, bx, au, f1, f2, f3, rfl, hx, hO⟩
  exact ⟨p, bx, au, rfl, hx, hO.e k0 k1 k2 k3 k4⟩
theorem implReads_e (d : Dk) (v : Value) (x : Lab) (w : World) (h : eDesk w v d) (hf : d.sz ≤ 1048576) :
    Calls Try.prog 15 #[v, .agg #[(.int .i64 x.lv), (.int .i64 x.st)]] w fun e w' => ∃ v', e = .returned v' ∧ Ext w w' ∧ kSli (readsD d x) v' w' := by
  obtain ⟨h0, h1, h2, h3, h4⟩ := eDesk_oks h
  refine (implReads_any d v x w h hf).mono ?_
  rintro e w' ⟨v', rfl, hx, hR⟩
  obtain ⟨fp, hO⟩ := Row.own (f := intCell) (K := 1) (fun _ => rfl) hR
  have hs := oIntS_r hO.1 (readsD_i64 h3 x)
  obtain ⟨a, c, rfl⟩ := hs.len
  exact ⟨_, rfl, hx, a, c, rfl, hs⟩
theorem specReads_e (d : Dk) (v : Value) (x : Lab) (w : World) (h : eDesk w v d) (hf : d.sz ≤ 1048576) :
    Calls Try.prog 16 #[v, .agg #[(.int .i64 x.lv), (.int .i64 x.st)]] w fun e w' => ∃ v', e = .returned v' ∧ Ext w w' ∧ kSli (readsD d x) v' w' := by
  obtain ⟨h0, h1, h2, h3, h4⟩ := eDesk_oks h
  refine (specReads_any d v x w h hf).mono ?_
  rintro e w' ⟨v', rfl, hx, hR⟩
  obtain ⟨fp, hO⟩ := Row.own (f := intCell) (K := 1) (fun _ => rfl) hR
  have hs := oIntS_r hO.1 (readsD_i64 h3 x)
  obtain ⟨a, c, rfl⟩ := hs.len
  exact ⟨_, rfl, hx, a, c, rfl, hs⟩
/-- A step that was handed back. -/
def kDk (D : Dk) (C : Int) : XReg.Kind := fun v w => ∃ p1 p2 b1 b2 a1 a2, v = .agg #[.slice p1 D.pairs.length p2, .slice b1 D.box.length b2, .slice a1 D.audit.length a2, (.int .i64 D.used), (.int .i64 D.now), (.int .i64 C)] ∧ eDesk w (.agg #[.slice p1 D.pairs.length p2, .slice b1 D.box.length b2, .slice a1 D.audit.length a2, (.int .i64 D.used), (.int .i64 D.now)]) D
theorem eDesk_shape {w : World} {p b a : Value} {d : Dk} (h : eDesk w (Dk.val d p b a) d) : ∃ p1 p2 b1 b2 a1 a2, p = .slice p1 d.pairs.length p2 ∧ b = .slice b1 d.box.length b2 ∧ a = .slice a1 d.audit.length a2 := by
  obtain ⟨p1, p2, b1, b2, a1, a2, hv, -⟩ := h
  unfold Dk.val at hv
  simp only [Value.agg.injEq, Array.mk.injEq, List.cons.injEq, and_true] at hv
  exact ⟨p1, p2, b1, b2, a1, a2, hv.1, hv.2.1, hv.2.2⟩
theorem kDk_good {D : Dk} {C : Int} {W : World} {p b a : Value} (h : eDesk W (Dk.val D p b a) D) : XReg.GoodK (kDk D C) :=
  ⟨fun _ _ _ hx ⟨p1, p2, b1, b2, a1, a2, hv, he⟩ => ⟨p1, p2, b1, b2, a1, a2, hv, he.ext hx⟩, by
    obtain ⟨p1, p2, b1, b2, a1, a2, rfl, rfl, rfl⟩ := eDesk_shape h
    exact ⟨_, W, p1, p2, b1, b2, a1, a2, rfl, h⟩⟩
theorem kRd_good {D : Dk} {x : Lab} {W : World} {v : Value} (h : eDesk W v D) (hs : D.sz ≤ 1048576) : XReg.GoodK (kSli (readsD D x)) :=
  kSli_good _ (readsD_i64 (eDesk_oks h).2.2.2.1 x) (by have := readsD_len D x; unfold Dk.sz at hs; unfold maxLen; omega)
end Go.Proofs.Ytocadhcggkbimaa

set_option maxRecDepth 100000
set_option linter.unusedVariables false
namespace Go.Proofs.Ytocadhcggkbimaa
open Go.RowKit Go.Fin1
theorem kDk_e {D : Dk} {C : Int} {p1 b1 a1 : Option Addr} {p2 b2 a2 : Nat} {w : World} (h : kDk D C (.agg #[.slice p1 D.pairs.length p2, .slice b1 D.box.length b2, .slice a1 D.audit.length a2, (.int .i64 D.used), (.int .i64 D.now), (.int .i64 C)]) w) : eDesk w (Dk.val D (.slice p1 D.pairs.length p2) (.slice b1 D.box.length b2) (.slice a1 D.audit.length a2)) D := by
  obtain ⟨q1, q2, c1, c2, e1, e2, hv, he⟩ := h
  simp only [Value.agg.injEq, Array.mk.injEq, List.cons.injEq, Value.slice.injEq, and_true, true_and] at hv
  obtain ⟨⟨rfl, rfl⟩, ⟨rfl, rfl⟩, ⟨rfl, rfl⟩⟩ := hv
  exact he
theorem slr_pre {K : Nat} {w : World} {a : Option Addr} {c k : Nat} {xs : List Ltr} (h : SlR w K rLtr (.slice a xs.length c) xs) (hk : k ≤ xs.length) : SlR w K rLtr (.slice a k c) (xs.take k) := by
  obtain ⟨a', cap, hv, h1, h2, h3⟩ := h
  obtain ⟨rfl, rfl⟩ : a = a' ∧ c = cap := by simpa using hv
  refine ⟨a, c, by rw [List.length_take, Nat.min_eq_left hk], by rw [List.length_take]; omega, h2, fun i hi => ?_⟩
  rw [List.length_take] at hi
  obtain ⟨b, off, cs, q1, q2, q3, q4⟩ := h3 i (by omega)
  exact ⟨b, off, cs, q1, q2, q3, by rw [List.getElem_take]; exact q4⟩
theorem eDesk_aud {w : World} {p b : Value} {a1 : Option Addr} {a2 : Nat} {d : Dk} (h : eDesk w (.agg #[p, b, .slice a1 d.audit.length a2, (.int .i64 d.used), (.int .i64 d.now)]) d) : SlR w 6 rLtr (.slice a1 d.audit.length a2) d.audit := by
  obtain ⟨q1, q2, c1, c2, e1, e2, hv, -, -, -, -, h3⟩ := h
  unfold Dk.val at hv
  simp only [Value.agg.injEq, Array.mk.injEq, List.cons.injEq, Value.slice.injEq, and_true, true_and] at hv
  obtain ⟨-, -, rfl, rfl⟩ := hv
  exact h3
set_option maxHeartbeats 3200000 in
theorem fnDown_any (a b : Arg (List Int)) (w : World) (ha : SlR w 1 rU8 a.v a.x) (hb : SlR w 1 rU8 b.v b.x) :
    Calls Try.prog 3 #[a.v, b.v] w fun e w' => e = .returned (.bool true) ∧ Ext w w' := by
  obtain ⟨v1, l1⟩ := a
  obtain ⟨v2, l2⟩ := b
  change SlR w 1 rU8 v1 l1 at ha
  change SlR w 1 rU8 v2 l2 at hb
  change Calls Try.prog 3 #[v1, v2] w _
  obtain ⟨ad1, cp1, rfl⟩ := ha.len
  obtain ⟨ad2, cp2, rfl⟩ := hb.len
  have HL1 := Lib.hid ha
  have HL2 := Lib.hid hb
  clear ha hb
  by_cases hl1 : l1.length ≤ 1048576
  · by_cases hl2 : l2.length ≤ 1048576
    · have hb1 : decide ((1048576 : Int) < (l1.length : Int)) = false := decide_eq_false (by omega)
      have hb2 : decide ((1048576 : Int) < (l2.length : Int)) = false := decide_eq_false (by omega)
      go_enter Try.func3, Try.ntmps3
      go_wp2_with fail
      refine (drawLetDown_any _ l1 _ (HL1.out.ext rU8_stable (by repeat (first | exact Ext.refl _ | apply Ext.plus | apply Ext.alloc | apply Ext.drew))) hl1).mono ?_
      rintro e _ ⟨d, p, b, a, ⟨x1, x2⟩, ⟨y1, y2⟩, q, rfl, hE, hI, hx, hy, hq, ⟨X1, rfl⟩⟩
      obtain ⟨p1, p2, b1, b2, a1, a2, rfl, rfl, rfl⟩ := eDesk_shape hE
      have hsd : d.sz ≤ 1048576 := by have := hI.sz (by decide); omega
      obtain ⟨⟨D1, C1⟩, hr1⟩ : ∃ r : Dk × Int, letR d ⟨x1, x2⟩ ⟨y1, y2⟩ q = r := ⟨_, rfl⟩
      have HIL := Lib.hid (fun v w (h : eDesk w v d) => (by have := implLet_e d v ⟨x1, x2⟩ ⟨y1, y2⟩ q w h hsd hx hy; rw [hr1] at this; exact this : Calls Try.prog 7 #[v, .agg #[(.int .i64 x1), (.int .i64 x2)], .agg #[(.int .i64 y1), (.int .i64 y2)], (.int .i64 q)] w fun e w' => ∃ p b a, e = .returned (.agg #[p, b, a, (.int .i64 D1.used), (.int .i64 D1.now), (.int .i64 C1)]) ∧ Ext w w' ∧ eDesk w' (Dk.val D1 p b a) D1))
      have HSL := Lib.hid (fun v w (h : eDesk w v d) => (by have := specLet_e d v ⟨x1, x2⟩ ⟨y1, y2⟩ q w h hsd hx hy; rw [hr1] at this; exact this : Calls Try.prog 12 #[v, .agg #[(.int .i64 x1), (.int .i64 x2)], .agg #[(.int .i64 y1), (.int .i64 y2)], (.int .i64 q)] w fun e w' => ∃ p b a, e = .returned (.agg #[p, b, a, (.int .i64 D1.used), (.int .i64 D1.now), (.int .i64 C1)]) ∧ Ext w w' ∧ eDesk w' (Dk.val D1 p b a) D1))
      have HZ1 : Hid (C1 = 0 → D1 = letD d ⟨x1, x2⟩ ⟨y1, y2⟩ q ∧ boxR D1 = true ∧ (∃ l, readsD D1 ⟨y1, y2⟩ = l ++ [q]) ∧ D1.used ≤ 2) := Lib.hid (fun hc => by
        have := letR_zero (d := d) (a := ⟨x1, x2⟩) (b := ⟨y1, y2⟩) (q := q) (by rw [hr1]; exact hc)
        rw [hr1] at this
        obtain ⟨h1, h2, h3, h4⟩ := this
        dsimp only at h1
        rw [h1]; exact ⟨rfl, h2, h3, h4⟩)
      have hs1 : D1.sz ≤ 1048576 := by
        have := (letR_ok (q := q) hx hy (eDesk_oks hE).1 hI.op hI.ob hI.oa).2.2.2.2.2
        rw [hr1] at this
        dsimp only at this; omega
      have HEd := Lib.hid hE
      clear hE hx hy hq hr1 hI hb1 hb2
      unfold Dk.val at HEd ⊢
      dsimp only
      go_upto_region 4 with fail
      have h1 := (Blk.new (w := w.plus X1) (cs := #[.slice p1 d.pairs.length p2, .slice b1 d.box.length b2, .slice a1 d.audit.length a2, (.int .i64 d.used), (.int .i64 d.now)]) (ty := 25) rfl).ext (((Ext.refl _).alloc (.cells #[(.int .i64 x1), (.int .i64 x2)] 27)).alloc (.cells #[(.int .i64 y1), (.int .i64 y2)] 27))
      have h2 := (Blk.new (b := w.heap.size + X1.n + 1) (w := (w.plus X1).alloc (.cells #[.slice p1 d.pairs.length p2, .slice b1 d.box.length b2, .slice a1 d.audit.length a2, (.int .i64 d.used), (.int .i64 d.now)] 25)) (cs := #[(.int .i64 x1), (.int .i64 x2)]) (ty := 27) (by simp)).ext ((Ext.refl _).alloc (.cells #[(.int .i64 y1), (.int .i64 y2)] 27))
      have h3 := (Blk.new (b := w.heap.size + X1.n + 1 + 1) (w := ((w.plus X1).alloc (.cells #[.slice p1 d.pairs.length p2, .slice b1 d.box.length b2, .slice a1 d.audit.length a2, (.int .i64 d.used), (.int .i64 d.now)] 25)).alloc (.cells #[(.int .i64 x1), (.int .i64 x2)] 27)) (cs := #[(.int .i64 y1), (.int .i64 y2)]) (ty := 27) (by simp))
      simp only [World.size_plus] at h1
      refine gen_world (fun W4 hW => ?_)
      have HW : Hid (Ext w W4) := Lib.hid (by rw [hW]; exact (by repeat (first | exact Ext.refl _ | apply Ext.plus | apply Ext.alloc | apply Ext.drew)))
      have HEd4 : Hid (eDesk W4 (.agg #[.slice p1 d.pairs.length p2, .slice b1 d.box.length b2, .slice a1 d.audit.length a2, (.int .i64 d.used), (.int .i64 d.now)]) d) := Lib.hid (by rw [hW]; exact HEd.out.ext (by repeat (first | exact Ext.refl _ | apply Ext.plus | apply Ext.alloc | apply Ext.drew)))
      rw [← hW] at h1 h2 h3
      clear hW HEd
      generalize w.heap.size + X1.n = gD at h1 h2 h3 ⊢
      generalize gD + 1 = gF at h2 h3 ⊢
      generalize gF + 1 = gT at h3 ⊢
      have HBS := Lib.hid ((((BsAll.nil W4).cons h1).cons h2).cons h3)
      clear h1 h2 h3 X1
      have hB := HBS.out.at 2 rfl
      have e0 : W4.cell? ⟨gD, 0, none⟩ = some (.slice p1 d.pairs.length p2) := hB.cell 0
      have e1 : W4.cell? ⟨gD, 1, none⟩ = some (.slice b1 d.box.length b2) := hB.cell 1
      have e2 : W4.cell? ⟨gD, 2, none⟩ = some (.slice a1 d.audit.length a2) := hB.cell 2
      have e3 : W4.cell? ⟨gD, 3, none⟩ = some (.int .i64 d.used) := hB.cell 3
      have e4 : W4.cell? ⟨gD, 4, none⟩ = some (.int .i64 d.now) := hB.cell 4
      have eo : W4.old gD := hB.old
      clear hB
      have hB := HBS.out.at 1 rfl
      have f0 : W4.cell? ⟨gF, 0, none⟩ = some (.int .i64 x1) := hB.cell 0
      have f1 : W4.cell? ⟨gF, 1, none⟩ = some (.int .i64 x2) := hB.cell 1
      have fo : W4.old gF := hB.old
      clear hB
      have hB := HBS.out.at 0 rfl
      have g0 : W4.cell? ⟨gT, 0, none⟩ = some (.int .i64 y1) := hB.cell 0
      have g1 : W4.cell? ⟨gT, 1, none⟩ = some (.int .i64 y2) := hB.cell 1
      have go : W4.old gT := hB.old
      clear hB
      go_wp2_with fail
      refine (HIL.out _ _ (HEd4.out.ext (by repeat (first | exact Ext.refl _ | apply Ext.plus | apply Ext.alloc | apply Ext.drew)))).mono ?_
      rintro e _ ⟨p, b, a, rfl, ⟨X2, rfl⟩, hE⟩
      obtain ⟨s1, s2, s3, s4, s5, s6, rfl, rfl, rfl⟩ := eDesk_shape hE
      have HEs := Lib.hid hE
      unfold Dk.val at HEs
      clear hE
      go_upto_region 5 with fail
      clear e0 e1 e2 e3 e4 eo f0 f1 fo g0 g1 go
      have h := Blk.new (w := W4.plus X2) (cs := [.slice s1 D1.pairs.length s2, .slice s3 D1.box.length s4, .slice s5 D1.audit.length s6, (.int .i64 D1.used), (.int .i64 D1.now), (.int .i64 C1)].toArray) (ty := 31) rfl
      simp only [World.size_plus] at h
      refine gen_world (fun W5 hW => ?_)
      have HE : Hid (Ext W4 W5) := Lib.hid (by rw [hW]; exact (by repeat (first | exact Ext.refl _ | apply Ext.plus | apply Ext.alloc | apply Ext.drew)))
      have HEX : Hid (Ext (W4.plus X2) W5) := Lib.hid (by rw [hW]; exact (by repeat (first | exact Ext.refl _ | apply Ext.plus | apply Ext.alloc | apply Ext.drew)))
      have h2 : Blk W5 (W4.heap.size + X2.n) [.slice s1 D1.pairs.length s2, .slice s3 D1.box.length s4, .slice s5 D1.audit.length s6, (.int .i64 D1.used), (.int .i64 D1.now), (.int .i64 C1)] 31 := by rw [hW]; exact h
      clear hW h
      generalize W4.heap.size + X2.n = gS at h2 ⊢
      have HBS5 := Lib.hid ((HBS.out.ext HE.out).cons h2)
      clear h2
      have HEd := Lib.hid (HEd4.out.ext HE.out)
      have HEs5 := Lib.hid (HEs.out.ext HEX.out)
      have HW5 := Lib.hid (HW.out.trans HE.out)
      clear HE HEX HEd4 HEs HW HBS X2 W4
      go_wp2_with fail
      refine (drawNextTime_any _ l2 _ (HL2.out.ext rU8_stable (HW5.out.trans (by repeat (first | exact Ext.refl _ | apply Ext.plus | apply Ext.alloc | apply Ext.drew)))) hl2).mono ?_
      rintro e _ ⟨n, p, b, a, rfl, hE, hI, ⟨X3, rfl⟩⟩
      obtain ⟨n1, n2, n3, n4, n5, n6, rfl, rfl, rfl⟩ := eDesk_shape hE
      have hsn : n.sz ≤ 1048576 := by have := hI.sz (by decide); omega
      obtain ⟨⟨D2, C2⟩, hr2⟩ : ∃ r : Dk × Int, nextR n = r := ⟨_, rfl⟩
      have HIN := Lib.hid (fun v w (h : eDesk w v n) => (by have := implNext_e n v w h hsn; rw [hr2] at this; exact this : Calls Try.prog 9 #[v] w fun e w' => ∃ p b a, e = .returned (.agg #[p, b, a, (.int .i64 D2.used), (.int .i64 D2.now), (.int .i64 C2)]) ∧ Ext w w' ∧ eDesk w' (Dk.val D2 p b a) D2))
      have HSN := Lib.hid (fun v w (h : eDesk w v n) => (by have := specNext_e n v w h hsn; rw [hr2] at this; exact this : Calls Try.prog 13 #[v] w fun e w' => ∃ p b a, e = .returned (.agg #[p, b, a, (.int .i64 D2.used), (.int .i64 D2.now), (.int .i64 C2)]) ∧ Ext w w' ∧ eDesk w' (Dk.val D2 p b a) D2))
      have HZ2 : Hid (C2 = 0 → D2 = nextD n ∧ boxR D2 = true) := Lib.hid (fun hc => by
        have := nextR_zero (d := n) (by rw [hr2]; exact hc)
        rw [hr2] at this
        obtain ⟨h1, h2⟩ := this
        dsimp only at h1
        rw [h1]; exact ⟨rfl, h2⟩)
      have hs2 : D2.sz ≤ 1048576 := by
        have := (nextR_ok (d := n) (eDesk_oks hE).1 hI.op hI.oa).2.2.2.2.2
        rw [hr2] at this
        dsimp only at this; omega
      have HEn := Lib.hid hE
      clear hE hr2 hI
      unfold Dk.val at HEn ⊢
      go_upto_region 6 with fail
      have h := Blk.new (w := W5.plus X3) (cs := [.slice n1 n.pairs.length n2, .slice n3 n.box.length n4, .slice n5 n.audit.length n6, (.int .i64 n.used), (.int .i64 n.now)].toArray) (ty := 25) rfl
      simp only [World.size_plus] at h
      refine gen_world (fun W6 hW => ?_)
      have HE : Hid (Ext W5 W6) := Lib.hid (by rw [hW]; exact (by repeat (first | exact Ext.refl _ | apply Ext.plus | apply Ext.alloc | apply Ext.drew)))
      have HEX : Hid (Ext (W5.plus X3) W6) := Lib.hid (by rw [hW]; exact (by repeat (first | exact Ext.refl _ | apply Ext.plus | apply Ext.alloc | apply Ext.drew)))
      have h2 : Blk W6 (W5.heap.size + X3.n) [.slice n1 n.pairs.length n2, .slice n3 n.box.length n4, .slice n5 n.audit.length n6, (.int .i64 n.used), (.int .i64 n.now)] 25 := by rw [hW]; exact h
      clear hW h
      generalize W5.heap.size + X3.n = gN at h2 ⊢
      have HBS := Lib.hid ((HBS5.out.ext HE.out).cons h2)
      clear h2
      have HEd6 := Lib.hid (HEd.out.ext HE.out)
      have HEs6 := Lib.hid (HEs5.out.ext HE.out)
      have HEn6 := Lib.hid (HEn.out.ext HEX.out)
      have HW6 := Lib.hid (HW5.out.trans HE.out)
      clear HE HEX HEd HEs5 HEn HW5 HBS5 X3 W5
      have hB := HBS.out.at 0 rfl
      have e0 : W6.cell? ⟨gN, 0, none⟩ = some (.slice n1 n.pairs.length n2) := hB.cell 0
      have e1 : W6.cell? ⟨gN, 1, none⟩ = some (.slice n3 n.box.length n4) := hB.cell 1
      have e2 : W6.cell? ⟨gN, 2, none⟩ = some (.slice n5 n.audit.length n6) := hB.cell 2
      have e3 : W6.cell? ⟨gN, 3, none⟩ = some (.int .i64 n.used) := hB.cell 3
      have e4 : W6.cell? ⟨gN, 4, none⟩ = some (.int .i64 n.now) := hB.cell 4
      have eo : W6.old gN := hB.old
      clear hB
      go_wp2_with fail
      refine (HIN.out _ _ (HEn6.out.ext (by repeat (first | exact Ext.refl _ | apply Ext.plus | apply Ext.alloc | apply Ext.drew)))).mono ?_
      rintro e _ ⟨p, b, a, rfl, ⟨X4, rfl⟩, hE⟩
      obtain ⟨t1, t2, t3, t4, t5, t6, rfl, rfl, rfl⟩ := eDesk_shape hE
      have HEt := Lib.hid hE
      unfold Dk.val at HEt
      clear hE
      go_upto_region 7 with fail
      clear e0 e1 e2 e3 e4 eo
      have h := Blk.new (w := W6.plus X4) (cs := [.slice t1 D2.pairs.length t2, .slice t3 D2.box.length t4, .slice t5 D2.audit.length t6, (.int .i64 D2.used), (.int .i64 D2.now), (.int .i64 C2)].toArray) (ty := 31) rfl
      simp only [World.size_plus] at h
      refine gen_world (fun W7 hW => ?_)
      have HE : Hid (Ext W6 W7) := Lib.hid (by rw [hW]; exact (by repeat (first | exact Ext.refl _ | apply Ext.plus | apply Ext.alloc | apply Ext.drew)))
      have HEX : Hid (Ext (W6.plus X4) W7) := Lib.hid (by rw [hW]; exact (by repeat (first | exact Ext.refl _ | apply Ext.plus | apply Ext.alloc | apply Ext.drew)))
      have h2 : Blk W7 (W6.heap.size + X4.n) [.slice t1 D2.pairs.length t2, .slice t3 D2.box.length t4, .slice t5 D2.audit.length t6, (.int .i64 D2.used), (.int .i64 D2.now), (.int .i64 C2)] 31 := by rw [hW]; exact h
      clear hW h
      generalize W6.heap.size + X4.n = gY at h2 ⊢
      have HBS7 := Lib.hid ((HBS.out.ext HE.out).cons h2)
      clear h2
      have HEd7 := Lib.hid (HEd6.out.ext HE.out)
      have HEs7 := Lib.hid (HEs6.out.ext HE.out)
      have HEn7 := Lib.hid (HEn6.out.ext HE.out)
      have HEt7 := Lib.hid (HEt.out.ext HEX.out)
      have HW7 := Lib.hid (HW6.out.trans HE.out)
      clear HE HEX HEd6 HEs6 HEn6 HEt HW6 HBS X4 W6
      go_wp2_with fail
      refine (drawReads_any _ l1 _ (HL1.out.ext rU8_stable (HW7.out.trans (by repeat (first | exact Ext.refl _ | apply Ext.plus | apply Ext.alloc | apply Ext.drew)))) hl1).mono ?_
      rintro e _ ⟨r, p, b, a, ⟨z1, z2⟩, rfl, hE, hI, hz, ⟨X5, rfl⟩⟩
      obtain ⟨r1, r2, r3, r4, r5, r6, rfl, rfl, rfl⟩ := eDesk_shape hE
      have hsr : r.sz ≤ 1048576 := by have := hI.sz (by decide); omega
      have HEr := Lib.hid hE
      clear hE hI hz
      unfold Dk.val at HEr ⊢
      dsimp only
      go_upto_region 8 with fail
      have h1 := (Blk.new (w := W7.plus X5) (cs := #[.slice r1 r.pairs.length r2, .slice r3 r.box.length r4, .slice r5 r.audit.length r6, (.int .i64 r.used), (.int .i64 r.now)]) (ty := 25) rfl).ext ((Ext.refl _).alloc (.cells #[(.int .i64 z1), (.int .i64 z2)] 27))
      have h2 := (Blk.new (b := W7.heap.size + X5.n + 1) (w := (W7.plus X5).alloc (.cells #[.slice r1 r.pairs.length r2, .slice r3 r.box.length r4, .slice r5 r.audit.length r6, (.int .i64 r.used), (.int .i64 r.now)] 25)) (cs := #[(.int .i64 z1), (.int .i64 z2)]) (ty := 27) (by simp))
      simp only [World.size_plus] at h1
      refine gen_world (fun W hW => ?_)
      have HE : Hid (Ext W7 W) := Lib.hid (by rw [hW]; exact (by repeat (first | exact Ext.refl _ | apply Ext.plus | apply Ext.alloc | apply Ext.drew)))
      have HEr8 : Hid (eDesk W (.agg #[.slice r1 r.pairs.length r2, .slice r3 r.box.length r4, .slice r5 r.audit.length r6, (.int .i64 r.used), (.int .i64 r.now)]) r) := Lib.hid (by rw [hW]; exact HEr.out.ext (by repeat (first | exact Ext.refl _ | apply Ext.plus | apply Ext.alloc | apply Ext.drew)))
      rw [← hW] at h1 h2
      clear hW HEr
      generalize W7.heap.size + X5.n = gR at h1 h2 ⊢
      generalize gR + 1 = gZ at h2 ⊢
      have HBS := Lib.hid (((HBS7.out.ext HE.out).cons h1).cons h2)
      have HEd := Lib.hid (HEd7.out.ext HE.out)
      have HEs := Lib.hid (HEs7.out.ext HE.out)
      have HEn := Lib.hid (HEn7.out.ext HE.out)
      have HEt := Lib.hid (HEt7.out.ext HE.out)
      have HW := Lib.hid (HW7.out.trans HE.out)
      clear HE HEd7 HEs7 HEn7 HEt7 HW7 HBS7 h1 h2 X5 W7
      -- from the youngest: gZ gR gY gN gS gT gF gD
      have hB := HBS.out.at 0 rfl
      have kz0 : W.cell? ⟨gZ, 0, none⟩ = some (.int .i64 z1) := hB.cell 0
      have kz1 : W.cell? ⟨gZ, 1, none⟩ = some (.int .i64 z2) := hB.cell 1
      have kzo : W.old gZ := hB.old
      clear hB
      have hB := HBS.out.at 1 rfl
      have kr0 : W.cell? ⟨gR, 0, none⟩ = some (.slice r1 r.pairs.length r2) := hB.cell 0
      have kr1 : W.cell? ⟨gR, 1, none⟩ = some (.slice r3 r.box.length r4) := hB.cell 1
      have kr2 : W.cell? ⟨gR, 2, none⟩ = some (.slice r5 r.audit.length r6) := hB.cell 2
      have kr3 : W.cell? ⟨gR, 3, none⟩ = some (.int .i64 r.used) := hB.cell 3
      have kr4 : W.cell? ⟨gR, 4, none⟩ = some (.int .i64 r.now) := hB.cell 4
      have kro : W.old gR := hB.old
      clear hB
      have hB := HBS.out.at 2 rfl
      have ky0 : W.cell? ⟨gY, 0, none⟩ = some (.slice t1 D2.pairs.length t2) := hB.cell 0
      have ky1 : W.cell? ⟨gY, 1, none⟩ = some (.slice t3 D2.box.length t4) := hB.cell 1
      have ky2 : W.cell? ⟨gY, 2, none⟩ = some (.slice t5 D2.audit.length t6) := hB.cell 2
      have ky3 : W.cell? ⟨gY, 3, none⟩ = some (.int .i64 D2.used) := hB.cell 3
      have ky4 : W.cell? ⟨gY, 4, none⟩ = some (.int .i64 D2.now) := hB.cell 4
      have kyo : W.old gY := hB.old
      clear hB
      have ky5 : W.cell? ⟨gY, 5, none⟩ = some (.int .i64 C2) := (HBS.out.at 2 rfl).cell 5
      have hB := HBS.out.at 3 rfl
      have kn0 : W.cell? ⟨gN, 0, none⟩ = some (.slice n1 n.pairs.length n2) := hB.cell 0
      have kn1 : W.cell? ⟨gN, 1, none⟩ = some (.slice n3 n.box.length n4) := hB.cell 1
      have kn2 : W.cell? ⟨gN, 2, none⟩ = some (.slice n5 n.audit.length n6) := hB.cell 2
      have kn3 : W.cell? ⟨gN, 3, none⟩ = some (.int .i64 n.used) := hB.cell 3
      have kn4 : W.cell? ⟨gN, 4, none⟩ = some (.int .i64 n.now) := hB.cell 4
      have kno : W.old gN := hB.old
      clear hB
      have hB := HBS.out.at 4 rfl
      have ks0 : W.cell? ⟨gS, 0, none⟩ = some (.slice s1 D1.pairs.length s2) := hB.cell 0
      have ks1 : W.cell? ⟨gS, 1, none⟩ = some (.slice s3 D1.box.length s4) := hB.cell 1
      have ks2 : W.cell? ⟨gS, 2, none⟩ = some (.slice s5 D1.audit.length s6) := hB.cell 2
      have ks3 : W.cell? ⟨gS, 3, none⟩ = some (.int .i64 D1.used) := hB.cell 3
      have ks4 : W.cell? ⟨gS, 4, none⟩ = some (.int .i64 D1.now) := hB.cell 4
      have kso : W.old gS := hB.old
      clear hB
      have ks5 : W.cell? ⟨gS, 5, none⟩ = some (.int .i64 C1) := (HBS.out.at 4 rfl).cell 5
      have hB := HBS.out.at 5 rfl
      have kt0 : W.cell? ⟨gT, 0, none⟩ = some (.int .i64 y1) := hB.cell 0
      have kt1 : W.cell? ⟨gT, 1, none⟩ = some (.int .i64 y2) := hB.cell 1
      have kto : W.old gT := hB.old
      clear hB
      have hB := HBS.out.at 6 rfl
      have kf0 : W.cell? ⟨gF, 0, none⟩ = some (.int .i64 x1) := hB.cell 0
      have kf1 : W.cell? ⟨gF, 1, none⟩ = some (.int .i64 x2) := hB.cell 1
      have kfo : W.old gF := hB.old
      clear hB
      have hB := HBS.out.at 7 rfl
      have kd0 : W.cell? ⟨gD, 0, none⟩ = some (.slice p1 d.pairs.length p2) := hB.cell 0
      have kd1 : W.cell? ⟨gD, 1, none⟩ = some (.slice b1 d.box.length b2) := hB.cell 1
      have kd2 : W.cell? ⟨gD, 2, none⟩ = some (.slice a1 d.audit.length a2) := hB.cell 2
      have kd3 : W.cell? ⟨gD, 3, none⟩ = some (.int .i64 d.used) := hB.cell 3
      have kd4 : W.cell? ⟨gD, 4, none⟩ = some (.int .i64 d.now) := hB.cell 4
      have kdo : W.old gD := hB.old
      clear hB
      (refine wp_region_y 32 [(fun u _ => u = (.agg #[.slice s1 D1.pairs.length s2, .slice s3 D1.box.length s4, .slice s5 D1.audit.length s6, (.int .i64 D1.used), (.int .i64 D1.now), (.int .i64 C1)])), (fun u _ => u = (.agg #[.slice p1 d.pairs.length p2, .slice b1 d.box.length b2, .slice a1 d.audit.length a2, (.int .i64 d.used), (.int .i64 d.now)])), (fun u _ => u = (.agg #[(.int .i64 x1), (.int .i64 x2)])), (fun u _ => u = (.agg #[(.int .i64 y1), (.int .i64 y2)])), (fun u _ => u = (.int .i64 q)), kDk D1 C1, (fun u _ => u = (.bool true)), (fun u _ => u = (.bool false)), (fun u _ => u = (.bool false)), (fun u _ => u = (.agg #[.slice t1 D2.pairs.length t2, .slice t3 D2.box.length t4, .slice t5 D2.audit.length t6, (.int .i64 D2.used), (.int .i64 D2.now), (.int .i64 C2)])), (fun u _ => u = (.agg #[.slice n1 n.pairs.length n2, .slice n3 n.box.length n4, .slice n5 n.audit.length n6, (.int .i64 n.used), (.int .i64 n.now)])), kDk D2 C2, (fun u _ => u = (.bool true)), (fun u _ => u = (.bool false)), (fun u _ => u = (.bool false)), (fun u _ => u = (.bool false)), (fun u _ => u = (.agg #[.slice r1 r.pairs.length r2, .slice r3 r.box.length r4, .slice r5 r.audit.length r6, (.int .i64 r.used), (.int .i64 r.now)])), (fun u _ => u = (.agg #[(.int .i64 z1), (.int .i64 z2)])), kSli (readsD r ⟨z1, z2⟩), (fun u _ => u = (.agg #[.slice r1 r.pairs.length r2, .slice r3 r.box.length r4, .slice r5 r.audit.length r6, (.int .i64 r.used), (.int .i64 r.now)])), (fun u _ => u = (.agg #[(.int .i64 z1), (.int .i64 z2)])), kSli (readsD r ⟨z1, z2⟩), (fun u _ => u = (.bool true)), (fun u _ => u = (.bool false)), (fun u _ => u = (.bool false)), (fun u _ => u = (.bool false)), (fun u _ => u = (.agg #[.slice p1 d.pairs.length p2, .slice b1 d.box.length b2, .slice a1 d.audit.length a2, (.int .i64 d.used), (.int .i64 d.now)])), (fun u _ => u = (.bool (boxR d))), (fun u _ => u = (.agg #[.slice p1 d.pairs.length p2, .slice b1 d.box.length b2, .slice a1 d.audit.length a2, (.int .i64 d.used), (.int .i64 d.now)])), (fun u _ => u = (.bool (boxR d))), (fun u _ => u = (.bool false)), (fun u _ => u = (.bool false))] (by kernel_rfl) (by kernel_rfl) (by kernel_rfl) rfl ?_ (by (repeat' (first | exact trivial | exact XReg.GoodK.same _ default | refine And.intro ?_ ?_)); all_goals (first | exact kDk_good HEs.out | exact kDk_good HEt.out | exact kRd_good HEr8.out hsr)))
      (apply YReg.val (.agg #[.slice s1 D1.pairs.length s2, .slice s3 D1.box.length s4, .slice s5 D1.audit.length s6, (.int .i64 D1.used), (.int .i64 D1.now), (.int .i64 C1)]); (case h => (intro w' hw' hF'; obtain ⟨X', rfl⟩ := hw'; have HF' := Lib.hid hF'; clear hF'; go_wp2_with (fail); exact ⟨rfl, (by repeat (first | exact Ext.refl _ | apply Ext.plus | apply Ext.alloc | apply Ext.drew))⟩)); (case hv => kernel_rfl))
      (apply YReg.val (.agg #[.slice p1 d.pairs.length p2, .slice b1 d.box.length b2, .slice a1 d.audit.length a2, (.int .i64 d.used), (.int .i64 d.now)]); (case h => (intro w' hw' hF'; obtain ⟨X', rfl⟩ := hw'; have HF' := Lib.hid hF'; clear hF'; go_wp2_with (fail); exact ⟨rfl, (by repeat (first | exact Ext.refl _ | apply Ext.plus | apply Ext.alloc | apply Ext.drew))⟩)); (case hv => kernel_rfl))
      (apply YReg.val (.agg #[(.int .i64 x1), (.int .i64 x2)]); (case h => (intro w' hw' hF'; obtain ⟨X', rfl⟩ := hw'; have HF' := Lib.hid hF'; clear hF'; go_wp2_with (fail); exact ⟨rfl, (by repeat (first | exact Ext.refl _ | apply Ext.plus | apply Ext.alloc | apply Ext.drew))⟩)); (case hv => kernel_rfl))
      (apply YReg.val (.agg #[(.int .i64 y1), (.int .i64 y2)]); (case h => (intro w' hw' hF'; obtain ⟨X', rfl⟩ := hw'; have HF' := Lib.hid hF'; clear hF'; go_wp2_with (fail); exact ⟨rfl, (by repeat (first | exact Ext.refl _ | apply Ext.plus | apply Ext.alloc | apply Ext.drew))⟩)); (case hv => kernel_rfl))
      (apply YReg.val (.int .i64 q); (case h => (intro w' hw' hF'; obtain ⟨X', rfl⟩ := hw'; have HF' := Lib.hid hF'; clear hF'; go_wp2_with (fail); exact ⟨rfl, (by repeat (first | exact Ext.refl _ | apply Ext.plus | apply Ext.alloc | apply Ext.drew))⟩)); (case hv => kernel_rfl))
      refine YReg.kind (fun w' hw' hF' => ?_) (fun v w1 hK => ?_)
      · obtain ⟨X', rfl⟩ := hw'
        clear hF'
        go_wp2_with fail
        refine (HSL.out _ _ (HEd.out.ext (by repeat (first | exact Ext.refl _ | apply Ext.plus | apply Ext.alloc | apply Ext.drew)))).mono ?_
        rintro e _ ⟨p, b, a, rfl, ⟨Y, rfl⟩, hE⟩
        obtain ⟨o1, o2, o3, o4, o5, o6, rfl, rfl, rfl⟩ := eDesk_shape hE
        have H9 := Lib.hid hE
        unfold Dk.val at H9
        clear hE
        go_wp2
        exact ⟨(by repeat (first | exact Ext.refl _ | apply Ext.plus | apply Ext.alloc | apply Ext.drew)), _, _, _, _, _, _, rfl, H9.out⟩
      obtain ⟨g1, g2, g3, g4, g5, g6, rfl, hk⟩ := hK
      clear hk w1
      (apply YReg.val (.bool true); (case h => (intro w' hw' hF'; obtain ⟨X', rfl⟩ := hw'; have HF' := Lib.hid hF'; clear hF'; go_wp2_with ((go_at_call 11; have hk := (HF'.out.get 5 (p := (kDk D1 C1, (.agg #[.slice g1 D1.pairs.length g2, .slice g3 D1.box.length g4, .slice g5 D1.audit.length g6, (.int .i64 D1.used), (.int .i64 D1.now), (.int .i64 C1)]))) (by kernel_rfl) (by kernel_rfl)); refine (lwDesk_any D1 C1 _ _ _ _ _ _ _ (HEs.out.ext (by repeat (first | exact Ext.refl _ | apply Ext.plus | apply Ext.alloc | apply Ext.drew))) (kDk_e hk) (fun hc => (HZ1.out hc).2.1)).mono ?_; clear hk; rintro e _ ⟨rfl, Y, rfl⟩)); exact ⟨rfl, (by repeat (first | exact Ext.refl _ | apply Ext.plus | apply Ext.alloc | apply Ext.drew))⟩)); (case hv => kernel_rfl))
      (apply YReg.val (.bool false); (case h => (intro w' hw' hF'; obtain ⟨X', rfl⟩ := hw'; have HF' := Lib.hid hF'; clear hF'; go_wp2_with (fail); exact ⟨rfl, (by repeat (first | exact Ext.refl _ | apply Ext.plus | apply Ext.alloc | apply Ext.drew))⟩)); (case hv => kernel_rfl))
      (apply YReg.val (.bool false); (case h => (intro w' hw' hF'; obtain ⟨X', rfl⟩ := hw'; have HF' := Lib.hid hF'; clear hF'; go_wp2_with (fail); exact ⟨rfl, (by repeat (first | exact Ext.refl _ | apply Ext.plus | apply Ext.alloc | apply Ext.drew))⟩)); (case hv => kernel_rfl))
      (apply YReg.val (.agg #[.slice t1 D2.pairs.length t2, .slice t3 D2.box.length t4, .slice t5 D2.audit.length t6, (.int .i64 D2.used), (.int .i64 D2.now), (.int .i64 C2)]); (case h => (intro w' hw' hF'; obtain ⟨X', rfl⟩ := hw'; have HF' := Lib.hid hF'; clear hF'; go_wp2_with (fail); exact ⟨rfl, (by repeat (first | exact Ext.refl _ | apply Ext.plus | apply Ext.alloc | apply Ext.drew))⟩)); (case hv => kernel_rfl))
      (apply YReg.val (.agg #[.slice n1 n.pairs.length n2, .slice n3 n.box.length n4, .slice n5 n.audit.length n6, (.int .i64 n.used), (.int .i64 n.now)]); (case h => (intro w' hw' hF'; obtain ⟨X', rfl⟩ := hw'; have HF' := Lib.hid hF'; clear hF'; go_wp2_with (fail); exact ⟨rfl, (by repeat (first | exact Ext.refl _ | apply Ext.plus | apply Ext.alloc | apply Ext.drew))⟩)); (case hv => kernel_rfl))
      refine YReg.kind (fun w' hw' hF' => ?_) (fun v w1 hK => ?_)
      · obtain ⟨X', rfl⟩ := hw'
        clear hF'
        go_wp2_with fail
        refine (HSN.out _ _ (HEn.out.ext (by repeat (first | exact Ext.refl _ | apply Ext.plus | apply Ext.alloc | apply Ext.drew)))).mono ?_
        rintro e _ ⟨p, b, a, rfl, ⟨Y, rfl⟩, hE⟩
        obtain ⟨o1, o2, o3, o4, o5, o6, rfl, rfl, rfl⟩ := eDesk_shape hE
        have H9 := Lib.hid hE
        unfold Dk.val at H9
        clear hE
        go_wp2
        exact ⟨(by repeat (first | exact Ext.refl _ | apply Ext.plus | apply Ext.alloc | apply Ext.drew)), _, _, _, _, _, _, rfl, H9.out⟩
      obtain ⟨i1, i2, i3, i4, i5, i6, rfl, hk⟩ := hK
      clear hk w1
      (apply YReg.val (.bool true); (case h => (intro w' hw' hF'; obtain ⟨X', rfl⟩ := hw'; have HF' := Lib.hid hF'; clear hF'; go_wp2_with ((go_at_call 11; have hk := (HF'.out.get 11 (p := (kDk D2 C2, (.agg #[.slice i1 D2.pairs.length i2, .slice i3 D2.box.length i4, .slice i5 D2.audit.length i6, (.int .i64 D2.used), (.int .i64 D2.now), (.int .i64 C2)]))) (by kernel_rfl) (by kernel_rfl)); refine (lwDesk_any D2 C2 _ _ _ _ _ _ _ (HEt.out.ext (by repeat (first | exact Ext.refl _ | apply Ext.plus | apply Ext.alloc | apply Ext.drew))) (kDk_e hk) (fun hc => (HZ2.out hc).2)).mono ?_; clear hk; rintro e _ ⟨rfl, Y, rfl⟩)); exact ⟨rfl, (by repeat (first | exact Ext.refl _ | apply Ext.plus | apply Ext.alloc | apply Ext.drew))⟩)); (case hv => kernel_rfl))
      (apply YReg.val (.bool false); (case h => (intro w' hw' hF'; obtain ⟨X', rfl⟩ := hw'; have HF' := Lib.hid hF'; clear hF'; go_wp2_with (fail); exact ⟨rfl, (by repeat (first | exact Ext.refl _ | apply Ext.plus | apply Ext.alloc | apply Ext.drew))⟩)); (case hv => kernel_rfl))
      (apply YReg.val (.bool false); (case h => (intro w' hw' hF'; obtain ⟨X', rfl⟩ := hw'; have HF' := Lib.hid hF'; clear hF'; go_wp2_with (fail); exact ⟨rfl, (by repeat (first | exact Ext.refl _ | apply Ext.plus | apply Ext.alloc | apply Ext.drew))⟩)); (case hv => kernel_rfl))
      (apply YReg.val (.bool false); (case h => (intro w' hw' hF'; obtain ⟨X', rfl⟩ := hw'; have HF' := Lib.hid hF'; clear hF'; go_wp2_with (fail); exact ⟨rfl, (by repeat (first | exact Ext.refl _ | apply Ext.plus | apply Ext.alloc | apply Ext.drew))⟩)); (case hv => kernel_rfl))
      (apply YReg.val (.agg #[.slice r1 r.pairs.length r2, .slice r3 r.box.length r4, .slice r5 r.audit.length r6, (.int .i64 r.used), (.int .i64 r.now)]); (case h => (intro w' hw' hF'; obtain ⟨X', rfl⟩ := hw'; have HF' := Lib.hid hF'; clear hF'; go_wp2_with (fail); exact ⟨rfl, (by repeat (first | exact Ext.refl _ | apply Ext.plus | apply Ext.alloc | apply Ext.drew))⟩)); (case hv => kernel_rfl))
      (apply YReg.val (.agg #[(.int .i64 z1), (.int .i64 z2)]); (case h => (intro w' hw' hF'; obtain ⟨X', rfl⟩ := hw'; have HF' := Lib.hid hF'; clear hF'; go_wp2_with (fail); exact ⟨rfl, (by repeat (first | exact Ext.refl _ | apply Ext.plus | apply Ext.alloc | apply Ext.drew))⟩)); (case hv => kernel_rfl))
      refine YReg.kind (fun w' hw' hF' => ?_) (fun v w1 hK => ?_)
      · obtain ⟨X', rfl⟩ := hw'
        clear hF'
        go_wp2_with fail
        refine (implReads_e r _ ⟨z1, z2⟩ _ (HEr8.out.ext (by repeat (first | exact Ext.refl _ | apply Ext.plus | apply Ext.alloc | apply Ext.drew))) hsr).mono ?_
        rintro e _ ⟨v', rfl, ⟨Y, rfl⟩, a9, c9, rfl, hs⟩
        have H9 := Lib.hid hs
        clear hs
        go_wp2
        exact ⟨(by repeat (first | exact Ext.refl _ | apply Ext.plus | apply Ext.alloc | apply Ext.drew)), _, _, rfl, H9.out⟩
      obtain ⟨u1, u2, rfl, hk⟩ := hK
      clear hk w1
      (apply YReg.val (.agg #[.slice r1 r.pairs.length r2, .slice r3 r.box.length r4, .slice r5 r.audit.length r6, (.int .i64 r.used), (.int .i64 r.now)]); (case h => (intro w' hw' hF'; obtain ⟨X', rfl⟩ := hw'; have HF' := Lib.hid hF'; clear hF'; go_wp2_with (fail); exact ⟨rfl, (by repeat (first | exact Ext.refl _ | apply Ext.plus | apply Ext.alloc | apply Ext.drew))⟩)); (case hv => kernel_rfl))
      (apply YReg.val (.agg #[(.int .i64 z1), (.int .i64 z2)]); (case h => (intro w' hw' hF'; obtain ⟨X', rfl⟩ := hw'; have HF' := Lib.hid hF'; clear hF'; go_wp2_with (fail); exact ⟨rfl, (by repeat (first | exact Ext.refl _ | apply Ext.plus | apply Ext.alloc | apply Ext.drew))⟩)); (case hv => kernel_rfl))
      refine YReg.kind (fun w' hw' hF' => ?_) (fun v w1 hK => ?_)
      · obtain ⟨X', rfl⟩ := hw'
        clear hF'
        go_wp2_with fail
        refine (specReads_e r _ ⟨z1, z2⟩ _ (HEr8.out.ext (by repeat (first | exact Ext.refl _ | apply Ext.plus | apply Ext.alloc | apply Ext.drew))) hsr).mono ?_
        rintro e _ ⟨v', rfl, ⟨Y, rfl⟩, a9, c9, rfl, hs⟩
        have H9 := Lib.hid hs
        clear hs
        go_wp2
        exact ⟨(by repeat (first | exact Ext.refl _ | apply Ext.plus | apply Ext.alloc | apply Ext.drew)), _, _, rfl, H9.out⟩
      obtain ⟨m1, m2, rfl, hk⟩ := hK
      clear hk w1
      (apply YReg.val (.bool true); (case h => (intro w' hw' hF'; obtain ⟨X', rfl⟩ := hw'; have HF' := Lib.hid hF'; clear hF'; go_wp2_with ((go_at_call 14; have hk := (HF'.out.get 18 (p := (kSli (readsD r ⟨z1, z2⟩), (.slice u1 (readsD r ⟨z1, z2⟩).length u2))) (by kernel_rfl) (by kernel_rfl)); have hk2 := (HF'.out.get 21 (p := (kSli (readsD r ⟨z1, z2⟩), (.slice m1 (readsD r ⟨z1, z2⟩).length m2))) (by kernel_rfl) (by kernel_rfl)); refine (lwNums_self _ _ (readsD r ⟨z1, z2⟩) _ (kSli_r hk) (kSli_r hk2)).mono ?_; clear hk hk2; rintro e _ ⟨rfl, Y, rfl⟩)); exact ⟨rfl, (by repeat (first | exact Ext.refl _ | apply Ext.plus | apply Ext.alloc | apply Ext.drew))⟩)); (case hv => kernel_rfl))
      (apply YReg.val (.bool false); (case h => (intro w' hw' hF'; obtain ⟨X', rfl⟩ := hw'; have HF' := Lib.hid hF'; clear hF'; go_wp2_with (fail); exact ⟨rfl, (by repeat (first | exact Ext.refl _ | apply Ext.plus | apply Ext.alloc | apply Ext.drew))⟩)); (case hv => kernel_rfl))
      (apply YReg.val (.bool false); (case h => (intro w' hw' hF'; obtain ⟨X', rfl⟩ := hw'; have HF' := Lib.hid hF'; clear hF'; go_wp2_with (fail); exact ⟨rfl, (by repeat (first | exact Ext.refl _ | apply Ext.plus | apply Ext.alloc | apply Ext.drew))⟩)); (case hv => kernel_rfl))
      (apply YReg.val (.bool false); (case h => (intro w' hw' hF'; obtain ⟨X', rfl⟩ := hw'; have HF' := Lib.hid hF'; clear hF'; go_wp2_with (fail); exact ⟨rfl, (by repeat (first | exact Ext.refl _ | apply Ext.plus | apply Ext.alloc | apply Ext.drew))⟩)); (case hv => kernel_rfl))
      (apply YReg.val (.agg #[.slice p1 d.pairs.length p2, .slice b1 d.box.length b2, .slice a1 d.audit.length a2, (.int .i64 d.used), (.int .i64 d.now)]); (case h => (intro w' hw' hF'; obtain ⟨X', rfl⟩ := hw'; have HF' := Lib.hid hF'; clear hF'; go_wp2_with (fail); exact ⟨rfl, (by repeat (first | exact Ext.refl _ | apply Ext.plus | apply Ext.alloc | apply Ext.drew))⟩)); (case hv => kernel_rfl))
      (apply YReg.val (.bool (boxR d)); (case h => (intro w' hw' hF'; obtain ⟨X', rfl⟩ := hw'; have HF' := Lib.hid hF'; clear hF'; go_wp2_with ((go_at_call 17; refine (implBoxRight_any d _ _ (HEd.out.ext (by repeat (first | exact Ext.refl _ | apply Ext.plus | apply Ext.alloc | apply Ext.drew)))).mono ?_; rintro e _ ⟨rfl, X, rfl⟩)); exact ⟨rfl, (by repeat (first | exact Ext.refl _ | apply Ext.plus | apply Ext.alloc | apply Ext.drew))⟩)); (case hv => kernel_rfl))
      (apply YReg.val (.agg #[.slice p1 d.pairs.length p2, .slice b1 d.box.length b2, .slice a1 d.audit.length a2, (.int .i64 d.used), (.int .i64 d.now)]); (case h => (intro w' hw' hF'; obtain ⟨X', rfl⟩ := hw'; have HF' := Lib.hid hF'; clear hF'; go_wp2_with (fail); exact ⟨rfl, (by repeat (first | exact Ext.refl _ | apply Ext.plus | apply Ext.alloc | apply Ext.drew))⟩)); (case hv => kernel_rfl))
      (apply YReg.val (.bool (boxR d)); (case h => (intro w' hw' hF'; obtain ⟨X', rfl⟩ := hw'; have HF' := Lib.hid hF'; clear hF'; go_wp2_with ((go_at_call 18; refine (specBoxRight_any d _ _ (HEd.out.ext (by repeat (first | exact Ext.refl _ | apply Ext.plus | apply Ext.alloc | apply Ext.drew)))).mono ?_; rintro e _ ⟨rfl, X, rfl⟩)); exact ⟨rfl, (by repeat (first | exact Ext.refl _ | apply Ext.plus | apply Ext.alloc | apply Ext.drew))⟩)); (case hv => kernel_rfl))
      (apply YReg.val (.bool false); (case h => (intro w' hw' hF'; obtain ⟨X', rfl⟩ := hw'; have HF' := Lib.hid hF'; clear hF'; go_wp2_with (fail); exact ⟨rfl, (by repeat (first | exact Ext.refl _ | apply Ext.plus | apply Ext.alloc | apply Ext.drew))⟩)); (case hv => kernel_rfl))
      (apply YReg.val (.bool false); (case h => (intro w' hw' hF'; obtain ⟨X', rfl⟩ := hw'; have HF' := Lib.hid hF'; clear hF'; go_wp2_with (fail); exact ⟨rfl, (by repeat (first | exact Ext.refl _ | apply Ext.plus | apply Ext.alloc | apply Ext.drew))⟩)); (case hv => kernel_rfl))
      refine YReg.doneN (fun X hF => ?_)
      clear hF HIL HSL HIN HSN
      go_upto_region 10 with fail
      go_cut [95] from 15 (fun s95 wc => s95 = .bool false ∧ Ext W wc)
      case first =>
        by_cases hc2 : C2 = 0
        · have hz2 := HZ2.out hc2
          have HAU : Hid (D2.audit = n.audit) := Lib.hid (by rw [hz2.1]; rfl)
          have HRD : Hid (readsD D2 ⟨3, 7⟩ = []) := Lib.hid (by rw [hz2.1]; exact reads_next _)
          clear hz2
          subst hc2
          go_wp2_with fail
          refine (lwLetters_self _ _ D2.audit _ ((eDesk_aud HEt.out).ext rLtr_stable (by repeat (first | exact Ext.refl _ | apply Ext.plus | apply Ext.alloc | apply Ext.drew))) (by rw [HAU.out]; exact (eDesk_aud HEn.out).ext rLtr_stable (by repeat (first | exact Ext.refl _ | apply Ext.plus | apply Ext.alloc | apply Ext.drew)))).mono ?_
          rintro e _ ⟨rfl, X1, rfl⟩
          go_wp2_with fail
          refine (implReads_e D2 _ ⟨3, 7⟩ _ (HEt.out.ext (by repeat (first | exact Ext.refl _ | apply Ext.plus | apply Ext.alloc | apply Ext.drew))) hs2).mono ?_
          rintro e _ ⟨v', rfl, ⟨X2, rfl⟩, a9, c9, rfl, hs⟩
          rw [HRD.out]
          clear hs
          simp only [List.length_nil]
          go_wp2
          go_meet
          case rel => exact ⟨rfl, (by repeat (first | exact Ext.refl _ | apply Ext.plus | apply Ext.alloc | apply Ext.drew))⟩
        · have hne : (C2 == 0) = false := by simpa using hc2
          clear hc2
          go_wp2
          go_meet
          case rel => exact ⟨rfl, (by repeat (first | exact Ext.refl _ | apply Ext.plus | apply Ext.alloc | apply Ext.drew))⟩
      case rest =>
        obtain ⟨rfl, ⟨X9, rfl⟩⟩ := hcut
        by_cases hc1 : C1 = 0
        · obtain ⟨hD, -, ⟨l0, hl0⟩, hus0⟩ := HZ1.out hc1
          subst hc1
          have hLA : D1.audit = d.audit ++ [letX d ⟨x1, x2⟩ ⟨y1, y2⟩ q] := by rw [hD]; rfl
          have hln : D1.audit.length = d.audit.length + 1 := by rw [hLA]; simp
          have HTK : Hid (D1.audit.take d.audit.length = d.audit) := Lib.hid (by rw [hLA]; simp)
          have hAs := eDesk_aud HEs.out
          obtain ⟨sb, so, rfl⟩ := slr_some hAs (i := 0) (by omega)
          obtain ⟨-, hlc, hcm⟩ := slr_len hAs
          have HPRE := Lib.hid (slr_pre hAs (k := d.audit.length) (by omega))
          have hcap : (d.audit.length : Int) ≤ (s6 : Int) := by omega
          have hmx : d.audit.length + 1 ≤ 1048577 := by unfold Dk.sz at hsd; omega
          have heq : ((D1.audit.length : Int) == (d.audit.length : Int) + 1) = true := by rw [hln]; simp
          have hwa : IntKind.i64.wrap ((d.audit.length : Int) + 1) = (d.audit.length : Int) + 1 := IntWalk.i64_in _ (by omega)
          have hus : decide (D1.used ≤ 2) = true := decide_eq_true hus0
          have HL0 := Lib.hid hl0
          have hll : l0.length + 1 ≤ 1048576 := by
            have h1 := readsD_len D1 ⟨y1, y2⟩
            rw [hl0] at h1
            unfold Dk.sz at hs1
            simp at h1; omega
          clear hD hLA hl0 hus0 hAs hlc hcm hln
          go_wp2_with fail
          refine (implReads_e D1 _ ⟨y1, y2⟩ _ (HEs.out.ext (by repeat (first | exact Ext.refl _ | apply Ext.plus | apply Ext.alloc | apply Ext.drew))) hs1).mono ?_
          rintro e _ ⟨v', rfl, ⟨X10, rfl⟩, ua, uc, rfl, hs⟩
          rw [HL0.out] at hs ⊢
          obtain ⟨ub, uo, rfl⟩ := slr_some hs (i := l0.length) (by simp)
          obtain ⟨uho, -, uh⟩ := int_at hs (i := l0.length) (by simp)
          obtain ⟨M, hM⟩ : ∃ M, M = l0.length + 1 := ⟨_, rfl⟩
          have hM0 : 0 < M := by omega
          have hMx : M ≤ 1048576 := by omega
          have uh2 : ((W.plus X9).plus X10).cell? ⟨ub, uo + (M - 1), none⟩ = some (.int .i64 q) := by
            rw [hM, Nat.add_sub_cancel]; simpa using uh
          rw [show (l0 ++ [q]).length = M by rw [hM]; simp]
          clear hs uh hM hll HL0
          have hgt : decide ((0 : Int) < (M : Int)) = true := decide_eq_true (by omega)
          have hin : IntKind.i64.wrap ((M : Int) - 1) = (M : Int) - 1 := IntWalk.i64_in _ (by omega)
          have hcp2 : d.audit.length ≤ s6 := by omega
          clear HZ1 HZ2 hs1 hs2 hsd hsn hsr
          go_upto_region 15 with fail
          (refine wp_region_x 43 (by kernel_rfl) (by kernel_rfl) (by kernel_rfl) ?_; (iterate 43 (apply XReg.step; (case h => (intro w' hw'; obtain ⟨X', rfl⟩ := hw'; go_wp2_with ((go_at_call 19; refine (lwLetters_self _ _ d.audit _ (by have := HPRE.out; rw [HTK.out] at this; exact this.ext rLtr_stable (by repeat (first | exact Ext.refl _ | apply Ext.plus | apply Ext.alloc | apply Ext.drew))) ((eDesk_aud HEd.out).ext rLtr_stable (by repeat (first | exact Ext.refl _ | apply Ext.plus | apply Ext.alloc | apply Ext.drew)))).mono ?_; rintro e _ ⟨rfl, Y, rfl⟩)); exact ⟨rfl, (by repeat (first | exact Ext.refl _ | apply Ext.plus | apply Ext.alloc | apply Ext.drew))⟩)); (case hv => kernel_rfl))); refine XReg.doneN (fun X => ?_))
          go_wp2
          go_ret
          exact ⟨rfl, HW.out.trans (by repeat (first | exact Ext.refl _ | apply Ext.plus | apply Ext.alloc | apply Ext.drew))⟩
        · have hne : (C1 == 0) = false := by simpa using hc1
          have hne3 : (C1 != 0) = true := by simpa using hc1
          go_wp2
          go_ret
          exact ⟨rfl, HW.out.trans (by repeat (first | exact Ext.refl _ | apply Ext.plus | apply Ext.alloc | apply Ext.drew))⟩
    · have hb1 : decide ((1048576 : Int) < (l1.length : Int)) = false := decide_eq_false (by omega)
      have hb2 : decide ((1048576 : Int) < (l2.length : Int)) = true := decide_eq_true (by omega)
      go_enter Try.func3, Try.ntmps3
      go_wp2
      go_ret
      exact ⟨rfl, (by repeat (first | exact Ext.refl _ | apply Ext.plus | apply Ext.alloc | apply Ext.drew))⟩
  · have hb1 : decide ((1048576 : Int) < (l1.length : Int)) = true := decide_eq_true (by omega)
    go_enter Try.func3, Try.ntmps3
    go_wp2
    go_ret
    exact ⟨rfl, (by repeat (first | exact Ext.refl _ | apply Ext.plus | apply Ext.alloc | apply Ext.drew))⟩
end Go.Proofs.Ytocadhcggkbimaa
