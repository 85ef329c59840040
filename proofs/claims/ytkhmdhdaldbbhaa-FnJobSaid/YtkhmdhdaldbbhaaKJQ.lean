/- FnJob's draws. -/
import Derived.Test.YtkhmdhdaldbbhaaKDP
import Derived.Test.YtkhmdhdaldbbhaaKDR3
set_option maxRecDepth 100000
set_option linter.unusedVariables false
namespace Go.Proofs.Ytkhmdhdaldbbhaa
open Go.RowKit Go.Fin1
theorem chg_old {w w0 w1 : World} {g : Nat} (hx : Ext w w0) (hc : Chg [g] w0 w1) (hg : w.heap.size ≤ g) : Ext w w1 := hc.ext hx (by simpa using hg)
/-- A job in its box, and where its nodes lie. -/
def JbX (w W : World) (b : Nat) (j : Jb) (nv : Value) : Prop := Blk W b (j.cells nv) 27 ∧ Row w.heap.size W 2 1 intCell nv j.nodes
theorem JbD.lab {j : Jb} {n : Nat} (h : JbD j n) {x : Lab} (hx : x.ok) : JbD { j with l := x } n := by obtain ⟨h1, h2⟩ := h.ok; exact ⟨⟨hx, h2⟩, h.nd, h.ln⟩
def kStZ9 (b : Nat) (cs : List Value) (ty : TypeId) (_ : Nat × Nat) : XReg.Kind := fun _ u => Blk u b cs ty
theorem kStZ9_good {b : Nat} {cs : List Value} {ty : TypeId} {S U V : List Nat} (hV : b ∉ V) : (XReg.ZOp.A (kStZ9 b cs ty) S U V).Good :=
  ⟨fun _ _ _ _ hx h => h.chg hx hV, (0, 0), undef, _, Blk.new (w := emptyG b) (cs := cs.toArray) (emptyG_size b).symm⟩
set_option maxHeartbeats 3200000 in
theorem drawAhead_any (v : Value) (l : List Int) (w : World) (h : SlR w 1 rU8 v l) (hl : l.length ≤ 1048576) :
    Calls Try.prog 5 #[v] w fun e w' => ∃ (a b : Jb) (na : Option Addr) (nc : Nat) (ma : Option Addr) (mc : Nat), e = .returned (.tuple #[a.val (.slice na a.nodes.length nc), b.val (.slice ma b.nodes.length mc)]) ∧ Ext w w' ∧ JbD a 4 ∧ JbD b 4 ∧ SlR w' 1 rInt (.slice na a.nodes.length nc) a.nodes ∧ SlR w' 1 rInt (.slice ma b.nodes.length mc) b.nodes := by
  have HS := Lib.hid h
  clear h
  have H2 : Hid (I64 2) := Lib.hid (by unfold I64; omega)
  go_enter Try.func5, Try.ntmps5
  go_wp2_with fail
  refine (l01Source_any v l _ (HS.out.ext rU8_stable xt) hl).mono ?_
  rintro e w2 ⟨g, rfl, hg, hx, hs⟩
  have HG := Lib.hid (show w.heap.size + 1 < g by simp at hg; omega)
  have HRa := Lib.hid ((Blk.new (w := w) (cs := #[(.int .i64 0), (.int .i64 0), (.int .i64 0), (.int .i64 0), (.int .i64 0), (.int .i64 0), (.int .i64 0), (.int .i64 0), .slice none 0 0]) (ty := 27) rfl).ext (((Ext.refl _).alloc (.cells #[(.int .i64 0), (.int .i64 0), (.int .i64 0), (.int .i64 0), (.int .i64 0), (.int .i64 0), (.int .i64 0), (.int .i64 0), .slice none 0 0] 27)).trans hx))
  have HRb := Lib.hid ((Blk.new (b := w.heap.size + 1) (w := w.alloc (.cells #[(.int .i64 0), (.int .i64 0), (.int .i64 0), (.int .i64 0), (.int .i64 0), (.int .i64 0), (.int .i64 0), (.int .i64 0), .slice none 0 0] 27)) (cs := #[(.int .i64 0), (.int .i64 0), (.int .i64 0), (.int .i64 0), (.int .i64 0), (.int .i64 0), (.int .i64 0), (.int .i64 0), .slice none 0 0]) (ty := 27) (by simp)).ext hx)
  have HX := Lib.hid ((Ext.refl w).alloc (.cells #[(.int .i64 0), (.int .i64 0), (.int .i64 0), (.int .i64 0), (.int .i64 0), (.int .i64 0), (.int .i64 0), (.int .i64 0), .slice none 0 0] 27) |>.alloc (.cells #[(.int .i64 0), (.int .i64 0), (.int .i64 0), (.int .i64 0), (.int .i64 0), (.int .i64 0), (.int .i64 0), (.int .i64 0), .slice none 0 0] 27) |>.trans hx)
  have HA := Lib.hid hs
  have HW2 := Lib.hid (show w.heap.size + 1 < w2.heap.size from HRb.out.old)
  clear hx hs hg
  go_wp2_with fail
  refine (srcJob_any g _ v l HA.out).mono ?_
  rintro e w3 ⟨a, nv, rfl, hc, hs, hR, hD⟩
  obtain ⟨na, nc, rfl⟩ := hR.shape
  have HX3 := Lib.hid (chg_old HX.out hc (by have := HG.out; omega))
  have HA3 := Lib.hid hs
  have HRa3 := Lib.hid (HRa.out.chg hc (by have := HG.out; simp; omega))
  have HRb3 := Lib.hid (HRb.out.chg hc (by have := HG.out; simp; omega))
  have HN3 := Lib.hid (hR.mono (B' := w2.heap.size) (Nat.le_refl _))
  have HDa := Lib.hid hD
  have HGs := Lib.hid HA.out.old
  clear hc hs hR hD HX HA HRa HRb
  unfold Jb.val
  go_upto_region 3 with fail
  refine gen_world (fun W3 hW => ?_)
  have HX4 := Lib.hid (show Ext w W3 by rw [hW]; exact HX3.out.trans xt)
  have HA4 := Lib.hid (show SrcA W3 g v l by rw [hW]; exact HA3.out.ext xt)
  have HRa4 := Lib.hid (show Blk W3 w.heap.size [(.int .i64 0), (.int .i64 0), (.int .i64 0), (.int .i64 0), (.int .i64 0), (.int .i64 0), (.int .i64 0), (.int .i64 0), .slice none 0 0] 27 by rw [hW]; exact HRa3.out.ext xt)
  have HRb4 := Lib.hid (show Blk W3 (w.heap.size + 1) [(.int .i64 0), (.int .i64 0), (.int .i64 0), (.int .i64 0), (.int .i64 0), (.int .i64 0), (.int .i64 0), (.int .i64 0), .slice none 0 0] 27 by rw [hW]; exact HRb3.out.ext xt)
  have HBa := Lib.hid (show Blk W3 w3.heap.size (a.cells (.slice na a.nodes.length nc)) 27 by rw [hW]; exact Blk.new rfl)
  have HN4 := Lib.hid (show Row w2.heap.size W3 2 1 intCell (.slice na a.nodes.length nc) a.nodes by rw [hW]; exact HN3.out.ext xt)
  have HZa := Lib.hid (show w.heap.size + 1 < w3.heap.size ∧ g < w3.heap.size from ⟨HRb3.out.old, HA3.out.old⟩)
  clear hW HX3 HA3 HRa3 HRb3 HN3
  have HBA3 := Lib.hid (show w3.heap.size < W3.heap.size from HBa.out.old)
  generalize w3.heap.size = bA at HBa HZa HBA3 ⊢
  go_wp2_with fail
  refine (srcJob_any g _ v l HA4.out).mono ?_
  rintro e w4 ⟨b, nv, rfl, hc, hs, hR, hD⟩
  obtain ⟨ma, mc, rfl⟩ := hR.shape
  have HX5 := Lib.hid (chg_old HX4.out hc (by have := HG.out; omega))
  have HA5 := Lib.hid hs
  have HRa5 := Lib.hid (HRa4.out.chg hc (by have := HG.out; simp; omega))
  have HRb5 := Lib.hid (HRb4.out.chg hc (by have := HG.out; simp; omega))
  have HBa5 := Lib.hid (HBa.out.chg hc (by have := HZa.out; simp; omega))
  have hN5 : Row w2.heap.size w4 2 1 intCell (.slice na a.nodes.length nc) a.nodes := HN4.out.chg hc (fun x hx => by have := (HN4.out.blk x hx).1; have := HN4.out; have := HGs.out; simp; omega)
  have HN5 := Lib.hid hN5
  have HM5 := Lib.hid hR
  have HDb := Lib.hid hD
  clear hc hs hR hD HX4 HA4 HRa4 HRb4 HBa HN4 hN5
  unfold Jb.val
  go_upto_region 4 with fail
  refine gen_world (fun W4 hW => ?_)
  have HX4 := Lib.hid (show Ext w W4 by rw [hW]; exact HX5.out.trans xt)
  have HA4 := Lib.hid (show SrcA W4 g v l by rw [hW]; exact HA5.out.ext xt)
  have HRa4 := Lib.hid (show Blk W4 w.heap.size [(.int .i64 0), (.int .i64 0), (.int .i64 0), (.int .i64 0), (.int .i64 0), (.int .i64 0), (.int .i64 0), (.int .i64 0), .slice none 0 0] 27 by rw [hW]; exact HRa5.out.ext xt)
  have HRb4 := Lib.hid (show Blk W4 (w.heap.size + 1) [(.int .i64 0), (.int .i64 0), (.int .i64 0), (.int .i64 0), (.int .i64 0), (.int .i64 0), (.int .i64 0), (.int .i64 0), .slice none 0 0] 27 by rw [hW]; exact HRb5.out.ext xt)
  have HBa := Lib.hid (show Blk W4 bA (a.cells (.slice na a.nodes.length nc)) 27 by rw [hW]; exact HBa5.out.ext xt)
  have HBb := Lib.hid (show Blk W4 w4.heap.size (b.cells (.slice ma b.nodes.length mc)) 27 by rw [hW]; exact Blk.new rfl)
  have HN4 := Lib.hid (show Row w2.heap.size W4 2 1 intCell (.slice na a.nodes.length nc) a.nodes by rw [hW]; exact HN5.out.ext xt)
  have HM4 := Lib.hid (show Row W3.heap.size W4 2 1 intCell (.slice ma b.nodes.length mc) b.nodes by rw [hW]; exact HM5.out.ext xt)
  have HZb := Lib.hid (show w.heap.size + 1 < w4.heap.size ∧ g < w4.heap.size ∧ bA < w4.heap.size from ⟨HRb5.out.old, HA5.out.old, HBa5.out.old⟩)
  clear hW HX5 HA5 HRa5 HRb5 HBa5 HN5 HM5
  generalize w4.heap.size = bB at HBb HZb ⊢
  go_wp2_with fail
  refine (srcOne_any g 2 _ v l HA4.out H2.out).mono ?_
  rintro e W5 ⟨q, rfl, hc, hs⟩
  have HX5 := Lib.hid (chg_old HX4.out hc (by have := HG.out; omega))
  have HRa5 := Lib.hid (HRa4.out.chg hc (by have := HG.out; simp; omega))
  have HRb5 := Lib.hid (HRb4.out.chg hc (by have := HG.out; simp; omega))
  have HBa5 := Lib.hid (HBa.out.chg hc (by have := HZa.out; simp; omega))
  have HBb5 := Lib.hid (HBb.out.chg hc (by have := HZb.out; simp; omega))
  have hsz3 : bA < W3.heap.size := HBA3.out
  have HN5 := Lib.hid (HN4.out.chg hc (fun x hx => by have := (HN4.out.blk x hx).1; have := HGs.out; simp; omega))
  have HM5 := Lib.hid (HM4.out.chg hc (fun x hx => by have := (HM4.out.blk x hx).1; have := HZa.out; simp; omega))
  clear hc hs hsz3 HX4 HA4 HRa4 HRb4 HBa HBb HN4 HM4
  cases q
  · skip
    have HZ9 := Lib.hid (show w.heap.size + 1 < bA ∧ w.heap.size + 1 < bB by have := HZa.out; have := HZb.out; omega)
    go_upto_region 6 with fail
    (refine wp_region_z ([w.heap.size] ++ [w.heap.size + 1]) [XReg.ZOp.A (fun _ u _ => u = (.agg #[(.int .i64 a.l.lv), (.int .i64 a.l.st), (.int .i64 a.id), (.int .i64 a.need), (.int .i64 a.long), (.int .i64 a.prio), (.int .i64 a.state), (.int .i64 a.start), .slice na a.nodes.length nc])) [] ([w.heap.size] ++ [w.heap.size + 1]) ([w.heap.size] ++ [w.heap.size + 1]), XReg.ZOp.A (fun _ u _ => u = (.agg #[(.int .i64 b.l.lv), (.int .i64 b.l.st), (.int .i64 b.id), (.int .i64 b.need), (.int .i64 b.long), (.int .i64 b.prio), (.int .i64 b.state), (.int .i64 b.start), .slice ma b.nodes.length mc])) [] ([w.heap.size] ++ [w.heap.size + 1]) ([w.heap.size] ++ [w.heap.size + 1]), .A (kStZ9 w.heap.size (a.cells (.slice na a.nodes.length nc)) 27) [w.heap.size] [w.heap.size + 1] [w.heap.size + 1], .A (kStZ9 (w.heap.size + 1) (b.cells (.slice ma b.nodes.length mc)) 27) [w.heap.size + 1] [w.heap.size] [w.heap.size]] [] (by kernel_rfl) (by kernel_rfl) (by kernel_rfl) (by kernel_rfl) rfl ?_ (by repeat' (first | exact trivial | exact XReg.ZOp.good_is _ _ _ _ | exact XReg.ZOp.good_v _ | exact XReg.ZOp.good_t | (exact kStZ9_good (by simp)) | refine And.intro ?_ ?_)) (by repeat' (first | exact trivial | exact XReg.subL_nil _ | exact XReg.subL_refl _ | exact subL_l9 _ _ | exact subL_r9 _ _ | exact Or.inr (XReg.subL_nil _) | exact Or.inr (XReg.subL_refl _) | exact Or.inr (subL_l9 _ _) | exact Or.inr (subL_r9 _ _) | exact Or.inl (by kernel_rfl) | refine And.intro ?_ ?_)))
    apply ZReg.setU (.agg #[(.int .i64 a.l.lv), (.int .i64 a.l.st), (.int .i64 a.id), (.int .i64 a.need), (.int .i64 a.long), (.int .i64 a.prio), (.int .i64 a.state), (.int .i64 a.start), .slice na a.nodes.length nc])
    case h =>
      intro w' hw' hF'
      have ax := Lib.hid (And.intro (HBa5.out.chg hw' (by have := HZ9.out; simp; omega)) True.intro)
      have a0 : w'.cell? ⟨bA, 0, none⟩ = some (.int .i64 a.l.lv) := ax.out.1.cell 0
      have a1 : w'.cell? ⟨bA, 1, none⟩ = some (.int .i64 a.l.st) := ax.out.1.cell 1
      have a2 : w'.cell? ⟨bA, 2, none⟩ = some (.int .i64 a.id) := ax.out.1.cell 2
      have a3 : w'.cell? ⟨bA, 3, none⟩ = some (.int .i64 a.need) := ax.out.1.cell 3
      have a4 : w'.cell? ⟨bA, 4, none⟩ = some (.int .i64 a.long) := ax.out.1.cell 4
      have a5 : w'.cell? ⟨bA, 5, none⟩ = some (.int .i64 a.prio) := ax.out.1.cell 5
      have a6 : w'.cell? ⟨bA, 6, none⟩ = some (.int .i64 a.state) := ax.out.1.cell 6
      have a7 : w'.cell? ⟨bA, 7, none⟩ = some (.int .i64 a.start) := ax.out.1.cell 7
      have a8 : w'.cell? ⟨bA, 8, none⟩ = some (.slice na a.nodes.length nc) := ax.out.1.cell 8
      have ao := ax.out.1.old
      have af := ax.out.1.fz
      clear hF' hw' ax
      go_wp2_with fail
      exact ⟨rfl, xt⟩
    case hv => kernel_rfl
    intro _
    apply ZReg.setU (.agg #[(.int .i64 b.l.lv), (.int .i64 b.l.st), (.int .i64 b.id), (.int .i64 b.need), (.int .i64 b.long), (.int .i64 b.prio), (.int .i64 b.state), (.int .i64 b.start), .slice ma b.nodes.length mc])
    case h =>
      intro w' hw' hF'
      have bx := Lib.hid (And.intro (HBb5.out.chg hw' (by have := HZ9.out; simp; omega)) True.intro)
      have b0 : w'.cell? ⟨bB, 0, none⟩ = some (.int .i64 b.l.lv) := bx.out.1.cell 0
      have b1 : w'.cell? ⟨bB, 1, none⟩ = some (.int .i64 b.l.st) := bx.out.1.cell 1
      have b2 : w'.cell? ⟨bB, 2, none⟩ = some (.int .i64 b.id) := bx.out.1.cell 2
      have b3 : w'.cell? ⟨bB, 3, none⟩ = some (.int .i64 b.need) := bx.out.1.cell 3
      have b4 : w'.cell? ⟨bB, 4, none⟩ = some (.int .i64 b.long) := bx.out.1.cell 4
      have b5 : w'.cell? ⟨bB, 5, none⟩ = some (.int .i64 b.prio) := bx.out.1.cell 5
      have b6 : w'.cell? ⟨bB, 6, none⟩ = some (.int .i64 b.state) := bx.out.1.cell 6
      have b7 : w'.cell? ⟨bB, 7, none⟩ = some (.int .i64 b.start) := bx.out.1.cell 7
      have b8 : w'.cell? ⟨bB, 8, none⟩ = some (.slice ma b.nodes.length mc) := bx.out.1.cell 8
      have bo := bx.out.1.old
      have bf := bx.out.1.fz
      clear hF' hw' bx
      go_wp2_with fail
      exact ⟨rfl, xt⟩
    case hv => kernel_rfl
    intro _
    refine ZReg.kind (fun w' hw' hF' => ?_) (fun vA w1 xA hK => ?_)
    · have hB := HRa5.out.chg hw' (by simp)
      have e0 : w'.cell? ⟨w.heap.size, 0, none⟩ = some (.int .i64 0) := hB.cell 0
      have e1 : w'.cell? ⟨w.heap.size, 1, none⟩ = some (.int .i64 0) := hB.cell 1
      have e2 : w'.cell? ⟨w.heap.size, 2, none⟩ = some (.int .i64 0) := hB.cell 2
      have e3 : w'.cell? ⟨w.heap.size, 3, none⟩ = some (.int .i64 0) := hB.cell 3
      have e4 : w'.cell? ⟨w.heap.size, 4, none⟩ = some (.int .i64 0) := hB.cell 4
      have e5 : w'.cell? ⟨w.heap.size, 5, none⟩ = some (.int .i64 0) := hB.cell 5
      have e6 : w'.cell? ⟨w.heap.size, 6, none⟩ = some (.int .i64 0) := hB.cell 6
      have e7 : w'.cell? ⟨w.heap.size, 7, none⟩ = some (.int .i64 0) := hB.cell 7
      have e8 : w'.cell? ⟨w.heap.size, 8, none⟩ = some (.slice none 0 0) := hB.cell 8
      have eo := hB.old
      have ef := hB.fz
      have H9 := Lib.hid (And.intro (set9_chg w' (w.heap.size) (.int .i64 a.l.lv) (.int .i64 a.l.st) (.int .i64 a.id) (.int .i64 a.need) (.int .i64 a.long) (.int .i64 a.prio) (.int .i64 a.state) (.int .i64 a.start) (.slice na a.nodes.length nc)) (show Blk _ (w.heap.size) (a.cells (.slice na a.nodes.length nc)) 27 from (((((((((hB.set 0 (.int .i64 a.l.lv)).set 1 (.int .i64 a.l.st)).set 2 (.int .i64 a.id)).set 3 (.int .i64 a.need)).set 4 (.int .i64 a.long)).set 5 (.int .i64 a.prio)).set 6 (.int .i64 a.state)).set 7 (.int .i64 a.start)).set 8 (.slice na a.nodes.length nc))))
      clear hF' hw' hB
      go_wp2
      exact ⟨H9.out.1, undef, H9.out.2⟩
    clear hK w1
    refine ZReg.kind (fun w' hw' hF' => ?_) (fun vB w1 xB hK => ?_)
    · have hB := HRb5.out.chg hw' (by simp)
      have e0 : w'.cell? ⟨w.heap.size + 1, 0, none⟩ = some (.int .i64 0) := hB.cell 0
      have e1 : w'.cell? ⟨w.heap.size + 1, 1, none⟩ = some (.int .i64 0) := hB.cell 1
      have e2 : w'.cell? ⟨w.heap.size + 1, 2, none⟩ = some (.int .i64 0) := hB.cell 2
      have e3 : w'.cell? ⟨w.heap.size + 1, 3, none⟩ = some (.int .i64 0) := hB.cell 3
      have e4 : w'.cell? ⟨w.heap.size + 1, 4, none⟩ = some (.int .i64 0) := hB.cell 4
      have e5 : w'.cell? ⟨w.heap.size + 1, 5, none⟩ = some (.int .i64 0) := hB.cell 5
      have e6 : w'.cell? ⟨w.heap.size + 1, 6, none⟩ = some (.int .i64 0) := hB.cell 6
      have e7 : w'.cell? ⟨w.heap.size + 1, 7, none⟩ = some (.int .i64 0) := hB.cell 7
      have e8 : w'.cell? ⟨w.heap.size + 1, 8, none⟩ = some (.slice none 0 0) := hB.cell 8
      have eo := hB.old
      have ef := hB.fz
      have H9 := Lib.hid (And.intro (set9_chg w' (w.heap.size + 1) (.int .i64 b.l.lv) (.int .i64 b.l.st) (.int .i64 b.id) (.int .i64 b.need) (.int .i64 b.long) (.int .i64 b.prio) (.int .i64 b.state) (.int .i64 b.start) (.slice ma b.nodes.length mc)) (show Blk _ (w.heap.size + 1) (b.cells (.slice ma b.nodes.length mc)) 27 from (((((((((hB.set 0 (.int .i64 b.l.lv)).set 1 (.int .i64 b.l.st)).set 2 (.int .i64 b.id)).set 3 (.int .i64 b.need)).set 4 (.int .i64 b.long)).set 5 (.int .i64 b.prio)).set 6 (.int .i64 b.state)).set 7 (.int .i64 b.start)).set 8 (.slice ma b.nodes.length mc))))
      clear hF' hw' hB
      go_wp2
      exact ⟨H9.out.1, undef, H9.out.2⟩
    clear hK w1
    refine ZReg.done (fun w9 hw9 hF hR => ?_)
    have hA9 : Blk w9 w.heap.size _ 27 := hF 2 (kStZ9 w.heap.size (a.cells (.slice na a.nodes.length nc)) 27 xA, vA) (by kernel_rfl)
    have hB9 : Blk w9 (w.heap.size + 1) _ 27 := hF 3 (kStZ9 (w.heap.size + 1) (b.cells (.slice ma b.nodes.length mc)) 27 xB, vB) (by kernel_rfl)
    have HX9 := Lib.hid (hw9.ext HX5.out (by simp))
    have HN9 := Lib.hid (row_int9 (HN5.out.chg hw9 (fun x hx hm => by
      have h1 := HN5.out.type x hx
      have h2 := (HN5.out.blk x hx).1
      have := HW2.out
      rcases List.mem_append.1 hm with hm | hm <;> (simp at hm; omega))) HDa.out.nd)
    have HM9 := Lib.hid (row_int9 (HM5.out.chg hw9 (fun x hx hm => by
      have h2 := (HM5.out.blk x hx).1
      have := HZa.out; have := HBA3.out
      rcases List.mem_append.1 hm with hm | hm <;> (simp at hm; omega))) HDb.out.nd)
    clear hF hR hw9
    have r0 : w9.cell? ⟨w.heap.size, 0, none⟩ = some (.int .i64 a.l.lv) := hA9.cell 0
    have r1 : w9.cell? ⟨w.heap.size, 1, none⟩ = some (.int .i64 a.l.st) := hA9.cell 1
    have r2 : w9.cell? ⟨w.heap.size, 2, none⟩ = some (.int .i64 a.id) := hA9.cell 2
    have r3 : w9.cell? ⟨w.heap.size, 3, none⟩ = some (.int .i64 a.need) := hA9.cell 3
    have r4 : w9.cell? ⟨w.heap.size, 4, none⟩ = some (.int .i64 a.long) := hA9.cell 4
    have r5 : w9.cell? ⟨w.heap.size, 5, none⟩ = some (.int .i64 a.prio) := hA9.cell 5
    have r6 : w9.cell? ⟨w.heap.size, 6, none⟩ = some (.int .i64 a.state) := hA9.cell 6
    have r7 : w9.cell? ⟨w.heap.size, 7, none⟩ = some (.int .i64 a.start) := hA9.cell 7
    have r8 : w9.cell? ⟨w.heap.size, 8, none⟩ = some (.slice na a.nodes.length nc) := hA9.cell 8
    have ro := hA9.old
    have s0 : w9.cell? ⟨w.heap.size + 1, 0, none⟩ = some (.int .i64 b.l.lv) := hB9.cell 0
    have s1 : w9.cell? ⟨w.heap.size + 1, 1, none⟩ = some (.int .i64 b.l.st) := hB9.cell 1
    have s2 : w9.cell? ⟨w.heap.size + 1, 2, none⟩ = some (.int .i64 b.id) := hB9.cell 2
    have s3 : w9.cell? ⟨w.heap.size + 1, 3, none⟩ = some (.int .i64 b.need) := hB9.cell 3
    have s4 : w9.cell? ⟨w.heap.size + 1, 4, none⟩ = some (.int .i64 b.long) := hB9.cell 4
    have s5 : w9.cell? ⟨w.heap.size + 1, 5, none⟩ = some (.int .i64 b.prio) := hB9.cell 5
    have s6 : w9.cell? ⟨w.heap.size + 1, 6, none⟩ = some (.int .i64 b.state) := hB9.cell 6
    have s7 : w9.cell? ⟨w.heap.size + 1, 7, none⟩ = some (.int .i64 b.start) := hB9.cell 7
    have s8 : w9.cell? ⟨w.heap.size + 1, 8, none⟩ = some (.slice ma b.nodes.length mc) := hB9.cell 8
    have so := hB9.old
    refine ZReg.end_ ?_
    go_wp2
    exact bodyPost_ret (v := .tuple #[.agg #[(.int .i64 a.l.lv), (.int .i64 a.l.st), (.int .i64 a.id), (.int .i64 a.need), (.int .i64 a.long), (.int .i64 a.prio), (.int .i64 a.state), (.int .i64 a.start), .slice na a.nodes.length nc], .agg #[(.int .i64 b.l.lv), (.int .i64 b.l.st), (.int .i64 b.id), (.int .i64 b.need), (.int .i64 b.long), (.int .i64 b.prio), (.int .i64 b.state), (.int .i64 b.start), .slice ma b.nodes.length mc]]) (by simp [results, Try.results5, go_sem, r0, r1, r2, r3, r4, r5, r6, r7, r8, s0, s1, s2, s3, s4, s5, s6, s7, s8]) rfl ⟨a, b, na, nc, ma, mc, rfl, HX9.out, HDa.out, HDb.out, HN9.out, HM9.out⟩
  · have ax := Lib.hid (show JbX w W5 bA a (.slice na a.nodes.length nc) from ⟨HBa5.out, HN5.out.mono (by have := HW2.out; omega)⟩)
    have bx := Lib.hid (show JbX w W5 bB b (.slice ma b.nodes.length mc) from ⟨HBb5.out, HM5.out.mono (by have := HZa.out; have := HBA3.out; omega)⟩)
    have a0 : W5.cell? ⟨bA, 0, none⟩ = some (.int .i64 a.l.lv) := ax.out.1.cell 0
    have a1 : W5.cell? ⟨bA, 1, none⟩ = some (.int .i64 a.l.st) := ax.out.1.cell 1
    have a2 : W5.cell? ⟨bA, 2, none⟩ = some (.int .i64 a.id) := ax.out.1.cell 2
    have a3 : W5.cell? ⟨bA, 3, none⟩ = some (.int .i64 a.need) := ax.out.1.cell 3
    have a4 : W5.cell? ⟨bA, 4, none⟩ = some (.int .i64 a.long) := ax.out.1.cell 4
    have a5 : W5.cell? ⟨bA, 5, none⟩ = some (.int .i64 a.prio) := ax.out.1.cell 5
    have a6 : W5.cell? ⟨bA, 6, none⟩ = some (.int .i64 a.state) := ax.out.1.cell 6
    have a7 : W5.cell? ⟨bA, 7, none⟩ = some (.int .i64 a.start) := ax.out.1.cell 7
    have a8 : W5.cell? ⟨bA, 8, none⟩ = some (.slice na a.nodes.length nc) := ax.out.1.cell 8
    have ao := ax.out.1.old
    have af := ax.out.1.fz
    have b0 : W5.cell? ⟨bB, 0, none⟩ = some (.int .i64 b.l.lv) := bx.out.1.cell 0
    have b1 : W5.cell? ⟨bB, 1, none⟩ = some (.int .i64 b.l.st) := bx.out.1.cell 1
    have b2 : W5.cell? ⟨bB, 2, none⟩ = some (.int .i64 b.id) := bx.out.1.cell 2
    have b3 : W5.cell? ⟨bB, 3, none⟩ = some (.int .i64 b.need) := bx.out.1.cell 3
    have b4 : W5.cell? ⟨bB, 4, none⟩ = some (.int .i64 b.long) := bx.out.1.cell 4
    have b5 : W5.cell? ⟨bB, 5, none⟩ = some (.int .i64 b.prio) := bx.out.1.cell 5
    have b6 : W5.cell? ⟨bB, 6, none⟩ = some (.int .i64 b.state) := bx.out.1.cell 6
    have b7 : W5.cell? ⟨bB, 7, none⟩ = some (.int .i64 b.start) := bx.out.1.cell 7
    have b8 : W5.cell? ⟨bB, 8, none⟩ = some (.slice ma b.nodes.length mc) := bx.out.1.cell 8
    have bo := bx.out.1.old
    have bf := bx.out.1.fz
    go_upto_region 6 with fail
    refine gen_world (fun W6 hW => ?_)
    have hch : Chg [bB] W5 W6 := by rw [hW]; exact ((Chg.refl _ _).setCell (.inl (by simp)) _).setCell (.inl (by simp)) _
    have HX6 := Lib.hid (hch.ext HX5.out (by have := HZb.out; simp; omega))
    have HRa6 := Lib.hid (HRa5.out.chg hch (by have := HZb.out; simp; omega))
    have HRb6 := Lib.hid (HRb5.out.chg hch (by have := HZb.out; simp; omega))
    have HBa6 := Lib.hid (HBa5.out.chg hch (by have := HZb.out; simp; omega))
    have HBb6 : Hid (Blk W6 bB (({ b with l := a.l } : Jb).cells (.slice ma ({ b with l := a.l } : Jb).nodes.length mc)) 27) := Lib.hid (by rw [hW]; exact (HBb5.out.set 0 _).set 1 _)
    have HN6 := Lib.hid (row_box HN5.out HBb5.out (by decide) hch)
    have HM6 : Hid (Row W3.heap.size W6 2 1 intCell (.slice ma ({ b with l := a.l } : Jb).nodes.length mc) ({ b with l := a.l } : Jb).nodes) := Lib.hid (row_box HM5.out HBb5.out (by decide) hch)
    have HDb6 := Lib.hid (HDb.out.lab HDa.out.ok.1)
    clear hW hch HX5 HRa5 HRb5 HBa5 HBb5 HN5 HM5 HDb
    clear a0 a1 a2 a3 a4 a5 a6 a7 a8 ao af
    clear b0 b1 b2 b3 b4 b5 b6 b7 b8 bo bf
    generalize ({ b with l := a.l } : Jb) = b' at HBb6 HM6 HDb6
    have HZ9 := Lib.hid (show w.heap.size + 1 < bA ∧ w.heap.size + 1 < bB by have := HZa.out; have := HZb.out; omega)
    go_upto_region 6 with fail
    (refine wp_region_z ([w.heap.size] ++ [w.heap.size + 1]) [XReg.ZOp.A (fun _ u _ => u = (.agg #[(.int .i64 a.l.lv), (.int .i64 a.l.st), (.int .i64 a.id), (.int .i64 a.need), (.int .i64 a.long), (.int .i64 a.prio), (.int .i64 a.state), (.int .i64 a.start), .slice na a.nodes.length nc])) [] ([w.heap.size] ++ [w.heap.size + 1]) ([w.heap.size] ++ [w.heap.size + 1]), XReg.ZOp.A (fun _ u _ => u = (.agg #[(.int .i64 b'.l.lv), (.int .i64 b'.l.st), (.int .i64 b'.id), (.int .i64 b'.need), (.int .i64 b'.long), (.int .i64 b'.prio), (.int .i64 b'.state), (.int .i64 b'.start), .slice ma b'.nodes.length mc])) [] ([w.heap.size] ++ [w.heap.size + 1]) ([w.heap.size] ++ [w.heap.size + 1]), .A (kStZ9 w.heap.size (a.cells (.slice na a.nodes.length nc)) 27) [w.heap.size] [w.heap.size + 1] [w.heap.size + 1], .A (kStZ9 (w.heap.size + 1) (b'.cells (.slice ma b'.nodes.length mc)) 27) [w.heap.size + 1] [w.heap.size] [w.heap.size]] [] (by kernel_rfl) (by kernel_rfl) (by kernel_rfl) (by kernel_rfl) rfl ?_ (by repeat' (first | exact trivial | exact XReg.ZOp.good_is _ _ _ _ | exact XReg.ZOp.good_v _ | exact XReg.ZOp.good_t | (exact kStZ9_good (by simp)) | refine And.intro ?_ ?_)) (by repeat' (first | exact trivial | exact XReg.subL_nil _ | exact XReg.subL_refl _ | exact subL_l9 _ _ | exact subL_r9 _ _ | exact Or.inr (XReg.subL_nil _) | exact Or.inr (XReg.subL_refl _) | exact Or.inr (subL_l9 _ _) | exact Or.inr (subL_r9 _ _) | exact Or.inl (by kernel_rfl) | refine And.intro ?_ ?_)))
    apply ZReg.setU (.agg #[(.int .i64 a.l.lv), (.int .i64 a.l.st), (.int .i64 a.id), (.int .i64 a.need), (.int .i64 a.long), (.int .i64 a.prio), (.int .i64 a.state), (.int .i64 a.start), .slice na a.nodes.length nc])
    case h =>
      intro w' hw' hF'
      have ax := Lib.hid (And.intro (HBa6.out.chg hw' (by have := HZ9.out; simp; omega)) True.intro)
      have a0 : w'.cell? ⟨bA, 0, none⟩ = some (.int .i64 a.l.lv) := ax.out.1.cell 0
      have a1 : w'.cell? ⟨bA, 1, none⟩ = some (.int .i64 a.l.st) := ax.out.1.cell 1
      have a2 : w'.cell? ⟨bA, 2, none⟩ = some (.int .i64 a.id) := ax.out.1.cell 2
      have a3 : w'.cell? ⟨bA, 3, none⟩ = some (.int .i64 a.need) := ax.out.1.cell 3
      have a4 : w'.cell? ⟨bA, 4, none⟩ = some (.int .i64 a.long) := ax.out.1.cell 4
      have a5 : w'.cell? ⟨bA, 5, none⟩ = some (.int .i64 a.prio) := ax.out.1.cell 5
      have a6 : w'.cell? ⟨bA, 6, none⟩ = some (.int .i64 a.state) := ax.out.1.cell 6
      have a7 : w'.cell? ⟨bA, 7, none⟩ = some (.int .i64 a.start) := ax.out.1.cell 7
      have a8 : w'.cell? ⟨bA, 8, none⟩ = some (.slice na a.nodes.length nc) := ax.out.1.cell 8
      have ao := ax.out.1.old
      have af := ax.out.1.fz
      clear hF' hw' ax
      go_wp2_with fail
      exact ⟨rfl, xt⟩
    case hv => kernel_rfl
    intro _
    apply ZReg.setU (.agg #[(.int .i64 b'.l.lv), (.int .i64 b'.l.st), (.int .i64 b'.id), (.int .i64 b'.need), (.int .i64 b'.long), (.int .i64 b'.prio), (.int .i64 b'.state), (.int .i64 b'.start), .slice ma b'.nodes.length mc])
    case h =>
      intro w' hw' hF'
      have bx := Lib.hid (And.intro (HBb6.out.chg hw' (by have := HZ9.out; simp; omega)) True.intro)
      have b0 : w'.cell? ⟨bB, 0, none⟩ = some (.int .i64 b'.l.lv) := bx.out.1.cell 0
      have b1 : w'.cell? ⟨bB, 1, none⟩ = some (.int .i64 b'.l.st) := bx.out.1.cell 1
      have b2 : w'.cell? ⟨bB, 2, none⟩ = some (.int .i64 b'.id) := bx.out.1.cell 2
      have b3 : w'.cell? ⟨bB, 3, none⟩ = some (.int .i64 b'.need) := bx.out.1.cell 3
      have b4 : w'.cell? ⟨bB, 4, none⟩ = some (.int .i64 b'.long) := bx.out.1.cell 4
      have b5 : w'.cell? ⟨bB, 5, none⟩ = some (.int .i64 b'.prio) := bx.out.1.cell 5
      have b6 : w'.cell? ⟨bB, 6, none⟩ = some (.int .i64 b'.state) := bx.out.1.cell 6
      have b7 : w'.cell? ⟨bB, 7, none⟩ = some (.int .i64 b'.start) := bx.out.1.cell 7
      have b8 : w'.cell? ⟨bB, 8, none⟩ = some (.slice ma b'.nodes.length mc) := bx.out.1.cell 8
      have bo := bx.out.1.old
      have bf := bx.out.1.fz
      clear hF' hw' bx
      go_wp2_with fail
      exact ⟨rfl, xt⟩
    case hv => kernel_rfl
    intro _
    refine ZReg.kind (fun w' hw' hF' => ?_) (fun vA w1 xA hK => ?_)
    · have hB := HRa6.out.chg hw' (by simp)
      have e0 : w'.cell? ⟨w.heap.size, 0, none⟩ = some (.int .i64 0) := hB.cell 0
      have e1 : w'.cell? ⟨w.heap.size, 1, none⟩ = some (.int .i64 0) := hB.cell 1
      have e2 : w'.cell? ⟨w.heap.size, 2, none⟩ = some (.int .i64 0) := hB.cell 2
      have e3 : w'.cell? ⟨w.heap.size, 3, none⟩ = some (.int .i64 0) := hB.cell 3
      have e4 : w'.cell? ⟨w.heap.size, 4, none⟩ = some (.int .i64 0) := hB.cell 4
      have e5 : w'.cell? ⟨w.heap.size, 5, none⟩ = some (.int .i64 0) := hB.cell 5
      have e6 : w'.cell? ⟨w.heap.size, 6, none⟩ = some (.int .i64 0) := hB.cell 6
      have e7 : w'.cell? ⟨w.heap.size, 7, none⟩ = some (.int .i64 0) := hB.cell 7
      have e8 : w'.cell? ⟨w.heap.size, 8, none⟩ = some (.slice none 0 0) := hB.cell 8
      have eo := hB.old
      have ef := hB.fz
      have H9 := Lib.hid (And.intro (set9_chg w' (w.heap.size) (.int .i64 a.l.lv) (.int .i64 a.l.st) (.int .i64 a.id) (.int .i64 a.need) (.int .i64 a.long) (.int .i64 a.prio) (.int .i64 a.state) (.int .i64 a.start) (.slice na a.nodes.length nc)) (show Blk _ (w.heap.size) (a.cells (.slice na a.nodes.length nc)) 27 from (((((((((hB.set 0 (.int .i64 a.l.lv)).set 1 (.int .i64 a.l.st)).set 2 (.int .i64 a.id)).set 3 (.int .i64 a.need)).set 4 (.int .i64 a.long)).set 5 (.int .i64 a.prio)).set 6 (.int .i64 a.state)).set 7 (.int .i64 a.start)).set 8 (.slice na a.nodes.length nc))))
      clear hF' hw' hB
      go_wp2
      exact ⟨H9.out.1, undef, H9.out.2⟩
    clear hK w1
    refine ZReg.kind (fun w' hw' hF' => ?_) (fun vB w1 xB hK => ?_)
    · have hB := HRb6.out.chg hw' (by simp)
      have e0 : w'.cell? ⟨w.heap.size + 1, 0, none⟩ = some (.int .i64 0) := hB.cell 0
      have e1 : w'.cell? ⟨w.heap.size + 1, 1, none⟩ = some (.int .i64 0) := hB.cell 1
      have e2 : w'.cell? ⟨w.heap.size + 1, 2, none⟩ = some (.int .i64 0) := hB.cell 2
      have e3 : w'.cell? ⟨w.heap.size + 1, 3, none⟩ = some (.int .i64 0) := hB.cell 3
      have e4 : w'.cell? ⟨w.heap.size + 1, 4, none⟩ = some (.int .i64 0) := hB.cell 4
      have e5 : w'.cell? ⟨w.heap.size + 1, 5, none⟩ = some (.int .i64 0) := hB.cell 5
      have e6 : w'.cell? ⟨w.heap.size + 1, 6, none⟩ = some (.int .i64 0) := hB.cell 6
      have e7 : w'.cell? ⟨w.heap.size + 1, 7, none⟩ = some (.int .i64 0) := hB.cell 7
      have e8 : w'.cell? ⟨w.heap.size + 1, 8, none⟩ = some (.slice none 0 0) := hB.cell 8
      have eo := hB.old
      have ef := hB.fz
      have H9 := Lib.hid (And.intro (set9_chg w' (w.heap.size + 1) (.int .i64 b'.l.lv) (.int .i64 b'.l.st) (.int .i64 b'.id) (.int .i64 b'.need) (.int .i64 b'.long) (.int .i64 b'.prio) (.int .i64 b'.state) (.int .i64 b'.start) (.slice ma b'.nodes.length mc)) (show Blk _ (w.heap.size + 1) (b'.cells (.slice ma b'.nodes.length mc)) 27 from (((((((((hB.set 0 (.int .i64 b'.l.lv)).set 1 (.int .i64 b'.l.st)).set 2 (.int .i64 b'.id)).set 3 (.int .i64 b'.need)).set 4 (.int .i64 b'.long)).set 5 (.int .i64 b'.prio)).set 6 (.int .i64 b'.state)).set 7 (.int .i64 b'.start)).set 8 (.slice ma b'.nodes.length mc))))
      clear hF' hw' hB
      go_wp2
      exact ⟨H9.out.1, undef, H9.out.2⟩
    clear hK w1
    refine ZReg.done (fun w9 hw9 hF hR => ?_)
    have hA9 : Blk w9 w.heap.size _ 27 := hF 2 (kStZ9 w.heap.size (a.cells (.slice na a.nodes.length nc)) 27 xA, vA) (by kernel_rfl)
    have hB9 : Blk w9 (w.heap.size + 1) _ 27 := hF 3 (kStZ9 (w.heap.size + 1) (b'.cells (.slice ma b'.nodes.length mc)) 27 xB, vB) (by kernel_rfl)
    have HX9 := Lib.hid (hw9.ext HX6.out (by simp))
    have HN9 := Lib.hid (row_int9 (HN6.out.chg hw9 (fun x hx hm => by
      have h1 := HN6.out.type x hx
      have h2 := (HN6.out.blk x hx).1
      have := HW2.out
      rcases List.mem_append.1 hm with hm | hm <;> (simp at hm; omega))) HDa.out.nd)
    have HM9 := Lib.hid (row_int9 (HM6.out.chg hw9 (fun x hx hm => by
      have h2 := (HM6.out.blk x hx).1
      have := HZa.out; have := HBA3.out
      rcases List.mem_append.1 hm with hm | hm <;> (simp at hm; omega))) HDb6.out.nd)
    clear hF hR hw9
    have r0 : w9.cell? ⟨w.heap.size, 0, none⟩ = some (.int .i64 a.l.lv) := hA9.cell 0
    have r1 : w9.cell? ⟨w.heap.size, 1, none⟩ = some (.int .i64 a.l.st) := hA9.cell 1
    have r2 : w9.cell? ⟨w.heap.size, 2, none⟩ = some (.int .i64 a.id) := hA9.cell 2
    have r3 : w9.cell? ⟨w.heap.size, 3, none⟩ = some (.int .i64 a.need) := hA9.cell 3
    have r4 : w9.cell? ⟨w.heap.size, 4, none⟩ = some (.int .i64 a.long) := hA9.cell 4
    have r5 : w9.cell? ⟨w.heap.size, 5, none⟩ = some (.int .i64 a.prio) := hA9.cell 5
    have r6 : w9.cell? ⟨w.heap.size, 6, none⟩ = some (.int .i64 a.state) := hA9.cell 6
    have r7 : w9.cell? ⟨w.heap.size, 7, none⟩ = some (.int .i64 a.start) := hA9.cell 7
    have r8 : w9.cell? ⟨w.heap.size, 8, none⟩ = some (.slice na a.nodes.length nc) := hA9.cell 8
    have ro := hA9.old
    have s0 : w9.cell? ⟨w.heap.size + 1, 0, none⟩ = some (.int .i64 b'.l.lv) := hB9.cell 0
    have s1 : w9.cell? ⟨w.heap.size + 1, 1, none⟩ = some (.int .i64 b'.l.st) := hB9.cell 1
    have s2 : w9.cell? ⟨w.heap.size + 1, 2, none⟩ = some (.int .i64 b'.id) := hB9.cell 2
    have s3 : w9.cell? ⟨w.heap.size + 1, 3, none⟩ = some (.int .i64 b'.need) := hB9.cell 3
    have s4 : w9.cell? ⟨w.heap.size + 1, 4, none⟩ = some (.int .i64 b'.long) := hB9.cell 4
    have s5 : w9.cell? ⟨w.heap.size + 1, 5, none⟩ = some (.int .i64 b'.prio) := hB9.cell 5
    have s6 : w9.cell? ⟨w.heap.size + 1, 6, none⟩ = some (.int .i64 b'.state) := hB9.cell 6
    have s7 : w9.cell? ⟨w.heap.size + 1, 7, none⟩ = some (.int .i64 b'.start) := hB9.cell 7
    have s8 : w9.cell? ⟨w.heap.size + 1, 8, none⟩ = some (.slice ma b'.nodes.length mc) := hB9.cell 8
    have so := hB9.old
    refine ZReg.end_ ?_
    go_wp2
    exact bodyPost_ret (v := .tuple #[.agg #[(.int .i64 a.l.lv), (.int .i64 a.l.st), (.int .i64 a.id), (.int .i64 a.need), (.int .i64 a.long), (.int .i64 a.prio), (.int .i64 a.state), (.int .i64 a.start), .slice na a.nodes.length nc], .agg #[(.int .i64 b'.l.lv), (.int .i64 b'.l.st), (.int .i64 b'.id), (.int .i64 b'.need), (.int .i64 b'.long), (.int .i64 b'.prio), (.int .i64 b'.state), (.int .i64 b'.start), .slice ma b'.nodes.length mc]]) (by simp [results, Try.results5, go_sem, r0, r1, r2, r3, r4, r5, r6, r7, r8, s0, s1, s2, s3, s4, s5, s6, s7, s8]) rfl ⟨a, b', na, nc, ma, mc, rfl, HX9.out, HDa.out, HDb6.out, HN9.out, HM9.out⟩
theorem jbs_at {B : Nat} {w : World} {b off n c : Nat} {rs : List RJ} (h : JbsR B w (.slice (some ⟨b, off, none⟩) n c) rs) {i : Nat} (hi : i < rs.length) :
    w.old b ∧ ∀ q u, (RJ.cells rs[i])[q]? = some u → w.cell? ⟨b, off + i * 9 + q, none⟩ = some u := by
  obtain ⟨cs, _, hc, he⟩ := slr_cells (row_rc (f := RJ.cells) (fun _ => rfl) h.row) hi
  have he' : cs = RJ.cells rs[i] := he
  subst he'
  exact ⟨World.old_of_cell (hc 0 _ rfl), hc⟩
set_option maxHeartbeats 3200000 in
theorem drawJobsRight_any (v : Value) (l : List Int) (w : World) (h : SlR w 1 rU8 v l) (hl : l.length ≤ 1048576) :
    Calls Try.prog 7 #[v] w fun e w' => ∃ (a : Option Addr) (c : Nat) (L : List Jb), e = .returned (.slice a L.length c) ∧ Ext w w' ∧ SlR w' 9 rJob (.slice a L.length c) L := by
  have HS := Lib.hid h
  clear h
  have H4 : Hid (I64 4) := Lib.hid (by unfold I64; omega)
  have hfp : ∀ (a b c : Value) w, (Instr.field 43 (.agg #[a, b, c]) 1).run Try.prog w = .ok b w := fun a b c w => by kernel_rfl
  go_enter Try.func7, Try.ntmps7
  go_wp2_with fail
  refine (l01Source_any v l _ (HS.out.ext rU8_stable xt) hl).mono ?_
  rintro e w2 ⟨g, rfl, hg, hx, hs⟩
  have HG := Lib.hid hg
  have HX := Lib.hid ((Ext.refl w).trans hx)
  have HA := Lib.hid hs
  have HGs := Lib.hid hs.old
  clear hx hs hg
  go_wp2_with fail
  refine (srcPool_any g _ v l HA.out).mono ?_
  rintro e w3 ⟨p, c, j, rfl, hc, hs, hP, hB⟩
  obtain ⟨⟨ca, cc, rfl⟩, ⟨ja, jc, rfl⟩⟩ := hP.shape
  have HX3 := Lib.hid (chg_old HX.out hc HG.out)
  have HA3 := Lib.hid hs
  have HS3 := Lib.hid hc.size
  have HWG := Lib.hid HX.out.below.size
  have HP := Lib.hid hP
  have HB := Lib.hid hB
  clear hc hs hP hB HA HX
  unfold Pl.val
  go_wp2_with fail
  refine (srcOne_any g 4 _ v l HA3.out H4.out).mono ?_
  rintro e w4 ⟨b, rfl, hc, hs⟩
  have HX4 := Lib.hid (chg_old HX3.out hc HG.out)
  have HA4 := Lib.hid hs
  have HP4 := Lib.hid (HP.out.low hc HGs.out)
  have HSZ := Lib.hid (Nat.le_trans HS3.out hc.size)
  clear hc hs HX3 HA3 HP
  obtain ⟨ls, rs, -, q2, -, q4, -⟩ := HP4.out
  have Q2 := Lib.hid q2
  have Q4 := Lib.hid q4
  have HLR := Lib.hid (show rs.length ≤ 100 by have := congrArg List.length q4; rw [List.length_map] at this; have := HB.out.j1; omega)
  have hjl : p.jobs.length = rs.length := by have := congrArg List.length q4; rw [List.length_map] at this; omega
  have HJL := Lib.hid hjl
  clear q2 q4 hjl
  cases b
  · go_wp2
    go_ret
    refine ⟨ja, jc, p.jobs, rfl, HX4.out, ?_⟩
    have h9 := Q2.out.jobs
    rwa [Q4.out] at h9
  · go_wp2_with fail
    refine (srcJob_any g _ v l HA4.out).mono ?_
    rintro e w5 ⟨jb, nv, rfl, hc, hs, hR, hD⟩
    obtain ⟨na, nc, rfl⟩ := hR.shape
    have HX5 := Lib.hid (chg_old HX4.out hc HG.out)
    have Q5 := Lib.hid (Q2.out.off hc (offP_g HGs.out))
    have hsz2 := Lib.hid (show w2.heap.size ≤ w5.heap.size from Nat.le_trans HSZ.out hc.size)
    have HN := Lib.hid (hR.mono (show w2.heap.size ≤ w4.heap.size from HSZ.out))
    have HD := Lib.hid hD
    clear hc hs hR hD HX4 HA4 Q2
    unfold Jb.val
    go_wp2_with (at_builtin; go_must (refine Row.appN (f := RJ.cells) el_JobV rfl _ _ rfl w2.heap.size hsz2.out _ rs rfl Q5.out.row (jb, (na, nc)) rfl _ ?_ rfl (fun _ => rfl) ?_ ?_ ?_ ?_); (simp); (simp [Value.oneCell']); (have := HLR.out; unfold maxLen; omega); (have := HLR.out; omega); intro v' w8 hR8 hc8; have HR8 := Lib.hid hR8; have HC8 := Lib.hid hc8; clear hR8 hc8)
    obtain ⟨a9, c9, rfl⟩ := HR8.out.shape
    go_ret
    have hJ := Q5.out.app HC8.out HR8.out ⟨HD.out.fit, HN.out⟩
    have h9 := hJ.jobs
    refine ⟨a9, c9, (rs ++ [((jb, (na, nc)) : RJ)]).map Prod.fst, by rw [List.length_map]; rfl, HC8.out.ext HX5.out (fun b hb => Nat.le_trans HWG.out (Q5.out.row.blk b hb).1), ?_⟩
    rw [List.length_map]; exact h9
theorem ePool_jobs9 {w : World} {p : Pl} {c : Value} {b : Option Addr} {d : Nat} (h : ePool w (p.val c (.slice b p.jobs.length d)) p) : SlR w 9 rJob (.slice b p.jobs.length d) p.jobs := by
  obtain ⟨a', c', b', d', hv, _, _, h2⟩ := h
  unfold Pl.val at hv
  simp at hv
  obtain ⟨_, rfl, rfl⟩ := hv
  exact h2
theorem offP_low {B : Nat} {w : World} {g : Nat} (h : g < B) : OffP B w [g] := offP_g h
set_option maxHeartbeats 3200000 in
theorem drawJobOf_any (v : Value) (l : List Int) (w : World) (h : SlR w 1 rU8 v l) (hl : l.length ≤ 1048576) :
    Calls Try.prog 6 #[v] w fun e w' => ∃ (a : Option Addr) (c : Nat) (L : List Jb) (x : Lab) (id : Int), e = .returned (.tuple #[.slice a L.length c, .agg #[(.int .i64 x.lv), (.int .i64 x.st)], (.int .i64 id)]) ∧ Ext w w' ∧ SlR w' 9 rJob (.slice a L.length c) L ∧ (∀ j ∈ L, j.nodes.length ≤ 8) ∧ x.ok := by
  have HS := Lib.hid h
  clear h
  have H4 : Hid (I64 4) := Lib.hid (by unfold I64; omega)
  have H5 : Hid (I64 5) := Lib.hid (by unfold I64; omega)
  have hfp : ∀ (a b c : Value) w, (Instr.field 43 (.agg #[a, b, c]) 1).run Try.prog w = .ok b w := fun a b c w => by kernel_rfl
  go_enter Try.func6, Try.ntmps6
  go_wp2_with fail
  refine (l01Source_any v l _ (HS.out.ext rU8_stable xt) hl).mono ?_
  rintro e w2 ⟨g, rfl, hg, hx, hs⟩
  have HG9 := Lib.hid (show w.heap.size < g by simp at hg; omega)
  have HG := Lib.hid (show w.heap.size ≤ g by have := HG9.out; omega)
  have HR := Lib.hid ((Blk.new (w := w) (cs := #[(.int .i64 0), (.int .i64 0)]) (ty := 24) rfl).ext hx)
  have HX := Lib.hid ((Ext.refl w).alloc (.cells #[(.int .i64 0), (.int .i64 0)] 24) |>.trans hx)
  have HA := Lib.hid hs
  have HGs := Lib.hid hs.old
  have HWG := Lib.hid (show w.heap.size < w2.heap.size from HR.out.old)
  clear hx hs hg
  go_wp2_with fail
  refine (srcPool_any g _ v l HA.out).mono ?_
  rintro e w3 ⟨p, c, j, rfl, hc, hs, hP, hB⟩
  obtain ⟨⟨ca, cc, rfl⟩, ⟨ja, jc, rfl⟩⟩ := hP.shape
  have HX3 := Lib.hid (chg_old HX.out hc HG.out)
  have HR3 := Lib.hid (HR.out.chg hc (by have := HG9.out; simp; omega))
  have HP3 := Lib.hid (And.intro hs hP)
  have HB := Lib.hid hB
  clear hc hs hP hB HA HX HR
  unfold Pl.val
  by_cases hL : 0 < p.jobs.length
  case neg =>
    have hLb : decide ((0 : Int) < (p.jobs.length : Int)) = false := decide_eq_false (by omega)
    -- a label and a number
    go_wp2_with fail
    refine (srcLabel_any g _ v l HP3.out.1).mono ?_
    rintro e w6 ⟨x, rfl, hxo, hc, hs⟩
    have HX6 := Lib.hid (chg_old HX3.out hc HG.out)
    have HA6 := Lib.hid hs
    have HR6 := Lib.hid (HR3.out.chg hc (by have := HG9.out; simp; omega))
    have HP6 := Lib.hid (HP3.out.2.low hc HGs.out)
    have HXO := Lib.hid hxo
    clear hc hs hxo
    go_wp2_with fail
    refine (srcN' g 5 _ v l HA6.out H5.out).mono ?_
    rintro e w7 ⟨m, rfl, hb, hc, hs⟩
    have HX7 := Lib.hid (chg_old HX6.out hc HG.out)
    have HR7 := Lib.hid (HR6.out.chg hc (by have := HG9.out; simp; omega))
    have HP7 := Lib.hid (HP6.out.low hc HGs.out)
    clear hc hs hb HX6 HA6 HR6 HP6
    have r0 : w7.cell? ⟨w.heap.size, 0, none⟩ = some (.int .i64 0) := HR7.out.cell 0
    have r1 : w7.cell? ⟨w.heap.size, 1, none⟩ = some (.int .i64 0) := HR7.out.cell 1
    have ro := HR7.out.old
    have rf := HR7.out.fz
    go_wp2
    have hC := set2_chg w7 w.heap.size (.int .i64 x.lv) (.int .i64 x.st)
    exact bodyPost_ret (v := .tuple #[.slice ja p.jobs.length jc, .agg #[(.int .i64 x.lv), (.int .i64 x.st)], (.int .i64 (m : Int))]) (by simp [results, Try.results6, go_sem, r0, r1]) rfl ⟨ja, jc, p.jobs, x, (m : Int), rfl, hC.ext HX7.out (by simp), ePool_jobs9 ((HP7.out.off hC (offP_low HWG.out)).e), HB.out.j2, HXO.out⟩
  have hLb : decide ((0 : Int) < (p.jobs.length : Int)) = true := decide_eq_true (by omega)
  go_wp2_with fail
  refine (srcOne_any g 4 _ v l HP3.out.1 H4.out).mono ?_
  rintro e w4 ⟨b, rfl, hc, hs⟩
  have HX4 := Lib.hid (chg_old HX3.out hc HG.out)
  have HR4 := Lib.hid (HR3.out.chg hc (by have := HG9.out; simp; omega))
  have HP4 := Lib.hid (And.intro hs (HP3.out.2.low hc HGs.out))
  clear hc hs HX3 HR3 HP3
  cases b
  case true =>
    -- a label and a number
    go_wp2_with fail
    refine (srcLabel_any g _ v l HP4.out.1).mono ?_
    rintro e w6 ⟨x, rfl, hxo, hc, hs⟩
    have HX6 := Lib.hid (chg_old HX4.out hc HG.out)
    have HA6 := Lib.hid hs
    have HR6 := Lib.hid (HR4.out.chg hc (by have := HG9.out; simp; omega))
    have HP6 := Lib.hid (HP4.out.2.low hc HGs.out)
    have HXO := Lib.hid hxo
    clear hc hs hxo
    go_wp2_with fail
    refine (srcN' g 5 _ v l HA6.out H5.out).mono ?_
    rintro e w7 ⟨m, rfl, hb, hc, hs⟩
    have HX7 := Lib.hid (chg_old HX6.out hc HG.out)
    have HR7 := Lib.hid (HR6.out.chg hc (by have := HG9.out; simp; omega))
    have HP7 := Lib.hid (HP6.out.low hc HGs.out)
    clear hc hs hb HX6 HA6 HR6 HP6
    have r0 : w7.cell? ⟨w.heap.size, 0, none⟩ = some (.int .i64 0) := HR7.out.cell 0
    have r1 : w7.cell? ⟨w.heap.size, 1, none⟩ = some (.int .i64 0) := HR7.out.cell 1
    have ro := HR7.out.old
    have rf := HR7.out.fz
    go_wp2
    have hC := set2_chg w7 w.heap.size (.int .i64 x.lv) (.int .i64 x.st)
    exact bodyPost_ret (v := .tuple #[.slice ja p.jobs.length jc, .agg #[(.int .i64 x.lv), (.int .i64 x.st)], (.int .i64 (m : Int))]) (by simp [results, Try.results6, go_sem, r0, r1]) rfl ⟨ja, jc, p.jobs, x, (m : Int), rfl, hC.ext HX7.out (by simp), ePool_jobs9 ((HP7.out.off hC (offP_low HWG.out)).e), HB.out.j2, HXO.out⟩
  go_wp2_with fail
  refine (srcN' g (p.jobs.length : Int) _ v l HP4.out.1 (i64_nat HB.out.j1 (by decide))).mono ?_
  rintro e w5 ⟨k, rfl, hb, hc, hs⟩
  have hk : k < p.jobs.length := by omega
  have HX5 := Lib.hid (chg_old HX4.out hc HG.out)
  have HR5 := Lib.hid (HR4.out.chg hc (by have := HG9.out; simp; omega))
  have HP5 := Lib.hid (HP4.out.2.low hc HGs.out)
  clear hc hs hb HX4 HR4 HP4
  obtain ⟨ls, rs, -, q2, -, q4, -⟩ := HP5.out
  have hjl : p.jobs.length = rs.length := by have := congrArg List.length q4; rw [List.length_map] at this; omega
  have hk' : k < rs.length := by omega
  obtain ⟨bJ, oJ, rfl⟩ := slr_some (row_rc (f := RJ.cells) (fun _ => rfl) q2.row) hk'
  obtain ⟨ho, hcs⟩ := jbs_at q2 hk'
  have HF := Lib.hid (q2.nd _ (List.getElem_mem hk')).1
  generalize rs[k] = r at hcs HF
  obtain ⟨jb, na, nc⟩ := r
  have c0 : w5.cell? ⟨bJ, oJ + k * 9, none⟩ = some (.int .i64 jb.l.lv) := hcs 0 _ rfl
  have c1 : w5.cell? ⟨bJ, oJ + k * 9 + 1, none⟩ = some (.int .i64 jb.l.st) := hcs 1 _ rfl
  have c2 : w5.cell? ⟨bJ, oJ + k * 9 + 2, none⟩ = some (.int .i64 jb.id) := hcs 2 _ rfl
  have c3 : w5.cell? ⟨bJ, oJ + k * 9 + 3, none⟩ = some (.int .i64 jb.need) := hcs 3 _ rfl
  have c4 : w5.cell? ⟨bJ, oJ + k * 9 + 4, none⟩ = some (.int .i64 jb.long) := hcs 4 _ rfl
  have c5 : w5.cell? ⟨bJ, oJ + k * 9 + 5, none⟩ = some (.int .i64 jb.prio) := hcs 5 _ rfl
  have c6 : w5.cell? ⟨bJ, oJ + k * 9 + 6, none⟩ = some (.int .i64 jb.state) := hcs 6 _ rfl
  have c7 : w5.cell? ⟨bJ, oJ + k * 9 + 7, none⟩ = some (.int .i64 jb.start) := hcs 7 _ rfl
  have c8 : w5.cell? ⟨bJ, oJ + k * 9 + 8, none⟩ = some (.slice na jb.nodes.length nc) := hcs 8 _ rfl
  clear hcs q2 q4 hjl hk'
  go_upto_region 5 with fail
  refine gen_world (fun W6 hW => ?_)
  have HX6 := Lib.hid (show Ext w W6 by rw [hW]; exact HX5.out.trans xt)
  have HR6 := Lib.hid (show Blk W6 w.heap.size [(.int .i64 0), (.int .i64 0)] 24 by rw [hW]; exact HR5.out.ext xt)
  have HP6 := Lib.hid (show PlR w2.heap.size W6 _ _ p by rw [hW]; exact HP5.out.ext xt)
  have HB6 := Lib.hid (show Blk W6 w5.heap.size (jb.cells (.slice na jb.nodes.length nc)) 27 by rw [hW]; exact Blk.new rfl)
  have HZ6 := Lib.hid (show w.heap.size < w5.heap.size from HR5.out.old)
  clear hW HX5 HR5 HP5 c0 c1 c2 c3 c4 c5 c6 c7 c8 ho
  generalize w5.heap.size = bB at HB6 HZ6 ⊢
  (refine wp_region_z [w.heap.size] [.V (.slice (some ⟨bJ, oJ, none⟩) p.jobs.length jc), .V (.pointer (some ⟨bB, 0, none⟩)), XReg.ZOp.A (fun _ u _ => u = (.agg #[(.int .i64 jb.l.lv), (.int .i64 jb.l.st)])) [] [w.heap.size] [w.heap.size], .V (.pointer (some ⟨bB, 2, none⟩)), XReg.ZOp.A (fun _ u _ => u = (.int .i64 jb.id)) [] [w.heap.size] [w.heap.size], .V (.slice (some ⟨bJ, oJ, none⟩) p.jobs.length jc), .A (kStZ9 w.heap.size [(.int .i64 jb.l.lv), (.int .i64 jb.l.st)] 24) [w.heap.size] [] [], .V (.int .i64 jb.id)] [] (by kernel_rfl) (by kernel_rfl) (by kernel_rfl) (by kernel_rfl) rfl ?_ (by repeat' (first | exact trivial | exact XReg.ZOp.good_is _ _ _ _ | exact XReg.ZOp.good_v _ | exact XReg.ZOp.good_t | (exact kStZ9_good (by simp)) | refine And.intro ?_ ?_)) (by repeat' (first | exact trivial | exact XReg.subL_nil _ | exact XReg.subL_refl _ | exact subL_l9 _ _ | exact subL_r9 _ _ | exact Or.inr (XReg.subL_nil _) | exact Or.inr (XReg.subL_refl _) | exact Or.inr (subL_l9 _ _) | exact Or.inr (subL_r9 _ _) | exact Or.inl (by kernel_rfl) | refine And.intro ?_ ?_)))
  (apply ZReg.val (.slice (some ⟨bJ, oJ, none⟩) p.jobs.length jc); (case h => (intro w'; go_wp2_with (fail); first | exact ⟨rfl, rfl⟩ | exact rfl)); (case hv => kernel_rfl))
  (apply ZReg.val (.pointer (some ⟨bB, 0, none⟩)); (case h => (intro w'; go_wp2_with (fail); first | exact ⟨rfl, rfl⟩ | exact rfl)); (case hv => kernel_rfl))
  apply ZReg.setU (.agg #[(.int .i64 jb.l.lv), (.int .i64 jb.l.st)])
  case h =>
    intro w' hw' hF'
    have hB := HB6.out.chg hw' (by have := HZ6.out; simp; omega)
    have e0 : w'.cell? ⟨bB, 0, none⟩ = some (.int .i64 jb.l.lv) := hB.cell 0
    have e1 : w'.cell? ⟨bB, 1, none⟩ = some (.int .i64 jb.l.st) := hB.cell 1
    have eo := hB.old
    clear hF' hw' hB
    go_wp2_with fail
    exact ⟨rfl, xt⟩
  case hv => kernel_rfl
  intro _
  (apply ZReg.val (.pointer (some ⟨bB, 2, none⟩)); (case h => (intro w'; go_wp2_with (fail); first | exact ⟨rfl, rfl⟩ | exact rfl)); (case hv => kernel_rfl))
  apply ZReg.setU (.int .i64 jb.id)
  case h =>
    intro w' hw' hF'
    have hB := HB6.out.chg hw' (by have := HZ6.out; simp; omega)
    have e2 : w'.cell? ⟨bB, 2, none⟩ = some (.int .i64 jb.id) := hB.cell 2
    have eo := hB.old
    clear hF' hw' hB
    go_wp2_with fail
    exact ⟨rfl, xt⟩
  case hv => kernel_rfl
  intro _
  (apply ZReg.val (.slice (some ⟨bJ, oJ, none⟩) p.jobs.length jc); (case h => (intro w'; go_wp2_with (fail); first | exact ⟨rfl, rfl⟩ | exact rfl)); (case hv => kernel_rfl))
  refine ZReg.kind (fun w' hw' hF' => ?_) (fun vA w1 xA hK => ?_)
  · have hB := HR6.out.chg hw' (by simp)
    have e0 : w'.cell? ⟨w.heap.size, 0, none⟩ = some (.int .i64 0) := hB.cell 0
    have e1 : w'.cell? ⟨w.heap.size, 1, none⟩ = some (.int .i64 0) := hB.cell 1
    have eo := hB.old
    have ef := hB.fz
    have H9 := Lib.hid (And.intro (set2_chg w' w.heap.size (.int .i64 jb.l.lv) (.int .i64 jb.l.st)) (show Blk _ w.heap.size [(.int .i64 jb.l.lv), (.int .i64 jb.l.st)] 24 from (hB.set 0 _).set 1 _))
    clear hF' hw' hB
    go_wp2
    exact ⟨H9.out.1, undef, H9.out.2⟩
  clear hK w1
  (apply ZReg.val (.int .i64 jb.id); (case h => (intro w'; go_wp2_with (fail); first | exact ⟨rfl, rfl⟩ | exact rfl)); (case hv => kernel_rfl))
  refine ZReg.done (fun W7 hw9 hF hR => ?_)
  have hR7 : Blk W7 w.heap.size _ 24 := hF 6 (kStZ9 w.heap.size [(.int .i64 jb.l.lv), (.int .i64 jb.l.st)] 24 xA, vA) (by kernel_rfl)
  have HX7 := Lib.hid (hw9.ext HX6.out (by simp))
  have HP7 := Lib.hid (HP6.out.off hw9 (offP_low HWG.out))
  have r0 : W7.cell? ⟨w.heap.size, 0, none⟩ = some (.int .i64 jb.l.lv) := hR7.cell 0
  have r1 : W7.cell? ⟨w.heap.size, 1, none⟩ = some (.int .i64 jb.l.st) := hR7.cell 1
  have ro := hR7.old
  clear hF hR hw9 hR7 HX6 HR6 HP6 HB6
  refine ZReg.end_ ?_
  go_wp2
  exact bodyPost_ret (v := .tuple #[.slice (some ⟨bJ, oJ, none⟩) p.jobs.length jc, .agg #[(.int .i64 jb.l.lv), (.int .i64 jb.l.st)], (.int .i64 jb.id)]) (by simp [results, Try.results6, go_sem, r0, r1]) rfl ⟨_, jc, p.jobs, jb.l, jb.id, rfl, HX7.out, ePool_jobs9 HP7.out.e, HB.out.j2, HF.out.1.1⟩
end Go.Proofs.Ytkhmdhdaldbbhaa
