/- The draws of spans. -/
import Derived.Test.YtkekfncgpbileaaDR3
import Derived.Test.YtkekfncgpbileaaT3
import Derived.Test.YtkekfncgpbileaaQ2
import Derived.Test.YtkekfncgpbileaaQ5
import Derived.Test.YtkekfncgpbileaaE5
set_option maxRecDepth 100000
set_option linter.unusedVariables false
namespace Go
open Go.RowKit
/-- A block of ours, whole. -/
def Blk (w : World) (b : Nat) (cs : List Value) (ty : TypeId) : Prop := w.heap[b]? = some (.cells cs.toArray ty (0, 0))
theorem Blk.chg {S : List Nat} {w w' : World} {b : Nat} {cs : List Value} {ty : TypeId} (h : Blk w b cs ty) (hx : Chg S w w') (hb : b ∉ S) : Blk w' b cs ty := by
  unfold Blk at *; rw [hx.block b (Array.getElem?_eq_some_iff.1 h).1 hb]; exact h
theorem Blk.ext {w w' : World} {b : Nat} {cs : List Value} {ty : TypeId} (h : Blk w b cs ty) (hx : Ext w w') : Blk w' b cs ty := h.chg (hx.chg []) (by simp)
theorem Blk.old {w : World} {b : Nat} {cs : List Value} {ty : TypeId} (h : Blk w b cs ty) : w.old b := (Array.getElem?_eq_some_iff.1 h).1
theorem Blk.cell {w : World} {b : Nat} {cs : List Value} {ty : TypeId} (h : Blk w b cs ty) (i : Nat) : w.cell? ⟨b, i, none⟩ = cs[i]? := by rw [cell_of_heap h]; simp
theorem Blk.fz {w : World} {b : Nat} {cs : List Value} {ty : TypeId} (h : Blk w b cs ty) (i : Nat) : w.frozen? ⟨b, i, none⟩ = false := frozen_of_heap h i
theorem Blk.new {w : World} {b : Nat} {cs : Array Value} {ty : TypeId} (hb : b = w.heap.size) : Blk (w.alloc (.cells cs ty)) b cs.toList ty := by
  subst hb; unfold Blk; simpa using heap_alloc_new w (.cells cs ty)
theorem Blk.set {w : World} {b : Nat} {cs : List Value} {ty : TypeId} (h : Blk w b cs ty) (i : Nat) (v : Value) : Blk (w.setCell ⟨b, i, none⟩ v) b (cs.set i v) ty := by
  have := setCell_heap h i v
  unfold Blk; rw [this]; simp
end Go
namespace Go.Proofs.Ytkekfncgpbileaa
open Go.RowKit Go.Fin1

set_option maxHeartbeats 1600000 in
theorem srcSpan_any (g : Nat) (w : World) (cv : Value) (l : List Int) (h : SrcA w g cv l) :
    Calls Try.prog 84 #[.pointer (some ⟨g, 0, none⟩)] w fun e w' => ∃ x : Spn, e = .returned (.agg #[(.int .i64 x.f), (.int .i64 x.t)]) ∧ x.ok ∧ Chg [g] w w' ∧ SrcA w' g cv l := by
  have HS := Lib.hid h
  have HG := Lib.hid h.old
  clear h
  have H30 : Hid (I64 30) := Lib.hid (by unfold I64; omega)
  have H8 : Hid (I64 8) := Lib.hid (by unfold I64; omega)
  have H20 : Hid (I64 20) := Lib.hid (by unfold I64; omega)
  have H3 : Hid (I64 3) := Lib.hid (by unfold I64; omega)
  go_enter Try.func84, Try.ntmps84
  go_wp2_with fail
  refine (srcN' g 30 _ cv l (HS.out.ext (by repeat (first | exact Ext.refl _ | apply Ext.plus | apply Ext.alloc | apply Ext.drew))) H30.out).mono ?_
  rintro e w2 ⟨f, rfl, hb, hc, hs⟩
  have HC := Lib.hid (((Ext.refl w).alloc _ |>.chg [g]).trans hc)
  have HR := Lib.hid ((Blk.new (w := w) rfl).chg hc (by have := HG.out; simp; omega))
  have HA := Lib.hid hs
  have hf : f ≤ 30 := by omega
  clear hc hs hb
  go_wp2_with fail
  refine (srcN' g 8 _ cv l HA.out H8.out).mono ?_
  rintro e w3 ⟨d, rfl, hb, hc, hs⟩
  have HR2 := Lib.hid (HR.out.chg hc (by have := HG.out; simp; omega))
  have HC2 := Lib.hid (HC.out.trans hc)
  have HA2 := Lib.hid hs
  have hd : d ≤ 8 := by omega
  clear hc hs hb HR HC HA
  have hw1 : wrap64 ((f : Int) + 1) = (f : Int) + 1 := by unfold wrap64; omega
  have hw2 : wrap64 ((f : Int) + 1 + (d : Int)) = (f : Int) + 1 + (d : Int) := by unfold wrap64; omega
  go_wp2_with fail
  refine (srcOne_any g 20 _ cv l (HA2.out.ext (by repeat (first | exact Ext.refl _ | apply Ext.plus | apply Ext.alloc | apply Ext.drew))) H20.out).mono ?_
  rintro e w4 ⟨b, rfl, hc, hs⟩
  have HR3 := Lib.hid ((HR2.out.ext ((Ext.refl _).alloc _)).chg hc (by have := HG.out; simp; omega))
  have HB3 := Lib.hid ((Blk.new (w := w3) rfl).chg hc (by have := HG.out; have := HC2.out.size; simp; omega))
  have HC3 := Lib.hid (HC2.out.trans (((Ext.refl _).alloc _ |>.chg [g]).trans hc))
  have HA3 := Lib.hid hs
  have HZ := Lib.hid HC2.out.size
  have HRN := Lib.hid (show w.heap.size ≠ w3.heap.size by have := HR2.out.old; unfold World.old at this; omega)
  clear hc hs HR2 HC2 HA2 hw1 hw2
  cases b
  · clear HRN
    have hr0 : w4.cell? ⟨w.heap.size, 0, none⟩ = some (.int .i64 0) := HR3.out.cell 0
    have hr1 : w4.cell? ⟨w.heap.size, 1, none⟩ = some (.int .i64 0) := HR3.out.cell 1
    have hro := HR3.out.old
    have hrf := HR3.out.fz
    have hb0 : w4.cell? ⟨w3.heap.size, 0, none⟩ = some (.int .i64 (f : Int)) := HB3.out.cell 0
    have hb1 : w4.cell? ⟨w3.heap.size, 1, none⟩ = some (.int .i64 ((f : Int) + 1 + (d : Int))) := HB3.out.cell 1
    have hbo := HB3.out.old
    go_wp2
    exact bodyPost_ret (v := .agg #[(.int .i64 (f : Int)), (.int .i64 ((f : Int) + 1 + (d : Int)))]) (by simp [results, Try.results84, go_sem, hr0, hr1]) rfl ⟨⟨f, ((f : Int) + 1 + (d : Int))⟩, rfl, ⟨show I64 (f : Int) by unfold I64; omega, show I64 ((f : Int) + 1 + (d : Int)) by first | assumption | (unfold I64; omega)⟩, HC3.out.past (((Chg.refl [w.heap.size] _).setCell (.inl (by simp)) _).setCell (.inl (by simp)) _) (by simp), HA3.out.chg HS.out (((Chg.refl [w.heap.size] _).setCell (.inl (by simp)) _).setCell (.inl (by simp)) _) (by simp)⟩
  · go_wp2_with fail
    refine (srcN' g 3 _ cv l (HA3.out.ext (by repeat (first | exact Ext.refl _ | apply Ext.plus | apply Ext.alloc | apply Ext.drew))) H3.out).mono ?_
    rintro e w5 ⟨q, rfl, hb, hc, hs⟩
    have hq : q < 3 := by omega
    have HR4 := Lib.hid ((HR3.out.ext ((Ext.refl _).alloc _)).chg hc (by have := HG.out; simp; omega))
    have HB4 := Lib.hid ((HB3.out.ext ((Ext.refl _).alloc _)).chg hc (by have := HG.out; have := HZ.out; simp; omega))
    have HQ4 := Lib.hid ((Blk.new (w := w4) rfl).chg hc (by have := HG.out; have := HC3.out.size; simp; omega))
    have HC4 := Lib.hid (HC3.out.trans (((Ext.refl _).alloc _ |>.chg [g]).trans hc))
    have HA4 := Lib.hid hs
    obtain ⟨n, hni, hn⟩ : ∃ n : Int, I64 n ∧ ([(.int .i64 (f : Int)), (.int .i64 1000000), (.int .i64 1000001)] : List Value)[q]? = some (.int .i64 n) := by
      have : q = 0 ∨ q = 1 ∨ q = 2 := by omega
      rcases this with rfl | rfl | rfl <;> (refine ⟨_, ?_, rfl⟩; unfold I64; omega)
    have hq0 : w5.cell? ⟨w4.heap.size, q, none⟩ = some (.int .i64 n) := by rw [HQ4.out.cell q]; exact hn
    have hqo := HQ4.out.old
    have hb0 : w5.cell? ⟨w3.heap.size, 0, none⟩ = some (.int .i64 (f : Int)) := HB4.out.cell 0
    have hb1 : w5.cell? ⟨w3.heap.size, 1, none⟩ = some (.int .i64 ((f : Int) + 1 + (d : Int))) := HB4.out.cell 1
    have hbo := HB4.out.old
    have hbf := HB4.out.fz
    clear hc hs HR3 HB3 HC3 HA3 hb hn
    go_upto_region 5 with fail
    refine gen_world (fun w6 hW => ?_)
    have hch : Chg [w3.heap.size] w5 w6 := by rw [hW]; exact (Chg.refl _ _).setCell (.inl (by simp)) _
    have HR6 := Lib.hid (HR4.out.chg hch (by simpa using HRN.out))
    have HB6 := Lib.hid (show Blk w6 w3.heap.size [(.int .i64 (f : Int)), (.int .i64 n)] 45 by rw [hW]; exact HB4.out.set 1 _)
    have HC6 := Lib.hid (HC4.out.past hch (by simpa using HZ.out))
    have HA6 := Lib.hid (HA4.out.chg HS.out hch (by simpa using HZ.out))
    clear hW hch hb0 hb1 hbo hbf hq0 hqo HR4 HB4 HC4 HA4
    have hr0 : w6.cell? ⟨w.heap.size, 0, none⟩ = some (.int .i64 0) := HR6.out.cell 0
    have hr1 : w6.cell? ⟨w.heap.size, 1, none⟩ = some (.int .i64 0) := HR6.out.cell 1
    have hro := HR6.out.old
    have hrf := HR6.out.fz
    have hb0 : w6.cell? ⟨w3.heap.size, 0, none⟩ = some (.int .i64 (f : Int)) := HB6.out.cell 0
    have hb1 : w6.cell? ⟨w3.heap.size, 1, none⟩ = some (.int .i64 n) := HB6.out.cell 1
    have hbo := HB6.out.old
    go_wp2
    exact bodyPost_ret (v := .agg #[(.int .i64 (f : Int)), (.int .i64 n)]) (by simp [results, Try.results84, go_sem, hr0, hr1]) rfl ⟨⟨f, n⟩, rfl, ⟨show I64 (f : Int) by unfold I64; omega, show I64 n by first | assumption | (unfold I64; omega)⟩, HC6.out.past (((Chg.refl [w.heap.size] _).setCell (.inl (by simp)) _).setCell (.inl (by simp)) _) (by simp), HA6.out.chg HS.out (((Chg.refl [w.heap.size] _).setCell (.inl (by simp)) _).setCell (.inl (by simp)) _) (by simp)⟩
end Go.Proofs.Ytkekfncgpbileaa
