/- FnBlind, walked. -/
import Derived.Test.YtkhmdhdaldbbhaaBK
import Derived.Test.YtkhmdhdaldbbhaaCL
import Derived.Test.YtkhmdhdaldbbhaaAF
import Derived.Test.YtkhmdhdaldbbhaaVH
import Derived.Test.YtkhmdhdaldbbhaaDR3
import Derived.Test.YtkhmdhdaldbbhaaTAB
import Derived.Deep.CutBlock
set_option maxRecDepth 100000
set_option linter.unusedVariables false
namespace Go.Proofs.Ytkhmdhdaldbbhaa
open Go.RowKit Go.Fin1
theorem blk_alls : ∀ (os : List Obj) (w : World) (i : Nat) {cs : Array Value} {ty : TypeId}, os[i]? = some (.cells cs ty) → Blk (os.foldl (fun w o => w.alloc o) w) (w.heap.size + i) cs.toList ty
  | [], w, i, cs, ty, h => by simp at h
  | o :: os, w, 0, cs, ty, h => by
    obtain rfl : o = .cells cs ty := by simpa using h
    have key : ∀ (os : List Obj) (w : World), Ext w (os.foldl (fun w o => w.alloc o) w) := by
      intro os
      induction os with
      | nil => intro w; exact Ext.refl w
      | cons o os ih => intro w; exact ((Ext.refl w).alloc o).trans (ih _)
    exact (Blk.new (w := w) (cs := cs) (ty := ty) rfl).ext (key os _)
  | o :: os, w, i + 1, cs, ty, h => by
    have := blk_alls os (w.alloc o) i (cs := cs) (ty := ty) (by simpa using h)
    simpa [Nat.add_assoc, Nat.add_comm 1 i] using this
set_option maxHeartbeats 25600000 in
theorem fnBlind_any (a b : Arg (List Int)) (w : World) (ha : SlR w 1 rU8 a.v a.x) (hb : SlR w 1 rU8 b.v b.x) :
    Calls Try.prog 4 #[a.v, b.v] w fun e w' => e = .returned (.bool true) ∧ Ext w w' := by
  obtain ⟨v, l⟩ := a
  obtain ⟨u, m⟩ := b
  change SlR w 1 rU8 v l at ha
  change SlR w 1 rU8 u m at hb
  change Calls Try.prog 4 #[v, u] w _
  obtain ⟨va, vc, rfl⟩ := ha.len
  obtain ⟨ua, uc, rfl⟩ := hb.len
  have HS := Lib.hid ha
  have HU := Lib.hid hb
  clear ha hb
  by_cases hl : l.length ≤ 1048576
  case neg =>
    have hlb : decide ((1048576 : Int) < (l.length : Int)) = true := decide_eq_true (by omega)
    go_enter Try.func4, Try.ntmps4
    go_wp2
    go_ret
    exact ⟨rfl, (by repeat (first | exact Ext.refl _ | apply Ext.plus | apply Ext.alloc | apply Ext.drew))⟩
  have hlb : decide ((1048576 : Int) < (l.length : Int)) = false := decide_eq_false (by omega)
  by_cases hm : m.length ≤ 1048576
  case neg =>
    have hmb : decide ((1048576 : Int) < (m.length : Int)) = true := decide_eq_true (by omega)
    go_enter Try.func4, Try.ntmps4
    go_wp2
    go_ret
    exact ⟨rfl, (by repeat (first | exact Ext.refl _ | apply Ext.plus | apply Ext.alloc | apply Ext.drew))⟩
  have hmb : decide ((1048576 : Int) < (m.length : Int)) = false := decide_eq_false (by omega)
  have Q0 := Lib.hid b_start.1
  have RP := Lib.hid b_start.2.1
  have N0 := Lib.hid b_start.2.2
  go_enter Try.func4, Try.ntmps4
  go_upto_region 5 with fail
  refine gen_world (fun W0 hW => ?_)
  have hE0 : Ext w W0 := by rw [hW]; exact (by repeat (first | exact Ext.refl _ | apply Ext.plus | apply Ext.alloc | apply Ext.drew))
  have hF : W0 = [.cells #[(.int .i64 0), (.int .i64 0)] 24, .cells #[(.int .i64 1), (.int .i64 1)] 24, .cells #[(.int .i64 1), (.int .i64 2)] 24, .cells #[(.int .i64 2), (.int .i64 1)] 24, .cells #[(.int .i64 0), (.int .i64 0), (.int .i64 1), (.int .i64 1), (.int .i64 2), (.int .i64 1)] 24, .cells #[(.int .i64 0), (.int .i64 0), (.int .i64 1), (.int .i64 1)] 24, .cells #[(.int .i64 1), (.int .i64 1), (.int .i64 2), (.int .i64 1)] 24, .cells #[(.int .i64 0), (.int .i64 0), (.int .i64 1), (.int .i64 2)] 24, .cells #[(.int .i64 0), (.int .i64 0), (.int .i64 1), (.int .i64 1), (.int .i64 2), (.int .i64 1)] 24, .cells #[(.int .i64 1), (.int .i64 2)] 24, .cells #[.slice (some ⟨w.heap.size + 4, 0, none⟩) 3 3, .slice (some ⟨w.heap.size + 5, 0, none⟩) 2 2, .slice (some ⟨w.heap.size + 6, 0, none⟩) 2 2, .slice (some ⟨w.heap.size + 7, 0, none⟩) 2 2, .slice (some ⟨w.heap.size + 8, 0, none⟩) 3 3, .slice (some ⟨w.heap.size + 9, 0, none⟩) 1 1] 40].foldl (fun w o => w.alloc o) w := hW
  have hlo : Blk W0 w.heap.size [(.int .i64 0), (.int .i64 0)] 24 := by rw [hF]; exact blk_alls [.cells #[(.int .i64 0), (.int .i64 0)] 24, .cells #[(.int .i64 1), (.int .i64 1)] 24, .cells #[(.int .i64 1), (.int .i64 2)] 24, .cells #[(.int .i64 2), (.int .i64 1)] 24, .cells #[(.int .i64 0), (.int .i64 0), (.int .i64 1), (.int .i64 1), (.int .i64 2), (.int .i64 1)] 24, .cells #[(.int .i64 0), (.int .i64 0), (.int .i64 1), (.int .i64 1)] 24, .cells #[(.int .i64 1), (.int .i64 1), (.int .i64 2), (.int .i64 1)] 24, .cells #[(.int .i64 0), (.int .i64 0), (.int .i64 1), (.int .i64 2)] 24, .cells #[(.int .i64 0), (.int .i64 0), (.int .i64 1), (.int .i64 1), (.int .i64 2), (.int .i64 1)] 24, .cells #[(.int .i64 1), (.int .i64 2)] 24, .cells #[.slice (some ⟨w.heap.size + 4, 0, none⟩) 3 3, .slice (some ⟨w.heap.size + 5, 0, none⟩) 2 2, .slice (some ⟨w.heap.size + 6, 0, none⟩) 2 2, .slice (some ⟨w.heap.size + 7, 0, none⟩) 2 2, .slice (some ⟨w.heap.size + 8, 0, none⟩) 3 3, .slice (some ⟨w.heap.size + 9, 0, none⟩) 1 1] 40] w 0 rfl
  have hmi : Blk W0 (w.heap.size + 1) [(.int .i64 1), (.int .i64 1)] 24 := by rw [hF]; exact blk_alls [.cells #[(.int .i64 0), (.int .i64 0)] 24, .cells #[(.int .i64 1), (.int .i64 1)] 24, .cells #[(.int .i64 1), (.int .i64 2)] 24, .cells #[(.int .i64 2), (.int .i64 1)] 24, .cells #[(.int .i64 0), (.int .i64 0), (.int .i64 1), (.int .i64 1), (.int .i64 2), (.int .i64 1)] 24, .cells #[(.int .i64 0), (.int .i64 0), (.int .i64 1), (.int .i64 1)] 24, .cells #[(.int .i64 1), (.int .i64 1), (.int .i64 2), (.int .i64 1)] 24, .cells #[(.int .i64 0), (.int .i64 0), (.int .i64 1), (.int .i64 2)] 24, .cells #[(.int .i64 0), (.int .i64 0), (.int .i64 1), (.int .i64 1), (.int .i64 2), (.int .i64 1)] 24, .cells #[(.int .i64 1), (.int .i64 2)] 24, .cells #[.slice (some ⟨w.heap.size + 4, 0, none⟩) 3 3, .slice (some ⟨w.heap.size + 5, 0, none⟩) 2 2, .slice (some ⟨w.heap.size + 6, 0, none⟩) 2 2, .slice (some ⟨w.heap.size + 7, 0, none⟩) 2 2, .slice (some ⟨w.heap.size + 8, 0, none⟩) 3 3, .slice (some ⟨w.heap.size + 9, 0, none⟩) 1 1] 40] w 1 rfl
  have hsi : Blk W0 (w.heap.size + 1 + 1) [(.int .i64 1), (.int .i64 2)] 24 := by rw [hF]; exact blk_alls [.cells #[(.int .i64 0), (.int .i64 0)] 24, .cells #[(.int .i64 1), (.int .i64 1)] 24, .cells #[(.int .i64 1), (.int .i64 2)] 24, .cells #[(.int .i64 2), (.int .i64 1)] 24, .cells #[(.int .i64 0), (.int .i64 0), (.int .i64 1), (.int .i64 1), (.int .i64 2), (.int .i64 1)] 24, .cells #[(.int .i64 0), (.int .i64 0), (.int .i64 1), (.int .i64 1)] 24, .cells #[(.int .i64 1), (.int .i64 1), (.int .i64 2), (.int .i64 1)] 24, .cells #[(.int .i64 0), (.int .i64 0), (.int .i64 1), (.int .i64 2)] 24, .cells #[(.int .i64 0), (.int .i64 0), (.int .i64 1), (.int .i64 1), (.int .i64 2), (.int .i64 1)] 24, .cells #[(.int .i64 1), (.int .i64 2)] 24, .cells #[.slice (some ⟨w.heap.size + 4, 0, none⟩) 3 3, .slice (some ⟨w.heap.size + 5, 0, none⟩) 2 2, .slice (some ⟨w.heap.size + 6, 0, none⟩) 2 2, .slice (some ⟨w.heap.size + 7, 0, none⟩) 2 2, .slice (some ⟨w.heap.size + 8, 0, none⟩) 3 3, .slice (some ⟨w.heap.size + 9, 0, none⟩) 1 1] 40] w 2 rfl
  have hto : Blk W0 (w.heap.size + 1 + 1 + 1) [(.int .i64 2), (.int .i64 1)] 24 := by rw [hF]; exact blk_alls [.cells #[(.int .i64 0), (.int .i64 0)] 24, .cells #[(.int .i64 1), (.int .i64 1)] 24, .cells #[(.int .i64 1), (.int .i64 2)] 24, .cells #[(.int .i64 2), (.int .i64 1)] 24, .cells #[(.int .i64 0), (.int .i64 0), (.int .i64 1), (.int .i64 1), (.int .i64 2), (.int .i64 1)] 24, .cells #[(.int .i64 0), (.int .i64 0), (.int .i64 1), (.int .i64 1)] 24, .cells #[(.int .i64 1), (.int .i64 1), (.int .i64 2), (.int .i64 1)] 24, .cells #[(.int .i64 0), (.int .i64 0), (.int .i64 1), (.int .i64 2)] 24, .cells #[(.int .i64 0), (.int .i64 0), (.int .i64 1), (.int .i64 1), (.int .i64 2), (.int .i64 1)] 24, .cells #[(.int .i64 1), (.int .i64 2)] 24, .cells #[.slice (some ⟨w.heap.size + 4, 0, none⟩) 3 3, .slice (some ⟨w.heap.size + 5, 0, none⟩) 2 2, .slice (some ⟨w.heap.size + 6, 0, none⟩) 2 2, .slice (some ⟨w.heap.size + 7, 0, none⟩) 2 2, .slice (some ⟨w.heap.size + 8, 0, none⟩) 3 3, .slice (some ⟨w.heap.size + 9, 0, none⟩) 1 1] 40] w 3 rfl
  have hcl : SlR W0 1 rLabS (.slice (some ⟨w.heap.size + 1 + 1 + 1 + 1 + 1 + 1 + 1 + 1 + 1 + 1, 0, none⟩) 6 6) bClear := by
    rw [hF]
    refine slr_valB (blk_alls [.cells #[(.int .i64 0), (.int .i64 0)] 24, .cells #[(.int .i64 1), (.int .i64 1)] 24, .cells #[(.int .i64 1), (.int .i64 2)] 24, .cells #[(.int .i64 2), (.int .i64 1)] 24, .cells #[(.int .i64 0), (.int .i64 0), (.int .i64 1), (.int .i64 1), (.int .i64 2), (.int .i64 1)] 24, .cells #[(.int .i64 0), (.int .i64 0), (.int .i64 1), (.int .i64 1)] 24, .cells #[(.int .i64 1), (.int .i64 1), (.int .i64 2), (.int .i64 1)] 24, .cells #[(.int .i64 0), (.int .i64 0), (.int .i64 1), (.int .i64 2)] 24, .cells #[(.int .i64 0), (.int .i64 0), (.int .i64 1), (.int .i64 1), (.int .i64 2), (.int .i64 1)] 24, .cells #[(.int .i64 1), (.int .i64 2)] 24, .cells #[.slice (some ⟨w.heap.size + 4, 0, none⟩) 3 3, .slice (some ⟨w.heap.size + 5, 0, none⟩) 2 2, .slice (some ⟨w.heap.size + 6, 0, none⟩) 2 2, .slice (some ⟨w.heap.size + 7, 0, none⟩) 2 2, .slice (some ⟨w.heap.size + 8, 0, none⟩) 3 3, .slice (some ⟨w.heap.size + 9, 0, none⟩) 1 1] 40] w 10 rfl) rfl rfl (by decide) (fun i h1 h2 => ?_)
    have hi : i = 0 ∨ i = 1 ∨ i = 2 ∨ i = 3 ∨ i = 4 ∨ i = 5 := by simp at h1; omega
    rcases hi with rfl | rfl | rfl | rfl | rfl | rfl
    · exact ⟨_, rfl, slr_labB (ls := [bLow, bMid, bTop]) (blk_alls [.cells #[(.int .i64 0), (.int .i64 0)] 24, .cells #[(.int .i64 1), (.int .i64 1)] 24, .cells #[(.int .i64 1), (.int .i64 2)] 24, .cells #[(.int .i64 2), (.int .i64 1)] 24, .cells #[(.int .i64 0), (.int .i64 0), (.int .i64 1), (.int .i64 1), (.int .i64 2), (.int .i64 1)] 24, .cells #[(.int .i64 0), (.int .i64 0), (.int .i64 1), (.int .i64 1)] 24, .cells #[(.int .i64 1), (.int .i64 1), (.int .i64 2), (.int .i64 1)] 24, .cells #[(.int .i64 0), (.int .i64 0), (.int .i64 1), (.int .i64 2)] 24, .cells #[(.int .i64 0), (.int .i64 0), (.int .i64 1), (.int .i64 1), (.int .i64 2), (.int .i64 1)] 24, .cells #[(.int .i64 1), (.int .i64 2)] 24, .cells #[.slice (some ⟨w.heap.size + 4, 0, none⟩) 3 3, .slice (some ⟨w.heap.size + 5, 0, none⟩) 2 2, .slice (some ⟨w.heap.size + 6, 0, none⟩) 2 2, .slice (some ⟨w.heap.size + 7, 0, none⟩) 2 2, .slice (some ⟨w.heap.size + 8, 0, none⟩) 3 3, .slice (some ⟨w.heap.size + 9, 0, none⟩) 1 1] 40] w 4 rfl) rfl (by intro x hx; simp at hx; rcases hx with rfl | rfl | rfl <;> (unfold Lab.ok I64; decide)) (by decide)⟩
    · exact ⟨_, rfl, slr_labB (ls := [bLow, bMid]) (blk_alls [.cells #[(.int .i64 0), (.int .i64 0)] 24, .cells #[(.int .i64 1), (.int .i64 1)] 24, .cells #[(.int .i64 1), (.int .i64 2)] 24, .cells #[(.int .i64 2), (.int .i64 1)] 24, .cells #[(.int .i64 0), (.int .i64 0), (.int .i64 1), (.int .i64 1), (.int .i64 2), (.int .i64 1)] 24, .cells #[(.int .i64 0), (.int .i64 0), (.int .i64 1), (.int .i64 1)] 24, .cells #[(.int .i64 1), (.int .i64 1), (.int .i64 2), (.int .i64 1)] 24, .cells #[(.int .i64 0), (.int .i64 0), (.int .i64 1), (.int .i64 2)] 24, .cells #[(.int .i64 0), (.int .i64 0), (.int .i64 1), (.int .i64 1), (.int .i64 2), (.int .i64 1)] 24, .cells #[(.int .i64 1), (.int .i64 2)] 24, .cells #[.slice (some ⟨w.heap.size + 4, 0, none⟩) 3 3, .slice (some ⟨w.heap.size + 5, 0, none⟩) 2 2, .slice (some ⟨w.heap.size + 6, 0, none⟩) 2 2, .slice (some ⟨w.heap.size + 7, 0, none⟩) 2 2, .slice (some ⟨w.heap.size + 8, 0, none⟩) 3 3, .slice (some ⟨w.heap.size + 9, 0, none⟩) 1 1] 40] w 5 rfl) rfl (by intro x hx; simp at hx; rcases hx with rfl | rfl <;> (unfold Lab.ok I64; decide)) (by decide)⟩
    · exact ⟨_, rfl, slr_labB (ls := [bMid, bTop]) (blk_alls [.cells #[(.int .i64 0), (.int .i64 0)] 24, .cells #[(.int .i64 1), (.int .i64 1)] 24, .cells #[(.int .i64 1), (.int .i64 2)] 24, .cells #[(.int .i64 2), (.int .i64 1)] 24, .cells #[(.int .i64 0), (.int .i64 0), (.int .i64 1), (.int .i64 1), (.int .i64 2), (.int .i64 1)] 24, .cells #[(.int .i64 0), (.int .i64 0), (.int .i64 1), (.int .i64 1)] 24, .cells #[(.int .i64 1), (.int .i64 1), (.int .i64 2), (.int .i64 1)] 24, .cells #[(.int .i64 0), (.int .i64 0), (.int .i64 1), (.int .i64 2)] 24, .cells #[(.int .i64 0), (.int .i64 0), (.int .i64 1), (.int .i64 1), (.int .i64 2), (.int .i64 1)] 24, .cells #[(.int .i64 1), (.int .i64 2)] 24, .cells #[.slice (some ⟨w.heap.size + 4, 0, none⟩) 3 3, .slice (some ⟨w.heap.size + 5, 0, none⟩) 2 2, .slice (some ⟨w.heap.size + 6, 0, none⟩) 2 2, .slice (some ⟨w.heap.size + 7, 0, none⟩) 2 2, .slice (some ⟨w.heap.size + 8, 0, none⟩) 3 3, .slice (some ⟨w.heap.size + 9, 0, none⟩) 1 1] 40] w 6 rfl) rfl (by intro x hx; simp at hx; rcases hx with rfl | rfl <;> (unfold Lab.ok I64; decide)) (by decide)⟩
    · exact ⟨_, rfl, slr_labB (ls := [bLow, bSide]) (blk_alls [.cells #[(.int .i64 0), (.int .i64 0)] 24, .cells #[(.int .i64 1), (.int .i64 1)] 24, .cells #[(.int .i64 1), (.int .i64 2)] 24, .cells #[(.int .i64 2), (.int .i64 1)] 24, .cells #[(.int .i64 0), (.int .i64 0), (.int .i64 1), (.int .i64 1), (.int .i64 2), (.int .i64 1)] 24, .cells #[(.int .i64 0), (.int .i64 0), (.int .i64 1), (.int .i64 1)] 24, .cells #[(.int .i64 1), (.int .i64 1), (.int .i64 2), (.int .i64 1)] 24, .cells #[(.int .i64 0), (.int .i64 0), (.int .i64 1), (.int .i64 2)] 24, .cells #[(.int .i64 0), (.int .i64 0), (.int .i64 1), (.int .i64 1), (.int .i64 2), (.int .i64 1)] 24, .cells #[(.int .i64 1), (.int .i64 2)] 24, .cells #[.slice (some ⟨w.heap.size + 4, 0, none⟩) 3 3, .slice (some ⟨w.heap.size + 5, 0, none⟩) 2 2, .slice (some ⟨w.heap.size + 6, 0, none⟩) 2 2, .slice (some ⟨w.heap.size + 7, 0, none⟩) 2 2, .slice (some ⟨w.heap.size + 8, 0, none⟩) 3 3, .slice (some ⟨w.heap.size + 9, 0, none⟩) 1 1] 40] w 7 rfl) rfl (by intro x hx; simp at hx; rcases hx with rfl | rfl <;> (unfold Lab.ok I64; decide)) (by decide)⟩
    · exact ⟨_, rfl, slr_labB (ls := [bLow, bMid, bTop]) (blk_alls [.cells #[(.int .i64 0), (.int .i64 0)] 24, .cells #[(.int .i64 1), (.int .i64 1)] 24, .cells #[(.int .i64 1), (.int .i64 2)] 24, .cells #[(.int .i64 2), (.int .i64 1)] 24, .cells #[(.int .i64 0), (.int .i64 0), (.int .i64 1), (.int .i64 1), (.int .i64 2), (.int .i64 1)] 24, .cells #[(.int .i64 0), (.int .i64 0), (.int .i64 1), (.int .i64 1)] 24, .cells #[(.int .i64 1), (.int .i64 1), (.int .i64 2), (.int .i64 1)] 24, .cells #[(.int .i64 0), (.int .i64 0), (.int .i64 1), (.int .i64 2)] 24, .cells #[(.int .i64 0), (.int .i64 0), (.int .i64 1), (.int .i64 1), (.int .i64 2), (.int .i64 1)] 24, .cells #[(.int .i64 1), (.int .i64 2)] 24, .cells #[.slice (some ⟨w.heap.size + 4, 0, none⟩) 3 3, .slice (some ⟨w.heap.size + 5, 0, none⟩) 2 2, .slice (some ⟨w.heap.size + 6, 0, none⟩) 2 2, .slice (some ⟨w.heap.size + 7, 0, none⟩) 2 2, .slice (some ⟨w.heap.size + 8, 0, none⟩) 3 3, .slice (some ⟨w.heap.size + 9, 0, none⟩) 1 1] 40] w 8 rfl) rfl (by intro x hx; simp at hx; rcases hx with rfl | rfl | rfl <;> (unfold Lab.ok I64; decide)) (by decide)⟩
    · exact ⟨_, rfl, slr_labB (ls := [bSide]) (blk_alls [.cells #[(.int .i64 0), (.int .i64 0)] 24, .cells #[(.int .i64 1), (.int .i64 1)] 24, .cells #[(.int .i64 1), (.int .i64 2)] 24, .cells #[(.int .i64 2), (.int .i64 1)] 24, .cells #[(.int .i64 0), (.int .i64 0), (.int .i64 1), (.int .i64 1), (.int .i64 2), (.int .i64 1)] 24, .cells #[(.int .i64 0), (.int .i64 0), (.int .i64 1), (.int .i64 1)] 24, .cells #[(.int .i64 1), (.int .i64 1), (.int .i64 2), (.int .i64 1)] 24, .cells #[(.int .i64 0), (.int .i64 0), (.int .i64 1), (.int .i64 2)] 24, .cells #[(.int .i64 0), (.int .i64 0), (.int .i64 1), (.int .i64 1), (.int .i64 2), (.int .i64 1)] 24, .cells #[(.int .i64 1), (.int .i64 2)] 24, .cells #[.slice (some ⟨w.heap.size + 4, 0, none⟩) 3 3, .slice (some ⟨w.heap.size + 5, 0, none⟩) 2 2, .slice (some ⟨w.heap.size + 6, 0, none⟩) 2 2, .slice (some ⟨w.heap.size + 7, 0, none⟩) 2 2, .slice (some ⟨w.heap.size + 8, 0, none⟩) 3 3, .slice (some ⟨w.heap.size + 9, 0, none⟩) 1 1] 40] w 9 rfl) rfl (by intro x hx; simp at hx; rcases hx with rfl <;> (unfold Lab.ok I64; decide)) (by decide)⟩
  clear hW hF
  generalize w.heap.size + 1 + 1 + 1 + 1 + 1 + 1 + 1 + 1 + 1 + 1 = gC at hcl ⊢
  generalize w.heap.size + 1 + 1 + 1 = gT at hto ⊢
  generalize w.heap.size + 1 + 1 = gS at hsi ⊢
  generalize w.heap.size + 1 = gM at hmi ⊢
  obtain ⟨gL, hgL⟩ : ∃ g, g = w.heap.size := ⟨_, rfl⟩
  rw [← hgL] at hlo ⊢
  have BL := Lib.hid hlo
  have BM := Lib.hid hmi
  have BS := Lib.hid hsi
  have BT := Lib.hid hto
  have HCL := Lib.hid hcl
  have E0 := Lib.hid hE0
  clear hlo hmi hsi hto hcl hE0 hgL
  go_wp2_with fail
  refine (implPoolNew_any _ bClear _ (HCL.out.ext rLabS_stable (by repeat (first | exact Ext.refl _ | apply Ext.plus | apply Ext.alloc | apply Ext.drew))) (by unfold szL; decide)).mono ?_
  rintro e _ ⟨cv9, jv9, fc9, fj9, rfl, ⟨X9, rfl⟩, hO⟩
  rw [Q0.out] at hO ⊢
  have HK := Lib.hid (holdO_in (id := 0) (q := 0) hO)
  clear hO
  obtain ⟨ac, cc, aj, cj, hv, hO9, hP9⟩ := holdO_out HK.out
  unfold poV at hv ⊢
  rw [hv]
  clear HK hv
  go_upto_region 8 with fail
  refine gen_world (fun W1 hW => ?_)
  have E1 := Lib.hid (show Ext W0 W1 by rw [hW]; exact (by repeat (first | exact Ext.refl _ | apply Ext.plus | apply Ext.alloc | apply Ext.drew)))
  have P1 := Lib.hid ((holdP_keeps (tys := []) (fun _ h => by cases h) _ _).1 _ W1 (by rw [hW]; exact (by repeat (first | exact Ext.refl _ | apply Ext.plus | apply Ext.alloc | apply Ext.drew))) hP9)
  have hb : Blk W1 (W0.heap.size + X9.n) [.slice ac (newP bClear).clear.length cc, .slice aj (newP bClear).jobs.length cj, (.int .i64 (newP bClear).now), (.int .i64 0), (.int .i64 0)] 45 := by rw [hW]; exact Blk.new (by simp)
  clear hW hO9 hP9
  generalize W0.heap.size + X9.n = gX at hb ⊢
  have BX := Lib.hid hb
  clear hb
  have OK := Lib.hid (show RgOk [⟨some 4, 0, 6, 43, [.slice none 0 0, .slice none 0 0, (.int .i64 0)], holdP (newP bClear)⟩, ⟨some 5, 0, 7, 43, [.slice none 0 0, .slice none 0 0, (.int .i64 0)], holdP (newP bClear)⟩] [some (eqK (.pointer (some ⟨gX, 0, none⟩))), some (eqK (.agg #[.slice ac (newP bClear).clear.length cc, .slice aj (newP bClear).jobs.length cj, (.int .i64 (newP bClear).now)])), some (eqK (.pointer (some ⟨gX, 0, none⟩))), some (eqK (.agg #[.slice ac (newP bClear).clear.length cc, .slice aj (newP bClear).jobs.length cj, (.int .i64 (newP bClear).now)])), none, none, none, none] from (rgOk (by simp only [List.map]; repeat' (first | exact trivial | apply And.intro | (intro v; first | exact keeps_eq _ _ _ | exact kV_keeps (fun cs => holdO_keeps (by simp [blT]) _ _ _ cs) v | exact kV_keeps (fun cs => holdP_keeps (by simp [blT]) _ cs) v))) (by simp only [List.map]; repeat' (first | exact trivial | apply And.intro | (intro v; first | exact holdO_keeps (by simp [blT]) _ _ _ v | exact holdP_keeps (by simp [blT]) _ v)))))
  refine wp_region_i 8 (RgJ W1 [⟨some 4, 0, 6, 43, [.slice none 0 0, .slice none 0 0, (.int .i64 0)], holdP (newP bClear)⟩, ⟨some 5, 0, 7, 43, [.slice none 0 0, .slice none 0 0, (.int .i64 0)], holdP (newP bClear)⟩] [some (eqK (.pointer (some ⟨gX, 0, none⟩))), some (eqK (.agg #[.slice ac (newP bClear).clear.length cc, .slice aj (newP bClear).jobs.length cj, (.int .i64 (newP bClear).now)])), some (eqK (.pointer (some ⟨gX, 0, none⟩))), some (eqK (.agg #[.slice ac (newP bClear).clear.length cc, .slice aj (newP bClear).jobs.length cj, (.int .i64 (newP bClear).now)])), none, none, none, none] []) (by kernel_rfl) (by kernel_rfl) (by kernel_rfl) (fun vs => ?_) (fun vs => RgJ.start (Ext.refl _).drew (fun t ht hp => (noEld (by kernel_rfl) t ht hp).elim) (fun i j a b ha hb hij hp _ => (noEld (by kernel_rfl) a (List.mem_of_getElem? ha) hp).elim))
  refine IReg.step 1 rfl (fun L w' hI hL hj => ?_) ?_
  · skip
    have HI := Lib.hid hI
    clear hI hL hj
    go_wp2
    exact HI.out.opE OK.out 0 _ rfl (by repeat (first | exact Ext.refl _ | apply Ext.plus | apply Ext.alloc | apply Ext.drew)) (by kernel_rfl) (by kernel_rfl)
  (conv in (Act.put _ _ _) => simp only [Act.put, List.setIfInBounds_toArray, List.set_cons_succ, List.set_cons_zero])
  refine IReg.step 2 rfl (fun L w' hI hL hj => ?_) ?_
  · ((rw [hI.eq (j := 0) rfl (hj 0 (by decide) (by kernel_rfl))]); have T9 := BX.out.ext (hI.ext0 (by kernel_rfl)); (have x0 := T9.cell 0; have x1 := T9.cell 1; have x2 := T9.cell 2; have x3 := T9.cell 3; have x4 := T9.cell 4; have xo' := T9.old; simp only [List.getElem?_cons_zero, List.getElem?_cons_succ] at x0 x1 x2 x3 x4); clear T9)
    have HI := Lib.hid hI
    clear hI hL hj
    go_wp2
    exact HI.out.opE OK.out 1 _ rfl (by repeat (first | exact Ext.refl _ | apply Ext.plus | apply Ext.alloc | apply Ext.drew)) (by kernel_rfl) (by kernel_rfl)
  (conv in (Act.put _ _ _) => simp only [Act.put, List.setIfInBounds_toArray, List.set_cons_succ, List.set_cons_zero])
  refine IReg.step 3 rfl (fun L w' hI hL hj => ?_) ?_
  · skip
    have HI := Lib.hid hI
    clear hI hL hj
    go_wp2
    exact HI.out.opE OK.out 2 _ rfl (by repeat (first | exact Ext.refl _ | apply Ext.plus | apply Ext.alloc | apply Ext.drew)) (by kernel_rfl) (by kernel_rfl)
  (conv in (Act.put _ _ _) => simp only [Act.put, List.setIfInBounds_toArray, List.set_cons_succ, List.set_cons_zero])
  refine IReg.step 4 rfl (fun L w' hI hL hj => ?_) ?_
  · ((rw [hI.eq (j := 2) rfl (hj 2 (by decide) (by kernel_rfl))]); have T9 := BX.out.ext (hI.ext0 (by kernel_rfl)); (have x0 := T9.cell 0; have x1 := T9.cell 1; have x2 := T9.cell 2; have x3 := T9.cell 3; have x4 := T9.cell 4; have xo' := T9.old; simp only [List.getElem?_cons_zero, List.getElem?_cons_succ] at x0 x1 x2 x3 x4); clear T9)
    have HI := Lib.hid hI
    clear hI hL hj
    go_wp2
    exact HI.out.opE OK.out 3 _ rfl (by repeat (first | exact Ext.refl _ | apply Ext.plus | apply Ext.alloc | apply Ext.drew)) (by kernel_rfl) (by kernel_rfl)
  (conv in (Act.put _ _ _) => simp only [Act.put, List.setIfInBounds_toArray, List.set_cons_succ, List.set_cons_zero])
  refine IReg.step 5 rfl (fun L w' hI hL hj => ?_) ?_
  · have HI := Lib.hid (hI.box OK.out 4 0 rfl rfl hL (by kernel_rfl) (by kernel_rfl) rfl (by kernel_rfl) rfl rfl)
    clear hI hL hj
    go_wp2
    exact HI.out
  (conv in (Act.put _ _ _) => simp only [Act.put, List.setIfInBounds_toArray, List.set_cons_succ, List.set_cons_zero])
  refine IReg.step 6 rfl (fun L w' hI hL hj => ?_) ?_
  · have HI := Lib.hid (hI.box OK.out 5 1 rfl rfl hL (by kernel_rfl) (by kernel_rfl) rfl (by kernel_rfl) rfl rfl)
    clear hI hL hj
    go_wp2
    exact HI.out
  (conv in (Act.put _ _ _) => simp only [Act.put, List.setIfInBounds_toArray, List.set_cons_succ, List.set_cons_zero])
  refine IReg.step 7 rfl (fun L w' hI hL hj => ?_) ?_
  · obtain ⟨hb, hp⟩ := hI.tgt 0 rfl (hj 4 (by decide) (by kernel_rfl)) hL
    have hpp := hp 4 rfl
    have hH := (holdP_keeps (tys := []) (fun _ h => by cases h) _ _).1 _ w' (hI.ext0 (by kernel_rfl)) P1.out
    rw [hI.eq (j := 1) rfl (hj 1 (by decide) (by kernel_rfl)), hpp]
    have h9 := set3_chgB hb (.slice ac (newP bClear).clear.length cc) (.slice aj (newP bClear).jobs.length cj) (.int .i64 (newP bClear).now)
    have HI := Lib.hid (fun v => hI.st OK.out 6 0 rfl rfl (hj 4 (by decide) (by kernel_rfl)) (by kernel_rfl) (by kernel_rfl) rfl h9.1 h9.2 ((holdP_keeps (tys := [43]) (by simp [blT]) _ _).2 _ _ _ _ _ (by simp) hb h9.1 hH) (all_D (by kernel_rfl)) v)
    have hf := hb.fz
    (have b0 := hb.cell 0; have b1 := hb.cell 1; have b2 := hb.cell 2; have bo' := hb.old; simp only [List.getElem?_cons_zero, List.getElem?_cons_succ] at b0 b1 b2)
    generalize (Tg.bid _ vs) = gB at *
    clear hI hL hj hb hp hpp hH h9
    go_wp2
    exact ⟨undef, HI.out undef⟩
  (conv in (Act.put _ _ _) => simp only [Act.put, List.setIfInBounds_toArray, List.set_cons_succ, List.set_cons_zero])
  refine IReg.step 8 rfl (fun L w' hI hL hj => ?_) ?_
  · obtain ⟨hb, hp⟩ := hI.tgt 1 rfl (hj 5 (by decide) (by kernel_rfl)) hL
    have hpp := hp 5 rfl
    have hH := (holdP_keeps (tys := []) (fun _ h => by cases h) _ _).1 _ w' (hI.ext0 (by kernel_rfl)) P1.out
    rw [hI.eq (j := 3) rfl (hj 3 (by decide) (by kernel_rfl)), hpp]
    have h9 := set3_chgB hb (.slice ac (newP bClear).clear.length cc) (.slice aj (newP bClear).jobs.length cj) (.int .i64 (newP bClear).now)
    have HI := Lib.hid (fun v => hI.st OK.out 7 1 rfl rfl (hj 5 (by decide) (by kernel_rfl)) (by kernel_rfl) (by kernel_rfl) rfl h9.1 h9.2 ((holdP_keeps (tys := [43]) (by simp [blT]) _ _).2 _ _ _ _ _ (by simp) hb h9.1 hH) (all_D (by kernel_rfl)) v)
    have hf := hb.fz
    (have b0 := hb.cell 0; have b1 := hb.cell 1; have b2 := hb.cell 2; have bo' := hb.old; simp only [List.getElem?_cons_zero, List.getElem?_cons_succ] at b0 b1 b2)
    generalize (Tg.bid _ vs) = gB at *
    clear hI hL hj hb hp hpp hH h9
    go_wp2
    exact ⟨undef, HI.out undef⟩
  (conv in (Act.put _ _ _) => simp only [Act.put, List.setIfInBounds_toArray, List.set_cons_succ, List.set_cons_zero])
  refine IReg.done (fun L w' hL hI => ?_)
  (first | (simp only [List.drop_succ_cons, List.drop_zero]) | (simp only [List.drop_succ_cons, List.drop_nil]) | skip)
  obtain ⟨g1, g2, e4, e5, hne, hg1, hg2, h1, h2⟩ := hI.fin2 rfl rfl rfl rfl (hL 6 (by decide)) (hL 7 (by decide))
  rw [e4, e5]
  have E2 := Lib.hid (hI.ext0 (by kernel_rfl))
  clear hI hL e4 e5 OK
  have HA2 := Lib.hid h1
  have HB2 := Lib.hid h2
  have NE := Lib.hid hne
  have GE := Lib.hid (And.intro hg1 hg2)
  clear h1 h2 hne hg1 hg2
  have E02 := Lib.hid (E1.out.trans E2.out)
  have BL2 := Lib.hid (BL.out.ext E02.out)
  have BM2 := Lib.hid (BM.out.ext E02.out)
  have BS2 := Lib.hid (BS.out.ext E02.out)
  have BT2 := Lib.hid (BT.out.ext E02.out)
  have p0 := BL2.out.cell 0
  have p1 := BL2.out.cell 1
  have po' := BL2.out.old
  simp only [List.getElem?_cons_zero, List.getElem?_cons_succ] at p0 p1
  have q0 := BM2.out.cell 0
  have q1 := BM2.out.cell 1
  have qo' := BM2.out.old
  simp only [List.getElem?_cons_zero, List.getElem?_cons_succ] at q0 q1
  have r0 := BS2.out.cell 0
  have r1 := BS2.out.cell 1
  have ro' := BS2.out.old
  simp only [List.getElem?_cons_zero, List.getElem?_cons_succ] at r0 r1
  have s0 := BT2.out.cell 0
  have s1 := BT2.out.cell 1
  have so' := BT2.out.old
  simp only [List.getElem?_cons_zero, List.getElem?_cons_succ] at s0 s1
  go_upto_region 11 with fail
  refine gen_world (fun W3 hW => ?_)
  have E3 := Lib.hid (show Ext w' W3 by rw [hW]; exact (by repeat (first | exact Ext.refl _ | apply Ext.plus | apply Ext.alloc | apply Ext.drew)))
  have SM := Lib.hid (show Blk W3 w'.heap.size [(.int .i64 0), (.int .i64 0), (.int .i64 1), (.int .i64 1)] 24 by
    rw [hW]
    exact (Blk.new (w := w') (cs := #[(.int .i64 0), (.int .i64 0), (.int .i64 1), (.int .i64 1)]) (ty := 24) rfl).ext (by repeat (first | exact Ext.refl _ | apply Ext.plus | apply Ext.alloc | apply Ext.drew)))
  have SO := Lib.hid (show Blk W3 (w'.heap.size + 1) [(.int .i64 1), (.int .i64 2), (.int .i64 2), (.int .i64 1)] 24 by
    rw [hW]
    exact (Blk.new (w := w'.alloc (.cells #[(.int .i64 0), (.int .i64 0), (.int .i64 1), (.int .i64 1)] 24)) (cs := #[(.int .i64 1), (.int .i64 2), (.int .i64 2), (.int .i64 1)]) (ty := 24) (by simp)).ext (by repeat (first | exact Ext.refl _ | apply Ext.plus | apply Ext.alloc | apply Ext.drew)))
  have GS := Lib.hid (show ¬ w'.heap.size = g1 ∧ ¬ w'.heap.size = g2 ∧ ¬ w'.heap.size + 1 = g1 ∧ ¬ w'.heap.size + 1 = g2 by
    obtain ⟨c1, b1, _⟩ := HA2.out
    obtain ⟨c2, b2, _⟩ := HB2.out
    have o1 := b1.old
    have o2 := b2.old
    unfold World.old at o1 o2
    omega)
  clear hW p0 p1 po' q0 q1 qo' r0 r1 ro' s0 s1 so'
  generalize w'.heap.size + 1 = gO at SO GS ⊢
  generalize w'.heap.size = gN at SM GS ⊢
  have BL3 := Lib.hid (BL2.out.ext E3.out)
  have BM3 := Lib.hid (BM2.out.ext E3.out)
  have HA3 := Lib.hid (HasP.ext HA2.out E3.out)
  have HB3 := Lib.hid (HasP.ext HB2.out E3.out)
  have GB := Lib.hid (show (¬ gL = g1 ∧ ¬ gL = g2) ∧ (¬ gM = g1 ∧ ¬ gM = g2) ∧ w.heap.size ≤ g1 ∧ w.heap.size ≤ g2 by
    have o1 := (BL.out.ext E1.out).old
    have o2 := (BM.out.ext E1.out).old
    have o3 := (E0.out.trans E1.out).below.size
    have o4 := GE.out
    unfold World.old at o1 o2
    omega)
  have EW := Lib.hid (E0.out.trans (E02.out.trans E3.out))
  clear BL BM BS BT BL2 BM2 BS2 BT2 HCL HA2 HB2 GE E0 E1 E2 E3 E02 P1 BX Q0
  go_wp2
  go_loopw [15] (fun i wr => ∃ (k : Nat) (a b : Pl), k ≤ 24 ∧ i = .int .i64 k ∧ Hid (Chg [g1, g2] W3 wr) ∧ Hid (HasP a wr g1) ∧ Hid (HasP b wr g2) ∧ Hid (Bl bP bQ a b ∧ a.now ≤ (k : Int))) (fun i _ => ms24 i)
  case atStart => exact ⟨0, newP bClear, newP bClear, Nat.zero_le _, rfl, Lib.hid (Chg.refl _ _), HA3, HB3, Lib.hid ⟨RP.out, by rw [N0.out]; exact Int.le_refl _⟩⟩
  case round =>
    obtain ⟨k, a, b, hk, rfl, HC, HA, HB, HL⟩ := hrel
    have ER := Lib.hid (HC.out.ext EW.out (fun z hz => by have := GB.out; simp at hz; omega))
    clear HA3 HB3 RP N0
    by_cases hlt : k < 24
    case neg =>
      have hltb : decide ((k : Int) < 24) = false := decide_eq_false (by omega)
      go_wp2
      go_ret
      exact ⟨rfl, ER.out⟩
    have hltb : decide ((k : Int) < 24) = true := decide_eq_true (by omega)
    obtain ⟨n, hn, hn6⟩ := lwV_nat l k 60
    have hn6 : n < 60 := by omega
    obtain ⟨z, hz, hz6⟩ := lwV_nat m k 60
    have hz6 : z < 60 := by omega
    have HN := Lib.hid hn
    have HZ := Lib.hid hz
    clear hn hz
    go_wp2_with fail
    refine (lwAt_any _ l k 60 _ (HS.out.ext rU8_stable (ER.out.trans (by repeat (first | exact Ext.refl _ | apply Ext.plus | apply Ext.alloc | apply Ext.drew)))) hl (by omega)).mono ?_
    rintro e _ ⟨rfl, rfl⟩
    rw [HN.out]
    go_wp2_with fail
    refine (lwAt_any _ m k 60 _ (HU.out.ext rU8_stable (ER.out.trans (by repeat (first | exact Ext.refl _ | apply Ext.plus | apply Ext.alloc | apply Ext.drew)))) hm (by omega)).mono ?_
    rintro e _ ⟨rfl, rfl⟩
    rw [HZ.out]
    obtain ⟨n2, hn2, hn2l⟩ := tm n 2 (by decide)
    have hn2l : n2 < 2 := by omega
    obtain ⟨n5, hn5, hn5l⟩ := tm n 5 (by decide)
    obtain ⟨q2, hq2, hq2l⟩ := tq n 2 (by decide)
    obtain ⟨x2, hx2, hx2l⟩ := tm q2 2 (by decide)
    obtain ⟨q4, hq4, hq4l⟩ := tq n 4 (by decide)
    obtain ⟨x5, hx5, hx5l⟩ := tm q4 5 (by decide)
    obtain ⟨y3, hy3, hy3l⟩ := tm q4 3 (by decide)
    obtain ⟨q8, hq8, hq8l⟩ := tq n 8 (by decide)
    obtain ⟨x3, hx3, hx3l⟩ := tm q8 3 (by decide)
    obtain ⟨x, hxP, hxQ, hxo, mo', m0, m1⟩ := mine_at hn2l (SM.out.chg HC.out (by have := GS.out; simp; omega))
    have XX := Lib.hid (And.intro hxP (And.intro hxQ hxo))
    clear hxP hxQ hxo
    go_upto_region 16 with fail
    refine gen_world (fun W4 hW => ?_)
    have E4 := Lib.hid (show Ext wr W4 by rw [hW]; exact (by repeat (first | exact Ext.refl _ | apply Ext.plus | apply Ext.alloc | apply Ext.drew)))
    have hbx : Blk W4 wr.heap.size [(.int .i64 x.lv), (.int .i64 x.st)] 24 := by rw [hW]; exact (Blk.new (w := wr) (cs := #[(.int .i64 x.lv), (.int .i64 x.st)]) (ty := 24) rfl).ext (by repeat (first | exact Ext.refl _ | apply Ext.plus | apply Ext.alloc | apply Ext.drew))
    clear hW mo' m0 m1
    have HG := Lib.hid (show ¬ wr.heap.size = g1 ∧ ¬ wr.heap.size = g2 by
      obtain ⟨_, b1, _⟩ := HA.out
      obtain ⟨_, b2, _⟩ := HB.out
      have o1 := b1.old
      have o2 := b2.old
      unfold World.old at o1 o2
      omega)
    generalize wr.heap.size = gx at hbx HG ⊢
    have BX := Lib.hid hbx
    clear hbx
    obtain ⟨ac, cc, aj, cj, bA, hA⟩ := HasP.out (HasP.ext HA.out E4.out)
    obtain ⟨bc, dc, bj, dj, bB, hB⟩ := HasP.out (HasP.ext HB.out E4.out)
    have BA := Lib.hid bA
    have BB := Lib.hid bB
    have PA := Lib.hid (And.intro hA HL.out.1.ra)
    have PB := Lib.hid (And.intro hB HL.out.1.rb)
    have HA4 := Lib.hid (HasP.ext HA.out E4.out)
    have HB4 := Lib.hid (HasP.ext HB.out E4.out)
    clear bA bB hA hB
    have hfp : ∀ (a b c d e : Value) w, (Instr.field 45 (.agg #[a, b, c, d, e]) 0).run Try.prog w = .ok (.agg #[a, b, c]) w := fun a b c d e w => by kernel_rfl
    go_upto_block 2 with fail
    go_cut [] from 87 to 182 (fun wc => ∃ a' b' : Pl, Hid (Chg [g1, g2] W4 wc) ∧ Hid (HasP a' wc g1) ∧ Hid (HasP b' wc g2) ∧ Hid (Bl bP bQ a' b' ∧ a'.now ≤ (k : Int) + 1))
    case first =>
      go_upto_if 95 with (fail)
      go_cut [88, 95] from 95 to 97 (fun s88 s95 wc => s88 = (.int .i64 (n5 : Int)) ∧ s95 = .bool (decide (n5 ≤ 1)) ∧ W4 = wc)
      case first =>
        by_cases h0 : n5 = 0
        · have hb0 : ((n5 : Int) == 0) = true := by simp [h0]
          have hd : decide (n5 ≤ 1) = true := decide_eq_true (by omega)
          clear h0
          go_wp2_with fail
          go_meet
          exact ⟨rfl, by first | (rw [hb0, hd]) | (rw [hb1, hd]) | (rw [hd]), rfl⟩
        · have hb0 : ((n5 : Int) == 0) = false := by simp [h0]
          by_cases h1 : n5 = 1
          · have hb1 : ((n5 : Int) == 1) = true := by simp [h1]
            have hd : decide (n5 ≤ 1) = true := decide_eq_true (by omega)
            clear h0 h1
            go_wp2_with fail
            go_meet
            exact ⟨rfl, by first | (rw [hb0, hd]) | (rw [hb1, hd]) | (rw [hd]), rfl⟩
          · have hb1 : ((n5 : Int) == 1) = false := by rw [beq_eq_false_iff_ne]; omega
            have hd : decide (n5 ≤ 1) = false := decide_eq_false (by omega)
            clear h0 h1
            go_wp2_with fail
            go_meet
            exact ⟨rfl, by first | (rw [hb0, hd]) | (rw [hb1, hd]) | (rw [hd]), rfl⟩
      case rest =>
        obtain ⟨rfl, rfl, rfl⟩ := hcut
        by_cases h1 : n5 ≤ 1
        · have hd : decide (n5 ≤ 1) = true := decide_eq_true h1
          rw [hd]
          clear h1 hd
          go_upto_region 20 with fail
          obtain ⟨a', b', id, q, hsa, hsb, hq⟩ := HL.out.1.sub2 XX.out.1 XX.out.2.1 (1 + (x2 : Int)) (1 + (x5 : Int)) (x3 : Int)
          have SA := Lib.hid hsa
          have SB := Lib.hid hsb
          have HQ := Lib.hid hq
          clear hsa hsb hq
          have OK := Lib.hid (show RgOk [⟨some 28, 0, 30, 45, [.slice none 0 0, .slice none 0 0, (.int .i64 0), (.int .i64 0), (.int .i64 0)], holdO a' id q⟩, ⟨some 29, 0, 31, 45, [.slice none 0 0, .slice none 0 0, (.int .i64 0), (.int .i64 0), (.int .i64 0)], holdO b' id q⟩] [some (eqK (.agg #[.slice ac a.clear.length cc, .slice aj a.jobs.length cj, (.int .i64 a.now)])), some (eqK (.agg #[(.int .i64 x.lv), (.int .i64 x.st)])), some (eqK (.int .i64 (n : Int))), some (eqK (.int .i64 (q2 : Int))), some (eqK (.int .i64 (x2 : Int))), some (eqK (.int .i64 (1 + (x2 : Int)))), some (eqK (.int .i64 (n : Int))), some (eqK (.int .i64 (q4 : Int))), some (eqK (.int .i64 (x5 : Int))), some (eqK (.int .i64 (1 + (x5 : Int)))), some (eqK (.int .i64 (n : Int))), some (eqK (.int .i64 (q8 : Int))), some (eqK (.int .i64 (x3 : Int))), some (kV (holdO a' id q)), some (eqK (.agg #[.slice bc b.clear.length dc, .slice bj b.jobs.length dj, (.int .i64 b.now)])), some (eqK (.agg #[(.int .i64 x.lv), (.int .i64 x.st)])), some (eqK (.int .i64 (n : Int))), some (eqK (.int .i64 (q2 : Int))), some (eqK (.int .i64 (x2 : Int))), some (eqK (.int .i64 (1 + (x2 : Int)))), some (eqK (.int .i64 (n : Int))), some (eqK (.int .i64 (q4 : Int))), some (eqK (.int .i64 (x5 : Int))), some (eqK (.int .i64 (1 + (x5 : Int)))), some (eqK (.int .i64 (n : Int))), some (eqK (.int .i64 (q8 : Int))), some (eqK (.int .i64 (x3 : Int))), some (kV (holdO b' id q)), none, none, none, none] from (rgOk (by simp only [List.map]; repeat' (first | exact trivial | apply And.intro | (intro v; first | exact keeps_eq _ _ _ | exact kV_keeps (fun cs => holdO_keeps (by simp [blT]) _ _ _ cs) v | exact kV_keeps (fun cs => holdP_keeps (by simp [blT]) _ cs) v))) (by simp only [List.map]; repeat' (first | exact trivial | apply And.intro | (intro v; first | exact holdO_keeps (by simp [blT]) _ _ _ v | exact holdP_keeps (by simp [blT]) _ v)))))
          refine wp_region_i 32 (RgJ W4 [⟨some 28, 0, 30, 45, [.slice none 0 0, .slice none 0 0, (.int .i64 0), (.int .i64 0), (.int .i64 0)], holdO a' id q⟩, ⟨some 29, 0, 31, 45, [.slice none 0 0, .slice none 0 0, (.int .i64 0), (.int .i64 0), (.int .i64 0)], holdO b' id q⟩] [some (eqK (.agg #[.slice ac a.clear.length cc, .slice aj a.jobs.length cj, (.int .i64 a.now)])), some (eqK (.agg #[(.int .i64 x.lv), (.int .i64 x.st)])), some (eqK (.int .i64 (n : Int))), some (eqK (.int .i64 (q2 : Int))), some (eqK (.int .i64 (x2 : Int))), some (eqK (.int .i64 (1 + (x2 : Int)))), some (eqK (.int .i64 (n : Int))), some (eqK (.int .i64 (q4 : Int))), some (eqK (.int .i64 (x5 : Int))), some (eqK (.int .i64 (1 + (x5 : Int)))), some (eqK (.int .i64 (n : Int))), some (eqK (.int .i64 (q8 : Int))), some (eqK (.int .i64 (x3 : Int))), some (kV (holdO a' id q)), some (eqK (.agg #[.slice bc b.clear.length dc, .slice bj b.jobs.length dj, (.int .i64 b.now)])), some (eqK (.agg #[(.int .i64 x.lv), (.int .i64 x.st)])), some (eqK (.int .i64 (n : Int))), some (eqK (.int .i64 (q2 : Int))), some (eqK (.int .i64 (x2 : Int))), some (eqK (.int .i64 (1 + (x2 : Int)))), some (eqK (.int .i64 (n : Int))), some (eqK (.int .i64 (q4 : Int))), some (eqK (.int .i64 (x5 : Int))), some (eqK (.int .i64 (1 + (x5 : Int)))), some (eqK (.int .i64 (n : Int))), some (eqK (.int .i64 (q8 : Int))), some (eqK (.int .i64 (x3 : Int))), some (kV (holdO b' id q)), none, none, none, none] []) (by kernel_rfl) (by kernel_rfl) (by kernel_rfl) (fun vs => ?_) (fun vs => RgJ.start (Ext.refl _).drew (fun t ht hp => (noEld (by kernel_rfl) t ht hp).elim) (fun i j a b ha hb hij hp _ => (noEld (by kernel_rfl) a (List.mem_of_getElem? ha) hp).elim))
          refine IReg.step 1 rfl (fun L w' hI hL hj => ?_) ?_
          · (have T9 := BA.out.ext (hI.ext0 (by kernel_rfl)); (have x0 := T9.cell 0; have x1 := T9.cell 1; have x2 := T9.cell 2; have xo' := T9.old; simp only [List.getElem?_cons_zero, List.getElem?_cons_succ] at x0 x1 x2); clear T9)
            have HI := Lib.hid hI
            clear hI hL hj
            go_wp2
            exact HI.out.opE OK.out 0 _ rfl (by repeat (first | exact Ext.refl _ | apply Ext.plus | apply Ext.alloc | apply Ext.drew)) (by kernel_rfl) (by kernel_rfl)
          (conv in (Act.put _ _ _) => simp only [Act.put, List.setIfInBounds_toArray, List.set_cons_succ, List.set_cons_zero])
          refine IReg.step 2 rfl (fun L w' hI hL hj => ?_) ?_
          · (have T9 := BX.out.ext (hI.ext0 (by kernel_rfl)); (have x0 := T9.cell 0; have x1 := T9.cell 1; have xo' := T9.old; simp only [List.getElem?_cons_zero, List.getElem?_cons_succ] at x0 x1); clear T9)
            have HI := Lib.hid hI
            clear hI hL hj
            go_wp2
            exact HI.out.opE OK.out 1 _ rfl (by repeat (first | exact Ext.refl _ | apply Ext.plus | apply Ext.alloc | apply Ext.drew)) (by kernel_rfl) (by kernel_rfl)
          (conv in (Act.put _ _ _) => simp only [Act.put, List.setIfInBounds_toArray, List.set_cons_succ, List.set_cons_zero])
          refine IReg.step 3 rfl (fun L w' hI hL hj => ?_) ?_
          · skip
            have HI := Lib.hid hI
            clear hI hL hj
            go_wp2
            exact HI.out.opE OK.out 2 _ rfl (by repeat (first | exact Ext.refl _ | apply Ext.plus | apply Ext.alloc | apply Ext.drew)) (by kernel_rfl) (by kernel_rfl)
          (conv in (Act.put _ _ _) => simp only [Act.put, List.setIfInBounds_toArray, List.set_cons_succ, List.set_cons_zero])
          refine IReg.step 4 rfl (fun L w' hI hL hj => ?_) ?_
          · (rw [hI.eq (j := 2) rfl (hj 2 (by decide) (by kernel_rfl))])
            have HI := Lib.hid hI
            clear hI hL hj
            go_wp2
            exact HI.out.opE OK.out 3 _ rfl (by repeat (first | exact Ext.refl _ | apply Ext.plus | apply Ext.alloc | apply Ext.drew)) (by kernel_rfl) (by kernel_rfl)
          (conv in (Act.put _ _ _) => simp only [Act.put, List.setIfInBounds_toArray, List.set_cons_succ, List.set_cons_zero])
          refine IReg.step 5 rfl (fun L w' hI hL hj => ?_) ?_
          · (rw [hI.eq (j := 3) rfl (hj 3 (by decide) (by kernel_rfl))])
            have HI := Lib.hid hI
            clear hI hL hj
            go_wp2
            exact HI.out.opE OK.out 4 _ rfl (by repeat (first | exact Ext.refl _ | apply Ext.plus | apply Ext.alloc | apply Ext.drew)) (by kernel_rfl) (by kernel_rfl)
          (conv in (Act.put _ _ _) => simp only [Act.put, List.setIfInBounds_toArray, List.set_cons_succ, List.set_cons_zero])
          refine IReg.step 6 rfl (fun L w' hI hL hj => ?_) ?_
          · (rw [hI.eq (j := 4) rfl (hj 4 (by decide) (by kernel_rfl))])
            have HI := Lib.hid hI
            clear hI hL hj
            go_wp2
            exact HI.out.opE OK.out 5 _ rfl (by repeat (first | exact Ext.refl _ | apply Ext.plus | apply Ext.alloc | apply Ext.drew)) (by kernel_rfl) (by kernel_rfl)
          (conv in (Act.put _ _ _) => simp only [Act.put, List.setIfInBounds_toArray, List.set_cons_succ, List.set_cons_zero])
          refine IReg.step 7 rfl (fun L w' hI hL hj => ?_) ?_
          · skip
            have HI := Lib.hid hI
            clear hI hL hj
            go_wp2
            exact HI.out.opE OK.out 6 _ rfl (by repeat (first | exact Ext.refl _ | apply Ext.plus | apply Ext.alloc | apply Ext.drew)) (by kernel_rfl) (by kernel_rfl)
          (conv in (Act.put _ _ _) => simp only [Act.put, List.setIfInBounds_toArray, List.set_cons_succ, List.set_cons_zero])
          refine IReg.step 8 rfl (fun L w' hI hL hj => ?_) ?_
          · (rw [hI.eq (j := 6) rfl (hj 6 (by decide) (by kernel_rfl))])
            have HI := Lib.hid hI
            clear hI hL hj
            go_wp2
            exact HI.out.opE OK.out 7 _ rfl (by repeat (first | exact Ext.refl _ | apply Ext.plus | apply Ext.alloc | apply Ext.drew)) (by kernel_rfl) (by kernel_rfl)
          (conv in (Act.put _ _ _) => simp only [Act.put, List.setIfInBounds_toArray, List.set_cons_succ, List.set_cons_zero])
          refine IReg.step 9 rfl (fun L w' hI hL hj => ?_) ?_
          · (rw [hI.eq (j := 7) rfl (hj 7 (by decide) (by kernel_rfl))])
            have HI := Lib.hid hI
            clear hI hL hj
            go_wp2
            exact HI.out.opE OK.out 8 _ rfl (by repeat (first | exact Ext.refl _ | apply Ext.plus | apply Ext.alloc | apply Ext.drew)) (by kernel_rfl) (by kernel_rfl)
          (conv in (Act.put _ _ _) => simp only [Act.put, List.setIfInBounds_toArray, List.set_cons_succ, List.set_cons_zero])
          refine IReg.step 10 rfl (fun L w' hI hL hj => ?_) ?_
          · (rw [hI.eq (j := 8) rfl (hj 8 (by decide) (by kernel_rfl))])
            have HI := Lib.hid hI
            clear hI hL hj
            go_wp2
            exact HI.out.opE OK.out 9 _ rfl (by repeat (first | exact Ext.refl _ | apply Ext.plus | apply Ext.alloc | apply Ext.drew)) (by kernel_rfl) (by kernel_rfl)
          (conv in (Act.put _ _ _) => simp only [Act.put, List.setIfInBounds_toArray, List.set_cons_succ, List.set_cons_zero])
          refine IReg.step 11 rfl (fun L w' hI hL hj => ?_) ?_
          · skip
            have HI := Lib.hid hI
            clear hI hL hj
            go_wp2
            exact HI.out.opE OK.out 10 _ rfl (by repeat (first | exact Ext.refl _ | apply Ext.plus | apply Ext.alloc | apply Ext.drew)) (by kernel_rfl) (by kernel_rfl)
          (conv in (Act.put _ _ _) => simp only [Act.put, List.setIfInBounds_toArray, List.set_cons_succ, List.set_cons_zero])
          refine IReg.step 12 rfl (fun L w' hI hL hj => ?_) ?_
          · (rw [hI.eq (j := 10) rfl (hj 10 (by decide) (by kernel_rfl))])
            have HI := Lib.hid hI
            clear hI hL hj
            go_wp2
            exact HI.out.opE OK.out 11 _ rfl (by repeat (first | exact Ext.refl _ | apply Ext.plus | apply Ext.alloc | apply Ext.drew)) (by kernel_rfl) (by kernel_rfl)
          (conv in (Act.put _ _ _) => simp only [Act.put, List.setIfInBounds_toArray, List.set_cons_succ, List.set_cons_zero])
          refine IReg.step 13 rfl (fun L w' hI hL hj => ?_) ?_
          · (rw [hI.eq (j := 11) rfl (hj 11 (by decide) (by kernel_rfl))])
            have HI := Lib.hid hI
            clear hI hL hj
            go_wp2
            exact HI.out.opE OK.out 12 _ rfl (by repeat (first | exact Ext.refl _ | apply Ext.plus | apply Ext.alloc | apply Ext.drew)) (by kernel_rfl) (by kernel_rfl)
          (conv in (Act.put _ _ _) => simp only [Act.put, List.setIfInBounds_toArray, List.set_cons_succ, List.set_cons_zero])
          refine IReg.step 14 rfl (fun L w' hI hL hj => ?_) ?_
          · (rw [hI.eq (j := 0) rfl (hj 0 (by decide) (by kernel_rfl))])
            (rw [hI.eq (j := 1) rfl (hj 1 (by decide) (by kernel_rfl))])
            (rw [hI.eq (j := 5) rfl (hj 5 (by decide) (by kernel_rfl))])
            (rw [hI.eq (j := 9) rfl (hj 9 (by decide) (by kernel_rfl))])
            (rw [hI.eq (j := 12) rfl (hj 12 (by decide) (by kernel_rfl))])
            have HE := Lib.hid (hI.ext0 (by kernel_rfl))
            have HI := Lib.hid hI
            clear hI hL hj
            go_wp2_with fail
            refine (implSubmit_any a _ x (1 + (x2 : Int)) (1 + (x5 : Int)) (x3 : Int) _ ((holdP_e PA.out.1 PA.out.2).ext (HE.out.trans (by repeat (first | exact Ext.refl _ | apply Ext.plus | apply Ext.alloc | apply Ext.drew)))) (right_fits PA.out.2) XX.out.2.2 (by unfold I64; omega) (by unfold I64; omega) (by unfold I64; omega)).mono ?_
            rintro e _ ⟨cv9, jv9, fc9, fj9, rfl, ⟨X9, rfl⟩, hO⟩
            rw [SA.out] at hO ⊢
            have HK := Lib.hid (holdO_in (id := id) (q := q) hO)
            clear hO
            go_wp2
            exact HI.out.opK OK.out 13 rfl (by repeat (first | exact Ext.refl _ | apply Ext.plus | apply Ext.alloc | apply Ext.drew)) HK.out (by kernel_rfl) (by kernel_rfl)
          (conv in (Act.put _ _ _) => simp only [Act.put, List.setIfInBounds_toArray, List.set_cons_succ, List.set_cons_zero])
          refine IReg.step 15 rfl (fun L w' hI hL hj => ?_) ?_
          · (have T9 := BB.out.ext (hI.ext0 (by kernel_rfl)); (have x0 := T9.cell 0; have x1 := T9.cell 1; have x2 := T9.cell 2; have xo' := T9.old; simp only [List.getElem?_cons_zero, List.getElem?_cons_succ] at x0 x1 x2); clear T9)
            have HI := Lib.hid hI
            clear hI hL hj
            go_wp2
            exact HI.out.opE OK.out 14 _ rfl (by repeat (first | exact Ext.refl _ | apply Ext.plus | apply Ext.alloc | apply Ext.drew)) (by kernel_rfl) (by kernel_rfl)
          (conv in (Act.put _ _ _) => simp only [Act.put, List.setIfInBounds_toArray, List.set_cons_succ, List.set_cons_zero])
          refine IReg.step 16 rfl (fun L w' hI hL hj => ?_) ?_
          · (have T9 := BX.out.ext (hI.ext0 (by kernel_rfl)); (have x0 := T9.cell 0; have x1 := T9.cell 1; have xo' := T9.old; simp only [List.getElem?_cons_zero, List.getElem?_cons_succ] at x0 x1); clear T9)
            have HI := Lib.hid hI
            clear hI hL hj
            go_wp2
            exact HI.out.opE OK.out 15 _ rfl (by repeat (first | exact Ext.refl _ | apply Ext.plus | apply Ext.alloc | apply Ext.drew)) (by kernel_rfl) (by kernel_rfl)
          (conv in (Act.put _ _ _) => simp only [Act.put, List.setIfInBounds_toArray, List.set_cons_succ, List.set_cons_zero])
          refine IReg.step 17 rfl (fun L w' hI hL hj => ?_) ?_
          · skip
            have HI := Lib.hid hI
            clear hI hL hj
            go_wp2
            exact HI.out.opE OK.out 16 _ rfl (by repeat (first | exact Ext.refl _ | apply Ext.plus | apply Ext.alloc | apply Ext.drew)) (by kernel_rfl) (by kernel_rfl)
          (conv in (Act.put _ _ _) => simp only [Act.put, List.setIfInBounds_toArray, List.set_cons_succ, List.set_cons_zero])
          refine IReg.step 18 rfl (fun L w' hI hL hj => ?_) ?_
          · (rw [hI.eq (j := 16) rfl (hj 16 (by decide) (by kernel_rfl))])
            have HI := Lib.hid hI
            clear hI hL hj
            go_wp2
            exact HI.out.opE OK.out 17 _ rfl (by repeat (first | exact Ext.refl _ | apply Ext.plus | apply Ext.alloc | apply Ext.drew)) (by kernel_rfl) (by kernel_rfl)
          (conv in (Act.put _ _ _) => simp only [Act.put, List.setIfInBounds_toArray, List.set_cons_succ, List.set_cons_zero])
          refine IReg.step 19 rfl (fun L w' hI hL hj => ?_) ?_
          · (rw [hI.eq (j := 17) rfl (hj 17 (by decide) (by kernel_rfl))])
            have HI := Lib.hid hI
            clear hI hL hj
            go_wp2
            exact HI.out.opE OK.out 18 _ rfl (by repeat (first | exact Ext.refl _ | apply Ext.plus | apply Ext.alloc | apply Ext.drew)) (by kernel_rfl) (by kernel_rfl)
          (conv in (Act.put _ _ _) => simp only [Act.put, List.setIfInBounds_toArray, List.set_cons_succ, List.set_cons_zero])
          refine IReg.step 20 rfl (fun L w' hI hL hj => ?_) ?_
          · (rw [hI.eq (j := 18) rfl (hj 18 (by decide) (by kernel_rfl))])
            have HI := Lib.hid hI
            clear hI hL hj
            go_wp2
            exact HI.out.opE OK.out 19 _ rfl (by repeat (first | exact Ext.refl _ | apply Ext.plus | apply Ext.alloc | apply Ext.drew)) (by kernel_rfl) (by kernel_rfl)
          (conv in (Act.put _ _ _) => simp only [Act.put, List.setIfInBounds_toArray, List.set_cons_succ, List.set_cons_zero])
          refine IReg.step 21 rfl (fun L w' hI hL hj => ?_) ?_
          · skip
            have HI := Lib.hid hI
            clear hI hL hj
            go_wp2
            exact HI.out.opE OK.out 20 _ rfl (by repeat (first | exact Ext.refl _ | apply Ext.plus | apply Ext.alloc | apply Ext.drew)) (by kernel_rfl) (by kernel_rfl)
          (conv in (Act.put _ _ _) => simp only [Act.put, List.setIfInBounds_toArray, List.set_cons_succ, List.set_cons_zero])
          refine IReg.step 22 rfl (fun L w' hI hL hj => ?_) ?_
          · (rw [hI.eq (j := 20) rfl (hj 20 (by decide) (by kernel_rfl))])
            have HI := Lib.hid hI
            clear hI hL hj
            go_wp2
            exact HI.out.opE OK.out 21 _ rfl (by repeat (first | exact Ext.refl _ | apply Ext.plus | apply Ext.alloc | apply Ext.drew)) (by kernel_rfl) (by kernel_rfl)
          (conv in (Act.put _ _ _) => simp only [Act.put, List.setIfInBounds_toArray, List.set_cons_succ, List.set_cons_zero])
          refine IReg.step 23 rfl (fun L w' hI hL hj => ?_) ?_
          · (rw [hI.eq (j := 21) rfl (hj 21 (by decide) (by kernel_rfl))])
            have HI := Lib.hid hI
            clear hI hL hj
            go_wp2
            exact HI.out.opE OK.out 22 _ rfl (by repeat (first | exact Ext.refl _ | apply Ext.plus | apply Ext.alloc | apply Ext.drew)) (by kernel_rfl) (by kernel_rfl)
          (conv in (Act.put _ _ _) => simp only [Act.put, List.setIfInBounds_toArray, List.set_cons_succ, List.set_cons_zero])
          refine IReg.step 24 rfl (fun L w' hI hL hj => ?_) ?_
          · (rw [hI.eq (j := 22) rfl (hj 22 (by decide) (by kernel_rfl))])
            have HI := Lib.hid hI
            clear hI hL hj
            go_wp2
            exact HI.out.opE OK.out 23 _ rfl (by repeat (first | exact Ext.refl _ | apply Ext.plus | apply Ext.alloc | apply Ext.drew)) (by kernel_rfl) (by kernel_rfl)
          (conv in (Act.put _ _ _) => simp only [Act.put, List.setIfInBounds_toArray, List.set_cons_succ, List.set_cons_zero])
          refine IReg.step 25 rfl (fun L w' hI hL hj => ?_) ?_
          · skip
            have HI := Lib.hid hI
            clear hI hL hj
            go_wp2
            exact HI.out.opE OK.out 24 _ rfl (by repeat (first | exact Ext.refl _ | apply Ext.plus | apply Ext.alloc | apply Ext.drew)) (by kernel_rfl) (by kernel_rfl)
          (conv in (Act.put _ _ _) => simp only [Act.put, List.setIfInBounds_toArray, List.set_cons_succ, List.set_cons_zero])
          refine IReg.step 26 rfl (fun L w' hI hL hj => ?_) ?_
          · (rw [hI.eq (j := 24) rfl (hj 24 (by decide) (by kernel_rfl))])
            have HI := Lib.hid hI
            clear hI hL hj
            go_wp2
            exact HI.out.opE OK.out 25 _ rfl (by repeat (first | exact Ext.refl _ | apply Ext.plus | apply Ext.alloc | apply Ext.drew)) (by kernel_rfl) (by kernel_rfl)
          (conv in (Act.put _ _ _) => simp only [Act.put, List.setIfInBounds_toArray, List.set_cons_succ, List.set_cons_zero])
          refine IReg.step 27 rfl (fun L w' hI hL hj => ?_) ?_
          · (rw [hI.eq (j := 25) rfl (hj 25 (by decide) (by kernel_rfl))])
            have HI := Lib.hid hI
            clear hI hL hj
            go_wp2
            exact HI.out.opE OK.out 26 _ rfl (by repeat (first | exact Ext.refl _ | apply Ext.plus | apply Ext.alloc | apply Ext.drew)) (by kernel_rfl) (by kernel_rfl)
          (conv in (Act.put _ _ _) => simp only [Act.put, List.setIfInBounds_toArray, List.set_cons_succ, List.set_cons_zero])
          refine IReg.step 28 rfl (fun L w' hI hL hj => ?_) ?_
          · (rw [hI.eq (j := 14) rfl (hj 14 (by decide) (by kernel_rfl))])
            (rw [hI.eq (j := 15) rfl (hj 15 (by decide) (by kernel_rfl))])
            (rw [hI.eq (j := 19) rfl (hj 19 (by decide) (by kernel_rfl))])
            (rw [hI.eq (j := 23) rfl (hj 23 (by decide) (by kernel_rfl))])
            (rw [hI.eq (j := 26) rfl (hj 26 (by decide) (by kernel_rfl))])
            have HE := Lib.hid (hI.ext0 (by kernel_rfl))
            have HI := Lib.hid hI
            clear hI hL hj
            go_wp2_with fail
            refine (implSubmit_any b _ x (1 + (x2 : Int)) (1 + (x5 : Int)) (x3 : Int) _ ((holdP_e PB.out.1 PB.out.2).ext (HE.out.trans (by repeat (first | exact Ext.refl _ | apply Ext.plus | apply Ext.alloc | apply Ext.drew)))) (right_fits PB.out.2) XX.out.2.2 (by unfold I64; omega) (by unfold I64; omega) (by unfold I64; omega)).mono ?_
            rintro e _ ⟨cv9, jv9, fc9, fj9, rfl, ⟨X9, rfl⟩, hO⟩
            rw [SB.out] at hO ⊢
            have HK := Lib.hid (holdO_in (id := id) (q := q) hO)
            clear hO
            go_wp2
            exact HI.out.opK OK.out 27 rfl (by repeat (first | exact Ext.refl _ | apply Ext.plus | apply Ext.alloc | apply Ext.drew)) HK.out (by kernel_rfl) (by kernel_rfl)
          (conv in (Act.put _ _ _) => simp only [Act.put, List.setIfInBounds_toArray, List.set_cons_succ, List.set_cons_zero])
          refine IReg.step 29 rfl (fun L w' hI hL hj => ?_) ?_
          · have HI := Lib.hid (hI.box OK.out 28 0 rfl rfl hL (by kernel_rfl) (by kernel_rfl) rfl (by kernel_rfl) rfl rfl)
            clear hI hL hj
            go_wp2
            exact HI.out
          (conv in (Act.put _ _ _) => simp only [Act.put, List.setIfInBounds_toArray, List.set_cons_succ, List.set_cons_zero])
          refine IReg.step 30 rfl (fun L w' hI hL hj => ?_) ?_
          · have HI := Lib.hid (hI.box OK.out 29 1 rfl rfl hL (by kernel_rfl) (by kernel_rfl) rfl (by kernel_rfl) rfl rfl)
            clear hI hL hj
            go_wp2
            exact HI.out
          (conv in (Act.put _ _ _) => simp only [Act.put, List.setIfInBounds_toArray, List.set_cons_succ, List.set_cons_zero])
          refine IReg.step 31 rfl (fun L w' hI hL hj => ?_) ?_
          · obtain ⟨hb, hp⟩ := hI.tgt 0 rfl (hj 28 (by decide) (by kernel_rfl)) hL
            have hpp := hp 28 rfl
            obtain ⟨a9, c9, b9, d9, hv, hH, -⟩ := holdO_out (hI.val (j := 13) rfl (hj 13 (by decide) (by kernel_rfl)))
            rw [hv, hpp]
            have h9 := set5_chgB hb (.slice a9 a'.clear.length c9) (.slice b9 a'.jobs.length d9) (.int .i64 a'.now) (.int .i64 id) (.int .i64 q)
            have HI := Lib.hid (fun v => hI.st OK.out 30 0 rfl rfl (hj 28 (by decide) (by kernel_rfl)) (by kernel_rfl) (by kernel_rfl) rfl h9.1 h9.2 ((holdO_keeps (tys := [45]) (by simp [blT]) _ _ _ _).2 _ _ _ _ _ (by simp) hb h9.1 hH) (all_D (by kernel_rfl)) v)
            have hf := hb.fz
            (have b0 := hb.cell 0; have b1 := hb.cell 1; have b2 := hb.cell 2; have b3 := hb.cell 3; have b4 := hb.cell 4; have bo' := hb.old; simp only [List.getElem?_cons_zero, List.getElem?_cons_succ] at b0 b1 b2 b3 b4)
            generalize (Tg.bid _ vs) = gB at *
            clear hI hL hj hb hp hpp hH h9 hv
            go_wp2
            exact ⟨undef, HI.out undef⟩
          (conv in (Act.put _ _ _) => simp only [Act.put, List.setIfInBounds_toArray, List.set_cons_succ, List.set_cons_zero])
          refine IReg.step 32 rfl (fun L w' hI hL hj => ?_) ?_
          · obtain ⟨hb, hp⟩ := hI.tgt 1 rfl (hj 29 (by decide) (by kernel_rfl)) hL
            have hpp := hp 29 rfl
            obtain ⟨a9, c9, b9, d9, hv, hH, -⟩ := holdO_out (hI.val (j := 27) rfl (hj 27 (by decide) (by kernel_rfl)))
            rw [hv, hpp]
            have h9 := set5_chgB hb (.slice a9 b'.clear.length c9) (.slice b9 b'.jobs.length d9) (.int .i64 b'.now) (.int .i64 id) (.int .i64 q)
            have HI := Lib.hid (fun v => hI.st OK.out 31 1 rfl rfl (hj 29 (by decide) (by kernel_rfl)) (by kernel_rfl) (by kernel_rfl) rfl h9.1 h9.2 ((holdO_keeps (tys := [45]) (by simp [blT]) _ _ _ _).2 _ _ _ _ _ (by simp) hb h9.1 hH) (all_D (by kernel_rfl)) v)
            have hf := hb.fz
            (have b0 := hb.cell 0; have b1 := hb.cell 1; have b2 := hb.cell 2; have b3 := hb.cell 3; have b4 := hb.cell 4; have bo' := hb.old; simp only [List.getElem?_cons_zero, List.getElem?_cons_succ] at b0 b1 b2 b3 b4)
            generalize (Tg.bid _ vs) = gB at *
            clear hI hL hj hb hp hpp hH h9 hv
            go_wp2
            exact ⟨undef, HI.out undef⟩
          (conv in (Act.put _ _ _) => simp only [Act.put, List.setIfInBounds_toArray, List.set_cons_succ, List.set_cons_zero])
          refine IReg.done (fun L w' hL hI => ?_)
          (first | (simp only [List.drop_succ_cons, List.drop_zero]) | (simp only [List.drop_succ_cons, List.drop_nil]) | skip)
          obtain ⟨gY, gZ, eY, eZ, -, hgY, hgZ, h1, h2⟩ := hI.fin2 rfl rfl rfl rfl (hL 30 (by decide)) (hL 31 (by decide))
          rw [eY, eZ]
          have E5 := Lib.hid (hI.ext0 (by kernel_rfl))
          clear hI hL eY eZ OK
          obtain ⟨ya, yc, yb, yd, bY, hY⟩ := HasO.out h1
          obtain ⟨za, zc, zb, zd, bZ, hZ⟩ := HasO.out h2
          have BY := Lib.hid bY
          have BZ := Lib.hid bZ
          have PY := Lib.hid hY
          have PZ := Lib.hid hZ
          have B5A := Lib.hid (BA.out.ext E5.out)
          have B5B := Lib.hid (BB.out.ext E5.out)
          have GY := Lib.hid (show ¬ gY = g1 ∧ ¬ gY = g2 ∧ ¬ gZ = g1 ∧ ¬ gZ = g2 by
            have o1 := BA.out.old
            have o2 := BB.out.old
            unfold World.old at o1 o2
            omega)
          clear h1 h2 bY bZ hY hZ hgY hgZ
          have hqq : (q != q) = false := bne_self_eq_false' q
          have hii : (id != id) = false := bne_self_eq_false' id
          have y0 := BY.out.cell 0
          have y1 := BY.out.cell 1
          have y2 := BY.out.cell 2
          have y3 := BY.out.cell 3
          have y4 := BY.out.cell 4
          have yo' := BY.out.old
          simp only [List.getElem?_cons_zero, List.getElem?_cons_succ] at y0 y1 y2 y3 y4
          have z0 := BZ.out.cell 0
          have z1 := BZ.out.cell 1
          have z2 := BZ.out.cell 2
          have z3 := BZ.out.cell 3
          have z4 := BZ.out.cell 4
          have zo' := BZ.out.old
          simp only [List.getElem?_cons_zero, List.getElem?_cons_succ] at z0 z1 z2 z3 z4
          by_cases hq0 : q = 0
          case neg =>
            have hq1 : (q == 0) = false := by simp [hq0]
            clear hq0
            go_wp2_with fail
            go_meet
            exact ⟨a, b, Lib.hid (E5.out.chg _), Lib.hid (HasP.ext HA4.out E5.out), Lib.hid (HasP.ext HB4.out E5.out), Lib.hid ⟨HL.out.1, by have := HL.out.2; omega⟩⟩
          have hq1 : (q == 0) = true := by simp [hq0]
          have HN := Lib.hid (HQ.out hq0)
          clear hq0
          go_upto_region 24 with fail
          generalize w' = W5 at *
          clear y0 y1 y2 y3 y4 yo'
          clear z0 z1 z2 z3 z4 zo'
          have OK := Lib.hid (show RgOk [⟨none, g1, 4, 43, [.slice ac a.clear.length cc, .slice aj a.jobs.length cj, (.int .i64 a.now)], holdP a'⟩, ⟨none, g2, 5, 43, [.slice bc b.clear.length dc, .slice bj b.jobs.length dj, (.int .i64 b.now)], holdP b'⟩] [some (eqK (.pointer (some ⟨gY, 0, none⟩))), some (kV (holdP a')), some (eqK (.pointer (some ⟨gZ, 0, none⟩))), some (kV (holdP b')), none, none] from (rgOk (by simp only [List.map]; repeat' (first | exact trivial | apply And.intro | (intro v; first | exact keeps_eq _ _ _ | exact kV_keeps (fun cs => holdO_keeps (by simp [blT]) _ _ _ cs) v | exact kV_keeps (fun cs => holdP_keeps (by simp [blT]) _ cs) v))) (by simp only [List.map]; repeat' (first | exact trivial | apply And.intro | (intro v; first | exact holdO_keeps (by simp [blT]) _ _ _ v | exact holdP_keeps (by simp [blT]) _ v)))))
          refine wp_region_i 6 (RgJ W5 [⟨none, g1, 4, 43, [.slice ac a.clear.length cc, .slice aj a.jobs.length cj, (.int .i64 a.now)], holdP a'⟩, ⟨none, g2, 5, 43, [.slice bc b.clear.length dc, .slice bj b.jobs.length dj, (.int .i64 b.now)], holdP b'⟩] [some (eqK (.pointer (some ⟨gY, 0, none⟩))), some (kV (holdP a')), some (eqK (.pointer (some ⟨gZ, 0, none⟩))), some (kV (holdP b')), none, none] []) (by kernel_rfl) (by kernel_rfl) (by kernel_rfl) (fun vs => ?_) (fun vs => RgJ.start (Ext.refl _).drew (fun t ht _ => by simp at ht; rcases ht with rfl | rfl; exact B5A.out; exact B5B.out) (fun i j a b ha hb hij _ _ => two_ne NE.out ha hb hij))
          refine IReg.step 1 rfl (fun L w' hI hL hj => ?_) ?_
          · skip
            have HI := Lib.hid hI
            clear hI hL hj
            go_wp2
            exact HI.out.opE OK.out 0 _ rfl (by repeat (first | exact Ext.refl _ | apply Ext.plus | apply Ext.alloc | apply Ext.drew)) (by kernel_rfl) (by kernel_rfl)
          (conv in (Act.put _ _ _) => simp only [Act.put, List.setIfInBounds_toArray, List.set_cons_succ, List.set_cons_zero])
          refine IReg.step 2 rfl (fun L w' hI hL hj => ?_) ?_
          · (rw [hI.eq (j := 0) rfl (hj 0 (by decide) (by kernel_rfl))])
            have hc := hI.chg (S := [g1, g2]) (by simp)
            have T9 := BY.out.chg hc (by have := GY.out; simp; omega)
            have hP := holdP_chg PY.out hc (two_blk B5A.out B5B.out)
            (have x0 := T9.cell 0; have x1 := T9.cell 1; have x2 := T9.cell 2; have x3 := T9.cell 3; have x4 := T9.cell 4; have xo' := T9.old; simp only [List.getElem?_cons_zero, List.getElem?_cons_succ] at x0 x1 x2 x3 x4)
            have HP := Lib.hid hP
            have HI := Lib.hid hI
            clear hI hL hj T9 hc hP
            go_wp2
            exact HI.out.opK OK.out 1 rfl (by repeat (first | exact Ext.refl _ | apply Ext.plus | apply Ext.alloc | apply Ext.drew)) ⟨_, rfl, HP.out⟩ (by kernel_rfl) (by kernel_rfl)
          (conv in (Act.put _ _ _) => simp only [Act.put, List.setIfInBounds_toArray, List.set_cons_succ, List.set_cons_zero])
          refine IReg.step 3 rfl (fun L w' hI hL hj => ?_) ?_
          · skip
            have HI := Lib.hid hI
            clear hI hL hj
            go_wp2
            exact HI.out.opE OK.out 2 _ rfl (by repeat (first | exact Ext.refl _ | apply Ext.plus | apply Ext.alloc | apply Ext.drew)) (by kernel_rfl) (by kernel_rfl)
          (conv in (Act.put _ _ _) => simp only [Act.put, List.setIfInBounds_toArray, List.set_cons_succ, List.set_cons_zero])
          refine IReg.step 4 rfl (fun L w' hI hL hj => ?_) ?_
          · (rw [hI.eq (j := 2) rfl (hj 2 (by decide) (by kernel_rfl))])
            have hc := hI.chg (S := [g1, g2]) (by simp)
            have T9 := BZ.out.chg hc (by have := GY.out; simp; omega)
            have hP := holdP_chg PZ.out hc (two_blk B5A.out B5B.out)
            (have x0 := T9.cell 0; have x1 := T9.cell 1; have x2 := T9.cell 2; have x3 := T9.cell 3; have x4 := T9.cell 4; have xo' := T9.old; simp only [List.getElem?_cons_zero, List.getElem?_cons_succ] at x0 x1 x2 x3 x4)
            have HP := Lib.hid hP
            have HI := Lib.hid hI
            clear hI hL hj T9 hc hP
            go_wp2
            exact HI.out.opK OK.out 3 rfl (by repeat (first | exact Ext.refl _ | apply Ext.plus | apply Ext.alloc | apply Ext.drew)) ⟨_, rfl, HP.out⟩ (by kernel_rfl) (by kernel_rfl)
          (conv in (Act.put _ _ _) => simp only [Act.put, List.setIfInBounds_toArray, List.set_cons_succ, List.set_cons_zero])
          refine IReg.step 5 rfl (fun L w' hI hL hj => ?_) ?_
          · obtain ⟨hb0, -⟩ := hI.tgt 0 rfl rfl hL
            obtain ⟨a9, c9, b9, d9, hv, hH⟩ := holdP_out (hI.val (j := 1) rfl (hj 1 (by decide) (by kernel_rfl)))
            rw [hv]
            have hb : Blk w' g1 _ 43 := hb0
            have h9 := set3_chgB hb (.slice a9 a'.clear.length c9) (.slice b9 a'.jobs.length d9) (.int .i64 a'.now)
            have HI := Lib.hid (fun v => hI.st OK.out 4 0 rfl rfl rfl (by kernel_rfl) (by kernel_rfl) rfl h9.1 h9.2 ((holdP_keeps (tys := [43]) (by simp [blT]) _ _).2 _ _ _ _ _ (by simp) hb h9.1 hH) (fun x hx => by cases hx) v)
            have hf := hb.fz
            (have b0 := hb.cell 0; have b1 := hb.cell 1; have b2 := hb.cell 2; have bo' := hb.old; simp only [List.getElem?_cons_zero, List.getElem?_cons_succ] at b0 b1 b2)
            clear hI hL hj hb hb0 hH h9 hv
            go_wp2
            exact ⟨undef, HI.out undef⟩
          (conv in (Act.put _ _ _) => simp only [Act.put, List.setIfInBounds_toArray, List.set_cons_succ, List.set_cons_zero])
          refine IReg.step 6 rfl (fun L w' hI hL hj => ?_) ?_
          · obtain ⟨hb0, -⟩ := hI.tgt 1 rfl rfl hL
            obtain ⟨a9, c9, b9, d9, hv, hH⟩ := holdP_out (hI.val (j := 3) rfl (hj 3 (by decide) (by kernel_rfl)))
            rw [hv]
            have hb : Blk w' g2 _ 43 := hb0
            have h9 := set3_chgB hb (.slice a9 b'.clear.length c9) (.slice b9 b'.jobs.length d9) (.int .i64 b'.now)
            have HI := Lib.hid (fun v => hI.st OK.out 5 1 rfl rfl rfl (by kernel_rfl) (by kernel_rfl) rfl h9.1 h9.2 ((holdP_keeps (tys := [43]) (by simp [blT]) _ _).2 _ _ _ _ _ (by simp) hb h9.1 hH) (fun x hx => by cases hx) v)
            have hf := hb.fz
            (have b0 := hb.cell 0; have b1 := hb.cell 1; have b2 := hb.cell 2; have bo' := hb.old; simp only [List.getElem?_cons_zero, List.getElem?_cons_succ] at b0 b1 b2)
            clear hI hL hj hb hb0 hH h9 hv
            go_wp2
            exact ⟨undef, HI.out undef⟩
          (conv in (Act.put _ _ _) => simp only [Act.put, List.setIfInBounds_toArray, List.set_cons_succ, List.set_cons_zero])
          refine IReg.done (fun L w9 hL hI => ?_)
          (first | (simp only [List.drop_succ_cons, List.drop_zero]) | (simp only [List.drop_succ_cons, List.drop_nil]) | skip)
          have R1 := Lib.hid (hI.eld 0 rfl rfl (hL 4 (by decide)))
          have R2 := Lib.hid (hI.eld 1 rfl rfl (hL 5 (by decide)))
          have R3 := Lib.hid (E5.out.chg [g1, g2] |>.trans (hI.chg (S := [g1, g2]) (by simp)))
          clear hI hL
          go_wp2_with fail
          go_meet
          exact ⟨a', b', R3, R1, R2, Lib.hid ⟨HN.out.1, by have h1 := HN.out.2; have h2 := HL.out.2; omega⟩⟩
        · have hd : decide (n5 ≤ 1) = false := decide_eq_false h1
          rw [hd]
          clear hd
          by_cases h2 : n5 = 2
          · have hb2 : ((n5 : Int) == 2) = true := by simp [h2]
            clear h1 h2
            go_upto_region 26 with fail
            obtain ⟨a', b', id, q, hsa, hsb, hq⟩ := HL.out.1.ch2 XX.out.1 (1 + (y3 : Int)) (1 + (x2 : Int) * 2)
            have SA := Lib.hid hsa
            have SB := Lib.hid hsb
            have HQ := Lib.hid hq
            clear hsa hsb hq
            have OK := Lib.hid (show RgOk [⟨some 24, 0, 26, 45, [.slice none 0 0, .slice none 0 0, (.int .i64 0), (.int .i64 0), (.int .i64 0)], holdO a' id q⟩, ⟨some 25, 0, 27, 45, [.slice none 0 0, .slice none 0 0, (.int .i64 0), (.int .i64 0), (.int .i64 0)], holdO b' id q⟩] [some (eqK (.agg #[.slice ac a.clear.length cc, .slice aj a.jobs.length cj, (.int .i64 a.now)])), some (eqK (.agg #[(.int .i64 x.lv), (.int .i64 x.st)])), some (eqK (.int .i64 (n : Int))), some (eqK (.int .i64 (q4 : Int))), some (eqK (.int .i64 (y3 : Int))), some (eqK (.int .i64 (1 + (y3 : Int)))), some (eqK (.int .i64 (n : Int))), some (eqK (.int .i64 (q2 : Int))), some (eqK (.int .i64 (x2 : Int))), some (eqK (.int .i64 ((x2 : Int) * 2))), some (eqK (.int .i64 (1 + (x2 : Int) * 2))), some (kV (holdO a' id q)), some (eqK (.agg #[.slice bc b.clear.length dc, .slice bj b.jobs.length dj, (.int .i64 b.now)])), some (eqK (.agg #[(.int .i64 x.lv), (.int .i64 x.st)])), some (eqK (.int .i64 (n : Int))), some (eqK (.int .i64 (q4 : Int))), some (eqK (.int .i64 (y3 : Int))), some (eqK (.int .i64 (1 + (y3 : Int)))), some (eqK (.int .i64 (n : Int))), some (eqK (.int .i64 (q2 : Int))), some (eqK (.int .i64 (x2 : Int))), some (eqK (.int .i64 ((x2 : Int) * 2))), some (eqK (.int .i64 (1 + (x2 : Int) * 2))), some (kV (holdO b' id q)), none, none, none, none] from (rgOk (by simp only [List.map]; repeat' (first | exact trivial | apply And.intro | (intro v; first | exact keeps_eq _ _ _ | exact kV_keeps (fun cs => holdO_keeps (by simp [blT]) _ _ _ cs) v | exact kV_keeps (fun cs => holdP_keeps (by simp [blT]) _ cs) v))) (by simp only [List.map]; repeat' (first | exact trivial | apply And.intro | (intro v; first | exact holdO_keeps (by simp [blT]) _ _ _ v | exact holdP_keeps (by simp [blT]) _ v)))))
            refine wp_region_i 28 (RgJ W4 [⟨some 24, 0, 26, 45, [.slice none 0 0, .slice none 0 0, (.int .i64 0), (.int .i64 0), (.int .i64 0)], holdO a' id q⟩, ⟨some 25, 0, 27, 45, [.slice none 0 0, .slice none 0 0, (.int .i64 0), (.int .i64 0), (.int .i64 0)], holdO b' id q⟩] [some (eqK (.agg #[.slice ac a.clear.length cc, .slice aj a.jobs.length cj, (.int .i64 a.now)])), some (eqK (.agg #[(.int .i64 x.lv), (.int .i64 x.st)])), some (eqK (.int .i64 (n : Int))), some (eqK (.int .i64 (q4 : Int))), some (eqK (.int .i64 (y3 : Int))), some (eqK (.int .i64 (1 + (y3 : Int)))), some (eqK (.int .i64 (n : Int))), some (eqK (.int .i64 (q2 : Int))), some (eqK (.int .i64 (x2 : Int))), some (eqK (.int .i64 ((x2 : Int) * 2))), some (eqK (.int .i64 (1 + (x2 : Int) * 2))), some (kV (holdO a' id q)), some (eqK (.agg #[.slice bc b.clear.length dc, .slice bj b.jobs.length dj, (.int .i64 b.now)])), some (eqK (.agg #[(.int .i64 x.lv), (.int .i64 x.st)])), some (eqK (.int .i64 (n : Int))), some (eqK (.int .i64 (q4 : Int))), some (eqK (.int .i64 (y3 : Int))), some (eqK (.int .i64 (1 + (y3 : Int)))), some (eqK (.int .i64 (n : Int))), some (eqK (.int .i64 (q2 : Int))), some (eqK (.int .i64 (x2 : Int))), some (eqK (.int .i64 ((x2 : Int) * 2))), some (eqK (.int .i64 (1 + (x2 : Int) * 2))), some (kV (holdO b' id q)), none, none, none, none] []) (by kernel_rfl) (by kernel_rfl) (by kernel_rfl) (fun vs => ?_) (fun vs => RgJ.start (Ext.refl _).drew (fun t ht hp => (noEld (by kernel_rfl) t ht hp).elim) (fun i j a b ha hb hij hp _ => (noEld (by kernel_rfl) a (List.mem_of_getElem? ha) hp).elim))
            refine IReg.step 1 rfl (fun L w' hI hL hj => ?_) ?_
            · (have T9 := BA.out.ext (hI.ext0 (by kernel_rfl)); (have x0 := T9.cell 0; have x1 := T9.cell 1; have x2 := T9.cell 2; have xo' := T9.old; simp only [List.getElem?_cons_zero, List.getElem?_cons_succ] at x0 x1 x2); clear T9)
              have HI := Lib.hid hI
              clear hI hL hj
              go_wp2
              exact HI.out.opE OK.out 0 _ rfl (by repeat (first | exact Ext.refl _ | apply Ext.plus | apply Ext.alloc | apply Ext.drew)) (by kernel_rfl) (by kernel_rfl)
            (conv in (Act.put _ _ _) => simp only [Act.put, List.setIfInBounds_toArray, List.set_cons_succ, List.set_cons_zero])
            refine IReg.step 2 rfl (fun L w' hI hL hj => ?_) ?_
            · (have T9 := BX.out.ext (hI.ext0 (by kernel_rfl)); (have x0 := T9.cell 0; have x1 := T9.cell 1; have xo' := T9.old; simp only [List.getElem?_cons_zero, List.getElem?_cons_succ] at x0 x1); clear T9)
              have HI := Lib.hid hI
              clear hI hL hj
              go_wp2
              exact HI.out.opE OK.out 1 _ rfl (by repeat (first | exact Ext.refl _ | apply Ext.plus | apply Ext.alloc | apply Ext.drew)) (by kernel_rfl) (by kernel_rfl)
            (conv in (Act.put _ _ _) => simp only [Act.put, List.setIfInBounds_toArray, List.set_cons_succ, List.set_cons_zero])
            refine IReg.step 3 rfl (fun L w' hI hL hj => ?_) ?_
            · skip
              have HI := Lib.hid hI
              clear hI hL hj
              go_wp2
              exact HI.out.opE OK.out 2 _ rfl (by repeat (first | exact Ext.refl _ | apply Ext.plus | apply Ext.alloc | apply Ext.drew)) (by kernel_rfl) (by kernel_rfl)
            (conv in (Act.put _ _ _) => simp only [Act.put, List.setIfInBounds_toArray, List.set_cons_succ, List.set_cons_zero])
            refine IReg.step 4 rfl (fun L w' hI hL hj => ?_) ?_
            · (rw [hI.eq (j := 2) rfl (hj 2 (by decide) (by kernel_rfl))])
              have HI := Lib.hid hI
              clear hI hL hj
              go_wp2
              exact HI.out.opE OK.out 3 _ rfl (by repeat (first | exact Ext.refl _ | apply Ext.plus | apply Ext.alloc | apply Ext.drew)) (by kernel_rfl) (by kernel_rfl)
            (conv in (Act.put _ _ _) => simp only [Act.put, List.setIfInBounds_toArray, List.set_cons_succ, List.set_cons_zero])
            refine IReg.step 5 rfl (fun L w' hI hL hj => ?_) ?_
            · (rw [hI.eq (j := 3) rfl (hj 3 (by decide) (by kernel_rfl))])
              have HI := Lib.hid hI
              clear hI hL hj
              go_wp2
              exact HI.out.opE OK.out 4 _ rfl (by repeat (first | exact Ext.refl _ | apply Ext.plus | apply Ext.alloc | apply Ext.drew)) (by kernel_rfl) (by kernel_rfl)
            (conv in (Act.put _ _ _) => simp only [Act.put, List.setIfInBounds_toArray, List.set_cons_succ, List.set_cons_zero])
            refine IReg.step 6 rfl (fun L w' hI hL hj => ?_) ?_
            · (rw [hI.eq (j := 4) rfl (hj 4 (by decide) (by kernel_rfl))])
              have HI := Lib.hid hI
              clear hI hL hj
              go_wp2
              exact HI.out.opE OK.out 5 _ rfl (by repeat (first | exact Ext.refl _ | apply Ext.plus | apply Ext.alloc | apply Ext.drew)) (by kernel_rfl) (by kernel_rfl)
            (conv in (Act.put _ _ _) => simp only [Act.put, List.setIfInBounds_toArray, List.set_cons_succ, List.set_cons_zero])
            refine IReg.step 7 rfl (fun L w' hI hL hj => ?_) ?_
            · skip
              have HI := Lib.hid hI
              clear hI hL hj
              go_wp2
              exact HI.out.opE OK.out 6 _ rfl (by repeat (first | exact Ext.refl _ | apply Ext.plus | apply Ext.alloc | apply Ext.drew)) (by kernel_rfl) (by kernel_rfl)
            (conv in (Act.put _ _ _) => simp only [Act.put, List.setIfInBounds_toArray, List.set_cons_succ, List.set_cons_zero])
            refine IReg.step 8 rfl (fun L w' hI hL hj => ?_) ?_
            · (rw [hI.eq (j := 6) rfl (hj 6 (by decide) (by kernel_rfl))])
              have HI := Lib.hid hI
              clear hI hL hj
              go_wp2
              exact HI.out.opE OK.out 7 _ rfl (by repeat (first | exact Ext.refl _ | apply Ext.plus | apply Ext.alloc | apply Ext.drew)) (by kernel_rfl) (by kernel_rfl)
            (conv in (Act.put _ _ _) => simp only [Act.put, List.setIfInBounds_toArray, List.set_cons_succ, List.set_cons_zero])
            refine IReg.step 9 rfl (fun L w' hI hL hj => ?_) ?_
            · (rw [hI.eq (j := 7) rfl (hj 7 (by decide) (by kernel_rfl))])
              have HI := Lib.hid hI
              clear hI hL hj
              go_wp2
              exact HI.out.opE OK.out 8 _ rfl (by repeat (first | exact Ext.refl _ | apply Ext.plus | apply Ext.alloc | apply Ext.drew)) (by kernel_rfl) (by kernel_rfl)
            (conv in (Act.put _ _ _) => simp only [Act.put, List.setIfInBounds_toArray, List.set_cons_succ, List.set_cons_zero])
            refine IReg.step 10 rfl (fun L w' hI hL hj => ?_) ?_
            · (rw [hI.eq (j := 8) rfl (hj 8 (by decide) (by kernel_rfl))])
              have HI := Lib.hid hI
              clear hI hL hj
              go_wp2
              exact HI.out.opE OK.out 9 _ rfl (by repeat (first | exact Ext.refl _ | apply Ext.plus | apply Ext.alloc | apply Ext.drew)) (by kernel_rfl) (by kernel_rfl)
            (conv in (Act.put _ _ _) => simp only [Act.put, List.setIfInBounds_toArray, List.set_cons_succ, List.set_cons_zero])
            refine IReg.step 11 rfl (fun L w' hI hL hj => ?_) ?_
            · (rw [hI.eq (j := 9) rfl (hj 9 (by decide) (by kernel_rfl))])
              have HI := Lib.hid hI
              clear hI hL hj
              go_wp2
              exact HI.out.opE OK.out 10 _ rfl (by repeat (first | exact Ext.refl _ | apply Ext.plus | apply Ext.alloc | apply Ext.drew)) (by kernel_rfl) (by kernel_rfl)
            (conv in (Act.put _ _ _) => simp only [Act.put, List.setIfInBounds_toArray, List.set_cons_succ, List.set_cons_zero])
            refine IReg.step 12 rfl (fun L w' hI hL hj => ?_) ?_
            · (rw [hI.eq (j := 0) rfl (hj 0 (by decide) (by kernel_rfl))])
              (rw [hI.eq (j := 1) rfl (hj 1 (by decide) (by kernel_rfl))])
              (rw [hI.eq (j := 5) rfl (hj 5 (by decide) (by kernel_rfl))])
              (rw [hI.eq (j := 10) rfl (hj 10 (by decide) (by kernel_rfl))])
              have HE := Lib.hid (hI.ext0 (by kernel_rfl))
              have HI := Lib.hid hI
              clear hI hL hj
              go_wp2_with fail
              refine (implChange_any a _ x (1 + (y3 : Int)) (1 + (x2 : Int) * 2) _ ((holdP_e PA.out.1 PA.out.2).ext (HE.out.trans (by repeat (first | exact Ext.refl _ | apply Ext.plus | apply Ext.alloc | apply Ext.drew)))) (right_fits PA.out.2)).mono ?_
              rintro e _ ⟨cv9, jv9, fc9, fj9, rfl, ⟨X9, rfl⟩, hO⟩
              rw [SA.out] at hO ⊢
              have HK := Lib.hid (holdO_in (id := id) (q := q) hO)
              clear hO
              go_wp2
              exact HI.out.opK OK.out 11 rfl (by repeat (first | exact Ext.refl _ | apply Ext.plus | apply Ext.alloc | apply Ext.drew)) HK.out (by kernel_rfl) (by kernel_rfl)
            (conv in (Act.put _ _ _) => simp only [Act.put, List.setIfInBounds_toArray, List.set_cons_succ, List.set_cons_zero])
            refine IReg.step 13 rfl (fun L w' hI hL hj => ?_) ?_
            · (have T9 := BB.out.ext (hI.ext0 (by kernel_rfl)); (have x0 := T9.cell 0; have x1 := T9.cell 1; have x2 := T9.cell 2; have xo' := T9.old; simp only [List.getElem?_cons_zero, List.getElem?_cons_succ] at x0 x1 x2); clear T9)
              have HI := Lib.hid hI
              clear hI hL hj
              go_wp2
              exact HI.out.opE OK.out 12 _ rfl (by repeat (first | exact Ext.refl _ | apply Ext.plus | apply Ext.alloc | apply Ext.drew)) (by kernel_rfl) (by kernel_rfl)
            (conv in (Act.put _ _ _) => simp only [Act.put, List.setIfInBounds_toArray, List.set_cons_succ, List.set_cons_zero])
            refine IReg.step 14 rfl (fun L w' hI hL hj => ?_) ?_
            · (have T9 := BX.out.ext (hI.ext0 (by kernel_rfl)); (have x0 := T9.cell 0; have x1 := T9.cell 1; have xo' := T9.old; simp only [List.getElem?_cons_zero, List.getElem?_cons_succ] at x0 x1); clear T9)
              have HI := Lib.hid hI
              clear hI hL hj
              go_wp2
              exact HI.out.opE OK.out 13 _ rfl (by repeat (first | exact Ext.refl _ | apply Ext.plus | apply Ext.alloc | apply Ext.drew)) (by kernel_rfl) (by kernel_rfl)
            (conv in (Act.put _ _ _) => simp only [Act.put, List.setIfInBounds_toArray, List.set_cons_succ, List.set_cons_zero])
            refine IReg.step 15 rfl (fun L w' hI hL hj => ?_) ?_
            · skip
              have HI := Lib.hid hI
              clear hI hL hj
              go_wp2
              exact HI.out.opE OK.out 14 _ rfl (by repeat (first | exact Ext.refl _ | apply Ext.plus | apply Ext.alloc | apply Ext.drew)) (by kernel_rfl) (by kernel_rfl)
            (conv in (Act.put _ _ _) => simp only [Act.put, List.setIfInBounds_toArray, List.set_cons_succ, List.set_cons_zero])
            refine IReg.step 16 rfl (fun L w' hI hL hj => ?_) ?_
            · (rw [hI.eq (j := 14) rfl (hj 14 (by decide) (by kernel_rfl))])
              have HI := Lib.hid hI
              clear hI hL hj
              go_wp2
              exact HI.out.opE OK.out 15 _ rfl (by repeat (first | exact Ext.refl _ | apply Ext.plus | apply Ext.alloc | apply Ext.drew)) (by kernel_rfl) (by kernel_rfl)
            (conv in (Act.put _ _ _) => simp only [Act.put, List.setIfInBounds_toArray, List.set_cons_succ, List.set_cons_zero])
            refine IReg.step 17 rfl (fun L w' hI hL hj => ?_) ?_
            · (rw [hI.eq (j := 15) rfl (hj 15 (by decide) (by kernel_rfl))])
              have HI := Lib.hid hI
              clear hI hL hj
              go_wp2
              exact HI.out.opE OK.out 16 _ rfl (by repeat (first | exact Ext.refl _ | apply Ext.plus | apply Ext.alloc | apply Ext.drew)) (by kernel_rfl) (by kernel_rfl)
            (conv in (Act.put _ _ _) => simp only [Act.put, List.setIfInBounds_toArray, List.set_cons_succ, List.set_cons_zero])
            refine IReg.step 18 rfl (fun L w' hI hL hj => ?_) ?_
            · (rw [hI.eq (j := 16) rfl (hj 16 (by decide) (by kernel_rfl))])
              have HI := Lib.hid hI
              clear hI hL hj
              go_wp2
              exact HI.out.opE OK.out 17 _ rfl (by repeat (first | exact Ext.refl _ | apply Ext.plus | apply Ext.alloc | apply Ext.drew)) (by kernel_rfl) (by kernel_rfl)
            (conv in (Act.put _ _ _) => simp only [Act.put, List.setIfInBounds_toArray, List.set_cons_succ, List.set_cons_zero])
            refine IReg.step 19 rfl (fun L w' hI hL hj => ?_) ?_
            · skip
              have HI := Lib.hid hI
              clear hI hL hj
              go_wp2
              exact HI.out.opE OK.out 18 _ rfl (by repeat (first | exact Ext.refl _ | apply Ext.plus | apply Ext.alloc | apply Ext.drew)) (by kernel_rfl) (by kernel_rfl)
            (conv in (Act.put _ _ _) => simp only [Act.put, List.setIfInBounds_toArray, List.set_cons_succ, List.set_cons_zero])
            refine IReg.step 20 rfl (fun L w' hI hL hj => ?_) ?_
            · (rw [hI.eq (j := 18) rfl (hj 18 (by decide) (by kernel_rfl))])
              have HI := Lib.hid hI
              clear hI hL hj
              go_wp2
              exact HI.out.opE OK.out 19 _ rfl (by repeat (first | exact Ext.refl _ | apply Ext.plus | apply Ext.alloc | apply Ext.drew)) (by kernel_rfl) (by kernel_rfl)
            (conv in (Act.put _ _ _) => simp only [Act.put, List.setIfInBounds_toArray, List.set_cons_succ, List.set_cons_zero])
            refine IReg.step 21 rfl (fun L w' hI hL hj => ?_) ?_
            · (rw [hI.eq (j := 19) rfl (hj 19 (by decide) (by kernel_rfl))])
              have HI := Lib.hid hI
              clear hI hL hj
              go_wp2
              exact HI.out.opE OK.out 20 _ rfl (by repeat (first | exact Ext.refl _ | apply Ext.plus | apply Ext.alloc | apply Ext.drew)) (by kernel_rfl) (by kernel_rfl)
            (conv in (Act.put _ _ _) => simp only [Act.put, List.setIfInBounds_toArray, List.set_cons_succ, List.set_cons_zero])
            refine IReg.step 22 rfl (fun L w' hI hL hj => ?_) ?_
            · (rw [hI.eq (j := 20) rfl (hj 20 (by decide) (by kernel_rfl))])
              have HI := Lib.hid hI
              clear hI hL hj
              go_wp2
              exact HI.out.opE OK.out 21 _ rfl (by repeat (first | exact Ext.refl _ | apply Ext.plus | apply Ext.alloc | apply Ext.drew)) (by kernel_rfl) (by kernel_rfl)
            (conv in (Act.put _ _ _) => simp only [Act.put, List.setIfInBounds_toArray, List.set_cons_succ, List.set_cons_zero])
            refine IReg.step 23 rfl (fun L w' hI hL hj => ?_) ?_
            · (rw [hI.eq (j := 21) rfl (hj 21 (by decide) (by kernel_rfl))])
              have HI := Lib.hid hI
              clear hI hL hj
              go_wp2
              exact HI.out.opE OK.out 22 _ rfl (by repeat (first | exact Ext.refl _ | apply Ext.plus | apply Ext.alloc | apply Ext.drew)) (by kernel_rfl) (by kernel_rfl)
            (conv in (Act.put _ _ _) => simp only [Act.put, List.setIfInBounds_toArray, List.set_cons_succ, List.set_cons_zero])
            refine IReg.step 24 rfl (fun L w' hI hL hj => ?_) ?_
            · (rw [hI.eq (j := 12) rfl (hj 12 (by decide) (by kernel_rfl))])
              (rw [hI.eq (j := 13) rfl (hj 13 (by decide) (by kernel_rfl))])
              (rw [hI.eq (j := 17) rfl (hj 17 (by decide) (by kernel_rfl))])
              (rw [hI.eq (j := 22) rfl (hj 22 (by decide) (by kernel_rfl))])
              have HE := Lib.hid (hI.ext0 (by kernel_rfl))
              have HI := Lib.hid hI
              clear hI hL hj
              go_wp2_with fail
              refine (implChange_any b _ x (1 + (y3 : Int)) (1 + (x2 : Int) * 2) _ ((holdP_e PB.out.1 PB.out.2).ext (HE.out.trans (by repeat (first | exact Ext.refl _ | apply Ext.plus | apply Ext.alloc | apply Ext.drew)))) (right_fits PB.out.2)).mono ?_
              rintro e _ ⟨cv9, jv9, fc9, fj9, rfl, ⟨X9, rfl⟩, hO⟩
              rw [SB.out] at hO ⊢
              have HK := Lib.hid (holdO_in (id := id) (q := q) hO)
              clear hO
              go_wp2
              exact HI.out.opK OK.out 23 rfl (by repeat (first | exact Ext.refl _ | apply Ext.plus | apply Ext.alloc | apply Ext.drew)) HK.out (by kernel_rfl) (by kernel_rfl)
            (conv in (Act.put _ _ _) => simp only [Act.put, List.setIfInBounds_toArray, List.set_cons_succ, List.set_cons_zero])
            refine IReg.step 25 rfl (fun L w' hI hL hj => ?_) ?_
            · have HI := Lib.hid (hI.box OK.out 24 0 rfl rfl hL (by kernel_rfl) (by kernel_rfl) rfl (by kernel_rfl) rfl rfl)
              clear hI hL hj
              go_wp2
              exact HI.out
            (conv in (Act.put _ _ _) => simp only [Act.put, List.setIfInBounds_toArray, List.set_cons_succ, List.set_cons_zero])
            refine IReg.step 26 rfl (fun L w' hI hL hj => ?_) ?_
            · have HI := Lib.hid (hI.box OK.out 25 1 rfl rfl hL (by kernel_rfl) (by kernel_rfl) rfl (by kernel_rfl) rfl rfl)
              clear hI hL hj
              go_wp2
              exact HI.out
            (conv in (Act.put _ _ _) => simp only [Act.put, List.setIfInBounds_toArray, List.set_cons_succ, List.set_cons_zero])
            refine IReg.step 27 rfl (fun L w' hI hL hj => ?_) ?_
            · obtain ⟨hb, hp⟩ := hI.tgt 0 rfl (hj 24 (by decide) (by kernel_rfl)) hL
              have hpp := hp 24 rfl
              obtain ⟨a9, c9, b9, d9, hv, hH, -⟩ := holdO_out (hI.val (j := 11) rfl (hj 11 (by decide) (by kernel_rfl)))
              rw [hv, hpp]
              have h9 := set5_chgB hb (.slice a9 a'.clear.length c9) (.slice b9 a'.jobs.length d9) (.int .i64 a'.now) (.int .i64 id) (.int .i64 q)
              have HI := Lib.hid (fun v => hI.st OK.out 26 0 rfl rfl (hj 24 (by decide) (by kernel_rfl)) (by kernel_rfl) (by kernel_rfl) rfl h9.1 h9.2 ((holdO_keeps (tys := [45]) (by simp [blT]) _ _ _ _).2 _ _ _ _ _ (by simp) hb h9.1 hH) (all_D (by kernel_rfl)) v)
              have hf := hb.fz
              (have b0 := hb.cell 0; have b1 := hb.cell 1; have b2 := hb.cell 2; have b3 := hb.cell 3; have b4 := hb.cell 4; have bo' := hb.old; simp only [List.getElem?_cons_zero, List.getElem?_cons_succ] at b0 b1 b2 b3 b4)
              generalize (Tg.bid _ vs) = gB at *
              clear hI hL hj hb hp hpp hH h9 hv
              go_wp2
              exact ⟨undef, HI.out undef⟩
            (conv in (Act.put _ _ _) => simp only [Act.put, List.setIfInBounds_toArray, List.set_cons_succ, List.set_cons_zero])
            refine IReg.step 28 rfl (fun L w' hI hL hj => ?_) ?_
            · obtain ⟨hb, hp⟩ := hI.tgt 1 rfl (hj 25 (by decide) (by kernel_rfl)) hL
              have hpp := hp 25 rfl
              obtain ⟨a9, c9, b9, d9, hv, hH, -⟩ := holdO_out (hI.val (j := 23) rfl (hj 23 (by decide) (by kernel_rfl)))
              rw [hv, hpp]
              have h9 := set5_chgB hb (.slice a9 b'.clear.length c9) (.slice b9 b'.jobs.length d9) (.int .i64 b'.now) (.int .i64 id) (.int .i64 q)
              have HI := Lib.hid (fun v => hI.st OK.out 27 1 rfl rfl (hj 25 (by decide) (by kernel_rfl)) (by kernel_rfl) (by kernel_rfl) rfl h9.1 h9.2 ((holdO_keeps (tys := [45]) (by simp [blT]) _ _ _ _).2 _ _ _ _ _ (by simp) hb h9.1 hH) (all_D (by kernel_rfl)) v)
              have hf := hb.fz
              (have b0 := hb.cell 0; have b1 := hb.cell 1; have b2 := hb.cell 2; have b3 := hb.cell 3; have b4 := hb.cell 4; have bo' := hb.old; simp only [List.getElem?_cons_zero, List.getElem?_cons_succ] at b0 b1 b2 b3 b4)
              generalize (Tg.bid _ vs) = gB at *
              clear hI hL hj hb hp hpp hH h9 hv
              go_wp2
              exact ⟨undef, HI.out undef⟩
            (conv in (Act.put _ _ _) => simp only [Act.put, List.setIfInBounds_toArray, List.set_cons_succ, List.set_cons_zero])
            refine IReg.done (fun L w' hL hI => ?_)
            (first | (simp only [List.drop_succ_cons, List.drop_zero]) | (simp only [List.drop_succ_cons, List.drop_nil]) | skip)
            obtain ⟨gY, gZ, eY, eZ, -, hgY, hgZ, h1, h2⟩ := hI.fin2 rfl rfl rfl rfl (hL 26 (by decide)) (hL 27 (by decide))
            rw [eY, eZ]
            have E5 := Lib.hid (hI.ext0 (by kernel_rfl))
            clear hI hL eY eZ OK
            obtain ⟨ya, yc, yb, yd, bY, hY⟩ := HasO.out h1
            obtain ⟨za, zc, zb, zd, bZ, hZ⟩ := HasO.out h2
            have BY := Lib.hid bY
            have BZ := Lib.hid bZ
            have PY := Lib.hid hY
            have PZ := Lib.hid hZ
            have B5A := Lib.hid (BA.out.ext E5.out)
            have B5B := Lib.hid (BB.out.ext E5.out)
            have GY := Lib.hid (show ¬ gY = g1 ∧ ¬ gY = g2 ∧ ¬ gZ = g1 ∧ ¬ gZ = g2 by
              have o1 := BA.out.old
              have o2 := BB.out.old
              unfold World.old at o1 o2
              omega)
            clear h1 h2 bY bZ hY hZ hgY hgZ
            have hqq : (q != q) = false := bne_self_eq_false' q
            have hii : (id != id) = false := bne_self_eq_false' id
            have y0 := BY.out.cell 0
            have y1 := BY.out.cell 1
            have y2 := BY.out.cell 2
            have y3 := BY.out.cell 3
            have y4 := BY.out.cell 4
            have yo' := BY.out.old
            simp only [List.getElem?_cons_zero, List.getElem?_cons_succ] at y0 y1 y2 y3 y4
            have z0 := BZ.out.cell 0
            have z1 := BZ.out.cell 1
            have z2 := BZ.out.cell 2
            have z3 := BZ.out.cell 3
            have z4 := BZ.out.cell 4
            have zo' := BZ.out.old
            simp only [List.getElem?_cons_zero, List.getElem?_cons_succ] at z0 z1 z2 z3 z4
            by_cases hq0 : q = 0
            case neg =>
              have hq1 : (q == 0) = false := by simp [hq0]
              clear hq0
              go_wp2_with fail
              go_meet
              exact ⟨a, b, Lib.hid (E5.out.chg _), Lib.hid (HasP.ext HA4.out E5.out), Lib.hid (HasP.ext HB4.out E5.out), Lib.hid ⟨HL.out.1, by have := HL.out.2; omega⟩⟩
            have hq1 : (q == 0) = true := by simp [hq0]
            have HN := Lib.hid (HQ.out hq0)
            clear hq0
            go_upto_region 30 with fail
            generalize w' = W5 at *
            clear y0 y1 y2 y3 y4 yo'
            clear z0 z1 z2 z3 z4 zo'
            have OK := Lib.hid (show RgOk [⟨none, g1, 4, 43, [.slice ac a.clear.length cc, .slice aj a.jobs.length cj, (.int .i64 a.now)], holdP a'⟩, ⟨none, g2, 5, 43, [.slice bc b.clear.length dc, .slice bj b.jobs.length dj, (.int .i64 b.now)], holdP b'⟩] [some (eqK (.pointer (some ⟨gY, 0, none⟩))), some (kV (holdP a')), some (eqK (.pointer (some ⟨gZ, 0, none⟩))), some (kV (holdP b')), none, none] from (rgOk (by simp only [List.map]; repeat' (first | exact trivial | apply And.intro | (intro v; first | exact keeps_eq _ _ _ | exact kV_keeps (fun cs => holdO_keeps (by simp [blT]) _ _ _ cs) v | exact kV_keeps (fun cs => holdP_keeps (by simp [blT]) _ cs) v))) (by simp only [List.map]; repeat' (first | exact trivial | apply And.intro | (intro v; first | exact holdO_keeps (by simp [blT]) _ _ _ v | exact holdP_keeps (by simp [blT]) _ v)))))
            refine wp_region_i 6 (RgJ W5 [⟨none, g1, 4, 43, [.slice ac a.clear.length cc, .slice aj a.jobs.length cj, (.int .i64 a.now)], holdP a'⟩, ⟨none, g2, 5, 43, [.slice bc b.clear.length dc, .slice bj b.jobs.length dj, (.int .i64 b.now)], holdP b'⟩] [some (eqK (.pointer (some ⟨gY, 0, none⟩))), some (kV (holdP a')), some (eqK (.pointer (some ⟨gZ, 0, none⟩))), some (kV (holdP b')), none, none] []) (by kernel_rfl) (by kernel_rfl) (by kernel_rfl) (fun vs => ?_) (fun vs => RgJ.start (Ext.refl _).drew (fun t ht _ => by simp at ht; rcases ht with rfl | rfl; exact B5A.out; exact B5B.out) (fun i j a b ha hb hij _ _ => two_ne NE.out ha hb hij))
            refine IReg.step 1 rfl (fun L w' hI hL hj => ?_) ?_
            · skip
              have HI := Lib.hid hI
              clear hI hL hj
              go_wp2
              exact HI.out.opE OK.out 0 _ rfl (by repeat (first | exact Ext.refl _ | apply Ext.plus | apply Ext.alloc | apply Ext.drew)) (by kernel_rfl) (by kernel_rfl)
            (conv in (Act.put _ _ _) => simp only [Act.put, List.setIfInBounds_toArray, List.set_cons_succ, List.set_cons_zero])
            refine IReg.step 2 rfl (fun L w' hI hL hj => ?_) ?_
            · (rw [hI.eq (j := 0) rfl (hj 0 (by decide) (by kernel_rfl))])
              have hc := hI.chg (S := [g1, g2]) (by simp)
              have T9 := BY.out.chg hc (by have := GY.out; simp; omega)
              have hP := holdP_chg PY.out hc (two_blk B5A.out B5B.out)
              (have x0 := T9.cell 0; have x1 := T9.cell 1; have x2 := T9.cell 2; have x3 := T9.cell 3; have x4 := T9.cell 4; have xo' := T9.old; simp only [List.getElem?_cons_zero, List.getElem?_cons_succ] at x0 x1 x2 x3 x4)
              have HP := Lib.hid hP
              have HI := Lib.hid hI
              clear hI hL hj T9 hc hP
              go_wp2
              exact HI.out.opK OK.out 1 rfl (by repeat (first | exact Ext.refl _ | apply Ext.plus | apply Ext.alloc | apply Ext.drew)) ⟨_, rfl, HP.out⟩ (by kernel_rfl) (by kernel_rfl)
            (conv in (Act.put _ _ _) => simp only [Act.put, List.setIfInBounds_toArray, List.set_cons_succ, List.set_cons_zero])
            refine IReg.step 3 rfl (fun L w' hI hL hj => ?_) ?_
            · skip
              have HI := Lib.hid hI
              clear hI hL hj
              go_wp2
              exact HI.out.opE OK.out 2 _ rfl (by repeat (first | exact Ext.refl _ | apply Ext.plus | apply Ext.alloc | apply Ext.drew)) (by kernel_rfl) (by kernel_rfl)
            (conv in (Act.put _ _ _) => simp only [Act.put, List.setIfInBounds_toArray, List.set_cons_succ, List.set_cons_zero])
            refine IReg.step 4 rfl (fun L w' hI hL hj => ?_) ?_
            · (rw [hI.eq (j := 2) rfl (hj 2 (by decide) (by kernel_rfl))])
              have hc := hI.chg (S := [g1, g2]) (by simp)
              have T9 := BZ.out.chg hc (by have := GY.out; simp; omega)
              have hP := holdP_chg PZ.out hc (two_blk B5A.out B5B.out)
              (have x0 := T9.cell 0; have x1 := T9.cell 1; have x2 := T9.cell 2; have x3 := T9.cell 3; have x4 := T9.cell 4; have xo' := T9.old; simp only [List.getElem?_cons_zero, List.getElem?_cons_succ] at x0 x1 x2 x3 x4)
              have HP := Lib.hid hP
              have HI := Lib.hid hI
              clear hI hL hj T9 hc hP
              go_wp2
              exact HI.out.opK OK.out 3 rfl (by repeat (first | exact Ext.refl _ | apply Ext.plus | apply Ext.alloc | apply Ext.drew)) ⟨_, rfl, HP.out⟩ (by kernel_rfl) (by kernel_rfl)
            (conv in (Act.put _ _ _) => simp only [Act.put, List.setIfInBounds_toArray, List.set_cons_succ, List.set_cons_zero])
            refine IReg.step 5 rfl (fun L w' hI hL hj => ?_) ?_
            · obtain ⟨hb0, -⟩ := hI.tgt 0 rfl rfl hL
              obtain ⟨a9, c9, b9, d9, hv, hH⟩ := holdP_out (hI.val (j := 1) rfl (hj 1 (by decide) (by kernel_rfl)))
              rw [hv]
              have hb : Blk w' g1 _ 43 := hb0
              have h9 := set3_chgB hb (.slice a9 a'.clear.length c9) (.slice b9 a'.jobs.length d9) (.int .i64 a'.now)
              have HI := Lib.hid (fun v => hI.st OK.out 4 0 rfl rfl rfl (by kernel_rfl) (by kernel_rfl) rfl h9.1 h9.2 ((holdP_keeps (tys := [43]) (by simp [blT]) _ _).2 _ _ _ _ _ (by simp) hb h9.1 hH) (fun x hx => by cases hx) v)
              have hf := hb.fz
              (have b0 := hb.cell 0; have b1 := hb.cell 1; have b2 := hb.cell 2; have bo' := hb.old; simp only [List.getElem?_cons_zero, List.getElem?_cons_succ] at b0 b1 b2)
              clear hI hL hj hb hb0 hH h9 hv
              go_wp2
              exact ⟨undef, HI.out undef⟩
            (conv in (Act.put _ _ _) => simp only [Act.put, List.setIfInBounds_toArray, List.set_cons_succ, List.set_cons_zero])
            refine IReg.step 6 rfl (fun L w' hI hL hj => ?_) ?_
            · obtain ⟨hb0, -⟩ := hI.tgt 1 rfl rfl hL
              obtain ⟨a9, c9, b9, d9, hv, hH⟩ := holdP_out (hI.val (j := 3) rfl (hj 3 (by decide) (by kernel_rfl)))
              rw [hv]
              have hb : Blk w' g2 _ 43 := hb0
              have h9 := set3_chgB hb (.slice a9 b'.clear.length c9) (.slice b9 b'.jobs.length d9) (.int .i64 b'.now)
              have HI := Lib.hid (fun v => hI.st OK.out 5 1 rfl rfl rfl (by kernel_rfl) (by kernel_rfl) rfl h9.1 h9.2 ((holdP_keeps (tys := [43]) (by simp [blT]) _ _).2 _ _ _ _ _ (by simp) hb h9.1 hH) (fun x hx => by cases hx) v)
              have hf := hb.fz
              (have b0 := hb.cell 0; have b1 := hb.cell 1; have b2 := hb.cell 2; have bo' := hb.old; simp only [List.getElem?_cons_zero, List.getElem?_cons_succ] at b0 b1 b2)
              clear hI hL hj hb hb0 hH h9 hv
              go_wp2
              exact ⟨undef, HI.out undef⟩
            (conv in (Act.put _ _ _) => simp only [Act.put, List.setIfInBounds_toArray, List.set_cons_succ, List.set_cons_zero])
            refine IReg.done (fun L w9 hL hI => ?_)
            (first | (simp only [List.drop_succ_cons, List.drop_zero]) | (simp only [List.drop_succ_cons, List.drop_nil]) | skip)
            have R1 := Lib.hid (hI.eld 0 rfl rfl (hL 4 (by decide)))
            have R2 := Lib.hid (hI.eld 1 rfl rfl (hL 5 (by decide)))
            have R3 := Lib.hid (E5.out.chg [g1, g2] |>.trans (hI.chg (S := [g1, g2]) (by simp)))
            clear hI hL
            go_wp2_with fail
            go_meet
            exact ⟨a', b', R3, R1, R2, Lib.hid ⟨HN.out.1, by have h1 := HN.out.2; have h2 := HL.out.2; omega⟩⟩
          · have hb2 : ((n5 : Int) == 2) = false := by rw [beq_eq_false_iff_ne]; omega
            clear h1 h2
            go_upto_region 17 with fail
            obtain ⟨hv1, hv2, hbl, hnw⟩ := HL.out.1.adv' b_sep (by have := HL.out.2; omega)
            have SA := Lib.hid hv1
            have SB := Lib.hid hv2
            have HN := Lib.hid (And.intro hbl hnw)
            clear hv1 hv2 hbl hnw
            have OK := Lib.hid (show RgOk [⟨none, g1, 6, 43, [.slice ac a.clear.length cc, .slice aj a.jobs.length cj, (.int .i64 a.now)], holdP (advP a)⟩, ⟨none, g2, 7, 43, [.slice bc b.clear.length dc, .slice bj b.jobs.length dj, (.int .i64 b.now)], holdP (advP b)⟩] [some (eqK (.agg #[.slice ac a.clear.length cc, .slice aj a.jobs.length cj, (.int .i64 a.now)])), some (kV (holdO (advP a) 0 0)), some (kV (holdP (advP a))), some (eqK (.agg #[.slice bc b.clear.length dc, .slice bj b.jobs.length dj, (.int .i64 b.now)])), some (kV (holdO (advP b) 0 0)), some (kV (holdP (advP b))), none, none] from (rgOk (by simp only [List.map]; repeat' (first | exact trivial | apply And.intro | (intro v; first | exact keeps_eq _ _ _ | exact kV_keeps (fun cs => holdO_keeps (by simp [blT]) _ _ _ cs) v | exact kV_keeps (fun cs => holdP_keeps (by simp [blT]) _ cs) v))) (by simp only [List.map]; repeat' (first | exact trivial | apply And.intro | (intro v; first | exact holdO_keeps (by simp [blT]) _ _ _ v | exact holdP_keeps (by simp [blT]) _ v)))))
            refine wp_region_i 8 (RgJ W4 [⟨none, g1, 6, 43, [.slice ac a.clear.length cc, .slice aj a.jobs.length cj, (.int .i64 a.now)], holdP (advP a)⟩, ⟨none, g2, 7, 43, [.slice bc b.clear.length dc, .slice bj b.jobs.length dj, (.int .i64 b.now)], holdP (advP b)⟩] [some (eqK (.agg #[.slice ac a.clear.length cc, .slice aj a.jobs.length cj, (.int .i64 a.now)])), some (kV (holdO (advP a) 0 0)), some (kV (holdP (advP a))), some (eqK (.agg #[.slice bc b.clear.length dc, .slice bj b.jobs.length dj, (.int .i64 b.now)])), some (kV (holdO (advP b) 0 0)), some (kV (holdP (advP b))), none, none] [(6, 0), (7, 3)]) (by kernel_rfl) (by kernel_rfl) (by kernel_rfl) (fun vs => ?_) (fun vs => RgJ.start (Ext.refl _).drew (fun t ht _ => by simp at ht; rcases ht with rfl | rfl; exact BA.out; exact BB.out) (fun i j a b ha hb hij _ _ => two_ne NE.out ha hb hij))
            refine IReg.step 1 rfl (fun L w' hI hL hj => ?_) ?_
            · have hLs : L 6 = false := by
                cases e : L 6
                · rfl
                · have := hI.dd (6, 0) (by simp) e
                  rw [this] at hL
                  cases hL
              obtain ⟨hb0, -⟩ := hI.tgt 0 rfl rfl hLs
              have hb : Blk w' g1 _ 43 := hb0
              (have x0 := hb.cell 0; have x1 := hb.cell 1; have x2 := hb.cell 2; have xo' := hb.old; simp only [List.getElem?_cons_zero, List.getElem?_cons_succ] at x0 x1 x2)
              have HI := Lib.hid hI
              clear hI hL hj hb hb0 hLs
              go_wp2
              exact HI.out.opE OK.out 0 _ rfl (by repeat (first | exact Ext.refl _ | apply Ext.plus | apply Ext.alloc | apply Ext.drew)) (by kernel_rfl) (by kernel_rfl)
            (conv in (Act.put _ _ _) => simp only [Act.put, List.setIfInBounds_toArray, List.set_cons_succ, List.set_cons_zero])
            refine IReg.step 2 rfl (fun L w' hI hL hj => ?_) ?_
            · (rw [hI.eq (j := 0) rfl (hj 0 (by decide) (by kernel_rfl))])
              have HE := Lib.hid (holdP_e (holdP_chg PA.out.1 (hI.chg (S := [g1, g2]) (by simp)) (two_blk BA.out BB.out)) PA.out.2)
              have HI := Lib.hid hI
              clear hI hL hj
              go_wp2_with fail
              refine (implAdvance_any a _ _ (HE.out.ext (by repeat (first | exact Ext.refl _ | apply Ext.plus | apply Ext.alloc | apply Ext.drew))) (right_fits PA.out.2)).mono ?_
              rintro e _ ⟨cv9, jv9, fc9, fj9, rfl, ⟨X9, rfl⟩, hO⟩
              rw [SA.out] at hO ⊢
              have HK := Lib.hid (holdO_in (id := 0) (q := 0) hO)
              clear hO
              go_wp2
              exact HI.out.opK OK.out 1 rfl (by repeat (first | exact Ext.refl _ | apply Ext.plus | apply Ext.alloc | apply Ext.drew)) HK.out (by kernel_rfl) (by kernel_rfl)
            (conv in (Act.put _ _ _) => simp only [Act.put, List.setIfInBounds_toArray, List.set_cons_succ, List.set_cons_zero])
            refine IReg.step 3 rfl (fun L w' hI hL hj => ?_) ?_
            · obtain ⟨a9, c9, b9, d9, hv, -, hH⟩ := holdO_out (hI.val (j := 1) rfl (hj 1 (by decide) (by kernel_rfl)))
              rw [hv]
              have HP := Lib.hid hH
              have HI := Lib.hid hI
              clear hI hL hj hv hH
              go_wp2
              exact HI.out.opK OK.out 2 rfl (by repeat (first | exact Ext.refl _ | apply Ext.plus | apply Ext.alloc | apply Ext.drew)) ⟨_, rfl, HP.out⟩ (by kernel_rfl) (by kernel_rfl)
            (conv in (Act.put _ _ _) => simp only [Act.put, List.setIfInBounds_toArray, List.set_cons_succ, List.set_cons_zero])
            refine IReg.step 4 rfl (fun L w' hI hL hj => ?_) ?_
            · have hLs : L 7 = false := by
                cases e : L 7
                · rfl
                · have := hI.dd (7, 3) (by simp) e
                  rw [this] at hL
                  cases hL
              obtain ⟨hb0, -⟩ := hI.tgt 1 rfl rfl hLs
              have hb : Blk w' g2 _ 43 := hb0
              (have x0 := hb.cell 0; have x1 := hb.cell 1; have x2 := hb.cell 2; have xo' := hb.old; simp only [List.getElem?_cons_zero, List.getElem?_cons_succ] at x0 x1 x2)
              have HI := Lib.hid hI
              clear hI hL hj hb hb0 hLs
              go_wp2
              exact HI.out.opE OK.out 3 _ rfl (by repeat (first | exact Ext.refl _ | apply Ext.plus | apply Ext.alloc | apply Ext.drew)) (by kernel_rfl) (by kernel_rfl)
            (conv in (Act.put _ _ _) => simp only [Act.put, List.setIfInBounds_toArray, List.set_cons_succ, List.set_cons_zero])
            refine IReg.step 5 rfl (fun L w' hI hL hj => ?_) ?_
            · (rw [hI.eq (j := 3) rfl (hj 3 (by decide) (by kernel_rfl))])
              have HE := Lib.hid (holdP_e (holdP_chg PB.out.1 (hI.chg (S := [g1, g2]) (by simp)) (two_blk BA.out BB.out)) PB.out.2)
              have HI := Lib.hid hI
              clear hI hL hj
              go_wp2_with fail
              refine (implAdvance_any b _ _ (HE.out.ext (by repeat (first | exact Ext.refl _ | apply Ext.plus | apply Ext.alloc | apply Ext.drew))) (right_fits PB.out.2)).mono ?_
              rintro e _ ⟨cv9, jv9, fc9, fj9, rfl, ⟨X9, rfl⟩, hO⟩
              rw [SB.out] at hO ⊢
              have HK := Lib.hid (holdO_in (id := 0) (q := 0) hO)
              clear hO
              go_wp2
              exact HI.out.opK OK.out 4 rfl (by repeat (first | exact Ext.refl _ | apply Ext.plus | apply Ext.alloc | apply Ext.drew)) HK.out (by kernel_rfl) (by kernel_rfl)
            (conv in (Act.put _ _ _) => simp only [Act.put, List.setIfInBounds_toArray, List.set_cons_succ, List.set_cons_zero])
            refine IReg.step 6 rfl (fun L w' hI hL hj => ?_) ?_
            · obtain ⟨a9, c9, b9, d9, hv, -, hH⟩ := holdO_out (hI.val (j := 4) rfl (hj 4 (by decide) (by kernel_rfl)))
              rw [hv]
              have HP := Lib.hid hH
              have HI := Lib.hid hI
              clear hI hL hj hv hH
              go_wp2
              exact HI.out.opK OK.out 5 rfl (by repeat (first | exact Ext.refl _ | apply Ext.plus | apply Ext.alloc | apply Ext.drew)) ⟨_, rfl, HP.out⟩ (by kernel_rfl) (by kernel_rfl)
            (conv in (Act.put _ _ _) => simp only [Act.put, List.setIfInBounds_toArray, List.set_cons_succ, List.set_cons_zero])
            refine IReg.step 7 rfl (fun L w' hI hL hj => ?_) ?_
            · obtain ⟨hb0, -⟩ := hI.tgt 0 rfl rfl hL
              obtain ⟨a9, c9, b9, d9, hv, hH⟩ := holdP_out (hI.val (j := 2) rfl (hj 2 (by decide) (by kernel_rfl)))
              rw [hv]
              have hb : Blk w' g1 _ 43 := hb0
              have h9 := set3_chgB hb (.slice a9 (advP a).clear.length c9) (.slice b9 (advP a).jobs.length d9) (.int .i64 (advP a).now)
              have HI := Lib.hid (fun v => hI.st OK.out 6 0 rfl rfl rfl (by kernel_rfl) (by kernel_rfl) rfl h9.1 h9.2 ((holdP_keeps (tys := [43]) (by simp [blT]) _ _).2 _ _ _ _ _ (by simp) hb h9.1 hH) (fun x hx hn => by simp at hx; rcases hx with rfl | rfl; exact hj 0 (by decide) (by kernel_rfl); exact absurd hn (by decide)) v)
              have hf := hb.fz
              (have b0 := hb.cell 0; have b1 := hb.cell 1; have b2 := hb.cell 2; have bo' := hb.old; simp only [List.getElem?_cons_zero, List.getElem?_cons_succ] at b0 b1 b2)
              clear hI hL hj hb hb0 hH h9 hv
              go_wp2
              exact ⟨undef, HI.out undef⟩
            (conv in (Act.put _ _ _) => simp only [Act.put, List.setIfInBounds_toArray, List.set_cons_succ, List.set_cons_zero])
            refine IReg.step 8 rfl (fun L w' hI hL hj => ?_) ?_
            · obtain ⟨hb0, -⟩ := hI.tgt 1 rfl rfl hL
              obtain ⟨a9, c9, b9, d9, hv, hH⟩ := holdP_out (hI.val (j := 5) rfl (hj 5 (by decide) (by kernel_rfl)))
              rw [hv]
              have hb : Blk w' g2 _ 43 := hb0
              have h9 := set3_chgB hb (.slice a9 (advP b).clear.length c9) (.slice b9 (advP b).jobs.length d9) (.int .i64 (advP b).now)
              have HI := Lib.hid (fun v => hI.st OK.out 7 1 rfl rfl rfl (by kernel_rfl) (by kernel_rfl) rfl h9.1 h9.2 ((holdP_keeps (tys := [43]) (by simp [blT]) _ _).2 _ _ _ _ _ (by simp) hb h9.1 hH) (fun x hx hn => by simp at hx; rcases hx with rfl | rfl; exact absurd hn (by decide); exact hj 3 (by decide) (by kernel_rfl)) v)
              have hf := hb.fz
              (have b0 := hb.cell 0; have b1 := hb.cell 1; have b2 := hb.cell 2; have bo' := hb.old; simp only [List.getElem?_cons_zero, List.getElem?_cons_succ] at b0 b1 b2)
              clear hI hL hj hb hb0 hH h9 hv
              go_wp2
              exact ⟨undef, HI.out undef⟩
            (conv in (Act.put _ _ _) => simp only [Act.put, List.setIfInBounds_toArray, List.set_cons_succ, List.set_cons_zero])
            refine IReg.done (fun L w9 hL hI => ?_)
            (first | (simp only [List.drop_succ_cons, List.drop_zero]) | (simp only [List.drop_succ_cons, List.drop_nil]) | skip)
            have R1 := Lib.hid (hI.eld 0 rfl rfl (hL 6 (by decide)))
            have R2 := Lib.hid (hI.eld 1 rfl rfl (hL 7 (by decide)))
            have R3 := Lib.hid (hI.chg (S := [g1, g2]) (by simp))
            clear hI hL
            go_wp2_with fail
            go_meet
            exact ⟨advP a, advP b, R3, R1, R2, Lib.hid ⟨HN.out.1, by have h1 := HN.out.2; have h2 := HL.out.2; omega⟩⟩
    case rest =>
      --REST
      obtain ⟨c, d, HC5, HA5, HB5, HL5⟩ := hcut
      have HCX := Lib.hid (HC.out.trans ((E4.out.chg _).trans HC5.out))
      obtain ⟨z2, hz2, hz2l⟩ := tm z 2 (by decide)
      have hz2l : z2 < 2 := by omega
      obtain ⟨p2, hp2, hp2l⟩ := tq z 2 (by decide)
      obtain ⟨y2, hy2, hy2l⟩ := tm p2 2 (by decide)
      obtain ⟨p4, hp4, hp4l⟩ := tq z 4 (by decide)
      obtain ⟨y5, hy5, hy5l⟩ := tm p4 5 (by decide)
      obtain ⟨u3, hu3, hu3l⟩ := tm p4 3 (by decide)
      obtain ⟨p8, hp8, hp8l⟩ := tq z 8 (by decide)
      obtain ⟨w3, hw3, hw3l⟩ := tm p8 3 (by decide)
      obtain ⟨m3, hm3, hm3l⟩ := tm z 3 (by decide)
      clear BA BB PA PB HA4 HB4 ac cc aj cj bc dc bj dj BX XX HG hn2 hn2l hn5 hn5l hq2 hq2l hx2 hx2l hq4 hq4l hx5 hx5l hy3 hy3l hq8 hq8l hx3 hx3l
      obtain ⟨y, hyP, hyQ, hyo, mo', m0, m1⟩ := other_at hz2l (SO.out.chg HCX.out (by have := GS.out; simp; omega))
      have YY := Lib.hid (And.intro hyP (And.intro hyQ hyo))
      clear hyP hyQ hyo
      go_upto_region 32 with fail
      refine gen_world (fun W6 hW => ?_)
      have E6 := Lib.hid (show Ext wc W6 by rw [hW]; exact (by repeat (first | exact Ext.refl _ | apply Ext.plus | apply Ext.alloc | apply Ext.drew)))
      have hbx : Blk W6 wc.heap.size [(.int .i64 y.lv), (.int .i64 y.st)] 24 := by rw [hW]; exact (Blk.new (w := wc) (cs := #[(.int .i64 y.lv), (.int .i64 y.st)]) (ty := 24) rfl).ext (by repeat (first | exact Ext.refl _ | apply Ext.plus | apply Ext.alloc | apply Ext.drew))
      clear hW mo' m0 m1 hz2 hz2l
      have HG := Lib.hid (show ¬ wc.heap.size = g1 ∧ ¬ wc.heap.size = g2 by
        obtain ⟨_, b1, _⟩ := HA5.out
        obtain ⟨_, b2, _⟩ := HB5.out
        have o1 := b1.old
        have o2 := b2.old
        unfold World.old at o1 o2
        omega)
      generalize wc.heap.size = gy at hbx HG ⊢
      have BX := Lib.hid hbx
      clear hbx
      obtain ⟨dc, dd, dj, de, bD, hD⟩ := HasP.out (HasP.ext HB5.out E6.out)
      have BD := Lib.hid bD
      have PD := Lib.hid (And.intro hD HL5.out.1.rb)
      have HA6 := Lib.hid (HasP.ext HA5.out E6.out)
      have HB6 := Lib.hid (HasP.ext HB5.out E6.out)
      have HC6 := Lib.hid (HCX.out.trans (E6.out.chg _))
      clear bD hD HA5 HB5 HCX HC5 E6
      have x0 := BD.out.cell 0
      have x1 := BD.out.cell 1
      have x2 := BD.out.cell 2
      have xo' := BD.out.old
      simp only [List.getElem?_cons_zero, List.getElem?_cons_succ] at x0 x1 x2
      have y0 := BX.out.cell 0
      have y1 := BX.out.cell 1
      have yo' := BX.out.old
      simp only [List.getElem?_cons_zero, List.getElem?_cons_succ] at y0 y1
      obtain ⟨s, id, q, hs, hsl⟩ := HL5.out.1.sub3 YY.out.1 YY.out.2.1 (1 + (y2 : Int)) (1 + (y5 : Int)) (w3 : Int)
      have HS9 := Lib.hid hs
      have HSL := Lib.hid hsl
      clear hs hsl
      go_wp2_with fail
      refine (implSubmit_any d _ y (1 + (y2 : Int)) (1 + (y5 : Int)) (w3 : Int) _ ((holdP_e PD.out.1 PD.out.2).ext (by repeat (first | exact Ext.refl _ | apply Ext.plus | apply Ext.alloc | apply Ext.drew))) (right_fits PD.out.2) YY.out.2.2 (by unfold I64; omega) (by unfold I64; omega) (by unfold I64; omega)).mono ?_
      rintro e _ ⟨cv9, jv9, fc9, fj9, rfl, ⟨X9, rfl⟩, hO⟩
      rw [HS9.out] at hO ⊢
      have HK := Lib.hid (holdO_in (id := id) (q := q) hO)
      clear hO
      obtain ⟨sa, sb, sc, sd, hv, hO9, hP9⟩ := holdO_out HK.out
      unfold poV at hv ⊢
      rw [hv]
      clear HK hv
      go_upto_region 33 with fail
      refine gen_world (fun W7 hW => ?_)
      have E7 := Lib.hid (show Ext W6 W7 by rw [hW]; exact (by repeat (first | exact Ext.refl _ | apply Ext.plus | apply Ext.alloc | apply Ext.drew)))
      have P7 := Lib.hid ((holdP_keeps (tys := []) (fun _ h => by cases h) _ _).1 _ W7 (by rw [hW]; exact (by repeat (first | exact Ext.refl _ | apply Ext.plus | apply Ext.alloc | apply Ext.drew))) hP9)
      have hb : Blk W7 (W6.heap.size + X9.n) [.slice sa s.clear.length sb, .slice sc s.jobs.length sd, (.int .i64 s.now), (.int .i64 id), (.int .i64 q)] 45 := by rw [hW]; exact Blk.new (by simp)
      have hgw : ¬ W6.heap.size + X9.n = g1 ∧ ¬ W6.heap.size + X9.n = g2 ∧ ¬ W6.heap.size + X9.n = gy ∧ W3.heap.size ≤ W6.heap.size + X9.n := by
        have o1 := BD.out.old
        obtain ⟨_, b1, _⟩ := HA6.out
        have o2 := b1.old
        have o3 := BX.out.old
        have o4 := HC6.out.size
        unfold World.old at o1 o2 o3
        omega
      clear hW hO9 hP9 x0 x1 x2 xo' y0 y1 yo'
      generalize W6.heap.size + X9.n = gw at hb hgw ⊢
      have BW := Lib.hid hb
      have GW := Lib.hid hgw
      clear hb hgw hy2 hy2l hy5 hy5l hw3 hw3l
      have BD7 := Lib.hid (BD.out.ext E7.out)
      have BX7 := Lib.hid (BX.out.ext E7.out)
      have PD7 := Lib.hid ((holdP_keeps (tys := []) (fun _ h => by cases h) _ _).1 _ W7 E7.out PD.out.1)
      have HA7 := Lib.hid (HasP.ext HA6.out E7.out)
      have HB7 := Lib.hid (HasP.ext HB6.out E7.out)
      have HC7 := Lib.hid (HC6.out.trans (E7.out.chg _))
      clear BD BX HA6 HB6 HC6 E7
      go_upto_if 204 with (fail)
      go_cut [] from 202 to 211 (fun wc => ∃ (s : Pl) (id q : Int), Hid (HasO s id q wc gw) ∧ Hid (HasP c wc g1) ∧ Hid (HasP d wc g2) ∧ Hid (Chg [g1, g2] W3 wc) ∧ Hid (q = 0 → Bl bP bQ c s))
      case first =>
        by_cases h3 : m3 = 0
        case neg =>
          have hb3 : ((m3 : Int) == 0) = false := by simp [h3]
          clear h3
          go_wp2_with fail
          go_meet
          exact ⟨s, id, q, Lib.hid (hasO_of BW.out P7.out), HA7, HB7, HC7, HSL⟩
        have hb3 : ((m3 : Int) == 0) = true := by simp [h3]
        clear h3
        obtain ⟨t, jd, r, ht, htl⟩ := HL5.out.1.ch3 YY.out.1 (1 + (u3 : Int)) 3
        have HT9 := Lib.hid ht
        have HTL := Lib.hid htl
        clear ht htl
        have x0 := BD7.out.cell 0
        have x1 := BD7.out.cell 1
        have x2 := BD7.out.cell 2
        have xo' := BD7.out.old
        simp only [List.getElem?_cons_zero, List.getElem?_cons_succ] at x0 x1 x2
        have y0 := BX7.out.cell 0
        have y1 := BX7.out.cell 1
        have yo' := BX7.out.old
        simp only [List.getElem?_cons_zero, List.getElem?_cons_succ] at y0 y1
        have s0 := BW.out.cell 0
        have s1 := BW.out.cell 1
        have s2 := BW.out.cell 2
        have s3 := BW.out.cell 3
        have s4 := BW.out.cell 4
        have so' := BW.out.old
        simp only [List.getElem?_cons_zero, List.getElem?_cons_succ] at s0 s1 s2 s3 s4
        have sf := BW.out.fz
        go_wp2_with fail
        refine (implChange_any d _ y (1 + (u3 : Int)) 3 _ ((holdP_e PD7.out PD.out.2).ext (by repeat (first | exact Ext.refl _ | apply Ext.plus | apply Ext.alloc | apply Ext.drew))) (right_fits PD.out.2)).mono ?_
        rintro e _ ⟨cv9, jv9, fc9, fj9, rfl, ⟨X9, rfl⟩, hO⟩
        rw [HT9.out] at hO ⊢
        obtain ⟨ta, tb, rfl⟩ := hO.1.shape
        obtain ⟨tc, td, rfl⟩ := hO.2.1.shape
        have HO := Lib.hid hO
        clear hO
        unfold poV
        go_wp2_with fail
        go_meet
        have h9 := stored5 (i := jd) (r := r) BW.out HO.out
        exact ⟨t, jd, r, Lib.hid h9.1, Lib.hid (HasP.chg HA7.out h9.2 (one_blk BW.out) (by have := GW.out; simp; omega)), Lib.hid (HasP.chg HB7.out h9.2 (one_blk BW.out) (by have := GW.out; simp; omega)), Lib.hid (HC7.out.past h9.2 (by have := GW.out; simp; omega)), HTL⟩
      case rest =>
        obtain ⟨s', id', q', HW8, HA8, HB8, HC8, HSL8⟩ := hcut
        clear BW P7 HA7 HB7 HC7 HSL HS9 BD7 BX7 PD7 PD YY HG
        obtain ⟨ta, tb, tc, td, bS, hS⟩ := HasO.out HW8.out
        obtain ⟨dc', dd', dj', de', bD, -⟩ := HasP.out HB8.out
        have BS8 := Lib.hid bS
        have PS8 := Lib.hid hS
        have BD8 := Lib.hid bD
        clear bS hS bD
        have s0 := BS8.out.cell 0
        have s1 := BS8.out.cell 1
        have s2 := BS8.out.cell 2
        have s3 := BS8.out.cell 3
        have s4 := BS8.out.cell 4
        have so' := BS8.out.old
        simp only [List.getElem?_cons_zero, List.getElem?_cons_succ] at s0 s1 s2 s3 s4
        go_upto_if 214 with (fail)
        go_cut [] from 202 to 216 (fun wx => ∃ e : Pl, Hid (HasP c wx g1) ∧ Hid (HasP e wx g2) ∧ Hid (Chg [g1, g2] W3 wx) ∧ Hid (Bl bP bQ c e))
        case first =>
          by_cases hq0 : q' = 0
          case neg =>
            have hqb : (q' == 0) = false := by simp [hq0]
            clear hq0
            go_wp2_with fail
            go_meet
            exact ⟨d, HA8, HB8, HC8, Lib.hid HL5.out.1⟩
          have hqb : (q' == 0) = true := by simp [hq0]
          have HN := Lib.hid (HSL8.out hq0)
          clear hq0
          have x0 := BD8.out.cell 0
          have x1 := BD8.out.cell 1
          have x2 := BD8.out.cell 2
          have xo' := BD8.out.old
          simp only [List.getElem?_cons_zero, List.getElem?_cons_succ] at x0 x1 x2
          have xf := BD8.out.fz
          go_wp2_with fail
          go_meet
          have h9 := stored3 BD8.out PS8.out
          exact ⟨s', Lib.hid (HasP.chg HA8.out h9.2 (one_blkP BD8.out) (by have := NE.out; simp; omega)), Lib.hid h9.1, Lib.hid (HC8.out.trans (h9.2.mono (by simp))), HN⟩
        case rest =>
          obtain ⟨e, HA9, HB9, HC9, HL9⟩ := hcut
          clear s0 s1 s2 s3 s4 so' BS8 PS8 BD8 HW8 HA8 HB8 HC8 HSL8 GW
          obtain ⟨va1, va2, va3, va4, bA, hA⟩ := HasP.out HA9.out
          obtain ⟨vb1, vb2, vb3, vb4, bB, hB⟩ := HasP.out HB9.out
          have PA9 := Lib.hid (holdP_e hA HL9.out.ra)
          have PB9 := Lib.hid (holdP_e hB HL9.out.rb)
          have BL9 := BL3.out.chg HC9.out (by have := GB.out; simp; omega)
          have BM9 := BM3.out.chg HC9.out (by have := GB.out; simp; omega)
          have x0 := bA.cell 0
          have x1 := bA.cell 1
          have x2 := bA.cell 2
          have xo' := bA.old
          simp only [List.getElem?_cons_zero, List.getElem?_cons_succ] at x0 x1 x2
          have y0 := bB.cell 0
          have y1 := bB.cell 1
          have y2 := bB.cell 2
          have yo' := bB.old
          simp only [List.getElem?_cons_zero, List.getElem?_cons_succ] at y0 y1 y2
          have p0 := BL9.cell 0
          have p1 := BL9.cell 1
          have po' := BL9.old
          simp only [List.getElem?_cons_zero, List.getElem?_cons_succ] at p0 p1
          have r0 := BM9.cell 0
          have r1 := BM9.cell 1
          have ro' := BM9.old
          simp only [List.getElem?_cons_zero, List.getElem?_cons_succ] at r0 r1
          obtain ⟨s1, s2, v1, v2, v3, v4, hn4⟩ := view_two HL9.out
          have V1 := Lib.hid v1
          have V2 := Lib.hid v2
          have V3 := Lib.hid v3
          have V4 := Lib.hid v4
          clear v1 v2 v3 v4 hA hB bA bB BL9 BM9
          have hv4 : (s1.toList == []) = false := by rw [beq_eq_false_iff_ne]; exact hn4
          have hv5 : decide (s1.toList = []) = false := decide_eq_false hn4
          go_upto_region 37 with fail
          refine wp_region_x 22 (by kernel_rfl) (by kernel_rfl) (by kernel_rfl) ?_
          (apply XReg.step; (case h => (intro w' hw'; obtain ⟨X', rfl⟩ := hw'; go_wp2_with (fail); exact ⟨rfl, (by repeat (first | exact Ext.refl _ | apply Ext.plus | apply Ext.alloc | apply Ext.drew))⟩)); (case hv => kernel_rfl))
          (apply XReg.step; (case h => (intro w' hw'; obtain ⟨X', rfl⟩ := hw'; go_wp2_with (fail); exact ⟨rfl, (by repeat (first | exact Ext.refl _ | apply Ext.plus | apply Ext.alloc | apply Ext.drew))⟩)); (case hv => kernel_rfl))
          (apply XReg.step; (case h => (intro w' hw'; obtain ⟨X', rfl⟩ := hw'; go_wp2_with ((go_at_call 23; refine (implView_any c bMid va1 va2 va3 va4 _ (PA9.out.ext (by repeat (first | exact Ext.refl _ | apply Ext.plus | apply Ext.alloc | apply Ext.drew)))).mono ?_; rintro e _ ⟨rfl, X9, rfl⟩; rw [V1.out])); exact ⟨rfl, (by repeat (first | exact Ext.refl _ | apply Ext.plus | apply Ext.alloc | apply Ext.drew))⟩)); (case hv => kernel_rfl))
          (apply XReg.step; (case h => (intro w' hw'; obtain ⟨X', rfl⟩ := hw'; go_wp2_with (fail); exact ⟨rfl, (by repeat (first | exact Ext.refl _ | apply Ext.plus | apply Ext.alloc | apply Ext.drew))⟩)); (case hv => kernel_rfl))
          (apply XReg.step; (case h => (intro w' hw'; obtain ⟨X', rfl⟩ := hw'; go_wp2_with (fail); exact ⟨rfl, (by repeat (first | exact Ext.refl _ | apply Ext.plus | apply Ext.alloc | apply Ext.drew))⟩)); (case hv => kernel_rfl))
          (apply XReg.step; (case h => (intro w' hw'; obtain ⟨X', rfl⟩ := hw'; go_wp2_with ((go_at_call 23; refine (implView_any e bMid vb1 vb2 vb3 vb4 _ (PB9.out.ext (by repeat (first | exact Ext.refl _ | apply Ext.plus | apply Ext.alloc | apply Ext.drew)))).mono ?_; rintro e _ ⟨rfl, X9, rfl⟩; rw [V2.out])); exact ⟨rfl, (by repeat (first | exact Ext.refl _ | apply Ext.plus | apply Ext.alloc | apply Ext.drew))⟩)); (case hv => kernel_rfl))
          (apply XReg.step; (case h => (intro w' hw'; obtain ⟨X', rfl⟩ := hw'; go_wp2_with (fail); exact ⟨rfl, (by repeat (first | exact Ext.refl _ | apply Ext.plus | apply Ext.alloc | apply Ext.drew))⟩)); (case hv => kernel_rfl))
          (apply XReg.step; (case h => (intro w' hw'; obtain ⟨X', rfl⟩ := hw'; go_wp2_with (fail); exact ⟨rfl, (by repeat (first | exact Ext.refl _ | apply Ext.plus | apply Ext.alloc | apply Ext.drew))⟩)); (case hv => kernel_rfl))
          (apply XReg.step; (case h => (intro w' hw'; obtain ⟨X', rfl⟩ := hw'; go_wp2_with (fail); exact ⟨rfl, (by repeat (first | exact Ext.refl _ | apply Ext.plus | apply Ext.alloc | apply Ext.drew))⟩)); (case hv => kernel_rfl))
          (apply XReg.step; (case h => (intro w' hw'; obtain ⟨X', rfl⟩ := hw'; go_wp2_with (fail); exact ⟨rfl, (by repeat (first | exact Ext.refl _ | apply Ext.plus | apply Ext.alloc | apply Ext.drew))⟩)); (case hv => kernel_rfl))
          (apply XReg.step; (case h => (intro w' hw'; obtain ⟨X', rfl⟩ := hw'; go_wp2_with ((go_at_call 23; refine (implView_any c bMid va1 va2 va3 va4 _ (PA9.out.ext (by repeat (first | exact Ext.refl _ | apply Ext.plus | apply Ext.alloc | apply Ext.drew)))).mono ?_; rintro e _ ⟨rfl, X9, rfl⟩; rw [V1.out])); exact ⟨rfl, (by repeat (first | exact Ext.refl _ | apply Ext.plus | apply Ext.alloc | apply Ext.drew))⟩)); (case hv => kernel_rfl))
          (apply XReg.step; (case h => (intro w' hw'; obtain ⟨X', rfl⟩ := hw'; go_wp2_with (fail); exact ⟨rfl, (by repeat (first | exact Ext.refl _ | apply Ext.plus | apply Ext.alloc | apply Ext.drew))⟩)); (case hv => kernel_rfl))
          (apply XReg.step; (case h => (intro w' hw'; obtain ⟨X', rfl⟩ := hw'; go_wp2_with (fail); exact ⟨rfl, (by repeat (first | exact Ext.refl _ | apply Ext.plus | apply Ext.alloc | apply Ext.drew))⟩)); (case hv => kernel_rfl))
          (apply XReg.step; (case h => (intro w' hw'; obtain ⟨X', rfl⟩ := hw'; go_wp2_with (fail); exact ⟨rfl, (by repeat (first | exact Ext.refl _ | apply Ext.plus | apply Ext.alloc | apply Ext.drew))⟩)); (case hv => kernel_rfl))
          (apply XReg.step; (case h => (intro w' hw'; obtain ⟨X', rfl⟩ := hw'; go_wp2_with (fail); exact ⟨rfl, (by repeat (first | exact Ext.refl _ | apply Ext.plus | apply Ext.alloc | apply Ext.drew))⟩)); (case hv => kernel_rfl))
          (apply XReg.step; (case h => (intro w' hw'; obtain ⟨X', rfl⟩ := hw'; go_wp2_with (fail); exact ⟨rfl, (by repeat (first | exact Ext.refl _ | apply Ext.plus | apply Ext.alloc | apply Ext.drew))⟩)); (case hv => kernel_rfl))
          (apply XReg.step; (case h => (intro w' hw'; obtain ⟨X', rfl⟩ := hw'; go_wp2_with ((go_at_call 23; refine (implView_any c bLow va1 va2 va3 va4 _ (PA9.out.ext (by repeat (first | exact Ext.refl _ | apply Ext.plus | apply Ext.alloc | apply Ext.drew)))).mono ?_; rintro e _ ⟨rfl, X9, rfl⟩; rw [V3.out])); exact ⟨rfl, (by repeat (first | exact Ext.refl _ | apply Ext.plus | apply Ext.alloc | apply Ext.drew))⟩)); (case hv => kernel_rfl))
          (apply XReg.step; (case h => (intro w' hw'; obtain ⟨X', rfl⟩ := hw'; go_wp2_with (fail); exact ⟨rfl, (by repeat (first | exact Ext.refl _ | apply Ext.plus | apply Ext.alloc | apply Ext.drew))⟩)); (case hv => kernel_rfl))
          (apply XReg.step; (case h => (intro w' hw'; obtain ⟨X', rfl⟩ := hw'; go_wp2_with (fail); exact ⟨rfl, (by repeat (first | exact Ext.refl _ | apply Ext.plus | apply Ext.alloc | apply Ext.drew))⟩)); (case hv => kernel_rfl))
          (apply XReg.step; (case h => (intro w' hw'; obtain ⟨X', rfl⟩ := hw'; go_wp2_with ((go_at_call 23; refine (implView_any e bLow vb1 vb2 vb3 vb4 _ (PB9.out.ext (by repeat (first | exact Ext.refl _ | apply Ext.plus | apply Ext.alloc | apply Ext.drew)))).mono ?_; rintro e _ ⟨rfl, X9, rfl⟩; rw [V4.out])); exact ⟨rfl, (by repeat (first | exact Ext.refl _ | apply Ext.plus | apply Ext.alloc | apply Ext.drew))⟩)); (case hv => kernel_rfl))
          (apply XReg.step; (case h => (intro w' hw'; obtain ⟨X', rfl⟩ := hw'; go_wp2_with (fail); exact ⟨rfl, (by repeat (first | exact Ext.refl _ | apply Ext.plus | apply Ext.alloc | apply Ext.drew))⟩)); (case hv => kernel_rfl))
          (apply XReg.step; (case h => (intro w' hw'; obtain ⟨X', rfl⟩ := hw'; go_wp2_with (fail); exact ⟨rfl, (by repeat (first | exact Ext.refl _ | apply Ext.plus | apply Ext.alloc | apply Ext.drew))⟩)); (case hv => kernel_rfl))
          refine XReg.doneN (fun X => ?_)
          go_wp2
          exact ⟨⟨k + 1, c, e, by omega, by go_num, Lib.hid (HC9.out.trans ((Ext.refl _).plus X |>.chg _)), Lib.hid (HasP.ext HA9.out ((Ext.refl _).plus X)), Lib.hid (HasP.ext HB9.out ((Ext.refl _).plus X)), Lib.hid ⟨HL9.out, by have := HL5.out.2; omega⟩⟩, ms24_lt hlt⟩
end Go.Proofs.Ytkhmdhdaldbbhaa
