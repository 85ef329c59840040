/- The laws' mark and held over desks. -/
import Derived.Test.YtkekfncgpbileaaD5
import Derived.Test.YtkekfncgpbileaaE5
set_option maxRecDepth 100000
set_option linter.unusedVariables false
namespace Go.Proofs.Ytkekfncgpbileaa
open Go.RowKit Go.Fin1

def mkDk (k : Nat) (d : Dk) : Dk := ⟨mkLtrs k d.pairs, mkLtrs (k + wL (fun _ : Ltr => 6) d.pairs) d.box, mkLtrs (k + wL (fun _ : Ltr => 6) d.pairs + wL (fun _ : Ltr => 6) d.box) d.audit, d.used, d.now⟩
def wDk (d : Dk) : Nat := wL (fun _ : Ltr => 6) d.pairs + wL (fun _ : Ltr => 6) d.box + wL (fun _ : Ltr => 6) d.audit
theorem wDk_le {d : Dk} (h : d.sz ≤ 1048576) : wDk d ≤ 6 * 1048576 := by
  unfold wDk; rw [wL_const, wL_const, wL_const]; unfold Dk.sz at h; omega

theorem CellsAt.alloc0 (w : World) (cs : List Value) (ty : TypeId) : CellsAt (w.alloc (.cells cs.toArray ty)) w.heap.size cs := fun i u hu => by
  rw [World.cell?_alloc_new]; simpa using hu
theorem not_held {α : Type} {o : Ow α} (ho : Held o) {w : World} {fp : List Nat} {cs : List Value} {x : α} (h : o w fp cs x) : w.heap.size ∉ fp := fun hb => absurd (ho _ _ _ _ h _ hb) (Nat.lt_irrefl _)

set_option maxHeartbeats 1600000 in
theorem markDesk_any (d : Dk) (p b a : Value) (k0 B : Nat) (f1 f2 f3 : List Nat) (w : World) (h : OwnD B w f1 f2 f3 p b a d) (hb : k0 + wDk d ≤ 4611686018427387904) :
    Calls Try.prog 17 #[d.val p b a, (.int .i64 (k0 : Int))] w fun e w' => e = .returned (.int .i64 ((k0 + wDk d : Nat) : Int)) ∧ Chg (f1 ++ f2 ++ f3) w w' ∧ OwnD B w' f1 f2 f3 p b a (mkDk k0 d) := by
  obtain ⟨a1, c1, rfl⟩ := h.p.shape
  obtain ⟨a2, c2, rfl⟩ := h.b.shape
  obtain ⟨a3, c3, rfl⟩ := h.a.shape
  have HS := Lib.hid h
  have HB := Lib.hid hb
  unfold wDk at HB
  have HB0 := Lib.hid (CellsAt.alloc0 w [.slice a1 d.pairs.length c1, .slice a2 d.box.length c2, .slice a3 d.audit.length c3, (.int .i64 d.used), (.int .i64 d.now)] 30)
  have N1 := Lib.hid (not_held oLetterS_held h.p.1)
  have N2 := Lib.hid (not_held oLetterS_held h.b.1)
  clear h hb
  go_enter Try.func17, Try.ntmps17
  unfold Dk.val
  go_wp2_with fail
  refine (markLetterS_any _ d.pairs k0 f1 _ (HS.out.ext (by repeat (first | exact Ext.refl _ | apply Ext.plus | apply Ext.alloc | apply Ext.drew))).p.1 HS.out.p.2.1 (by have := HB.out; omega)).mono ?_
  rintro e w1 ⟨rfl, hx, ho⟩
  have X1 := Lib.hid hx
  have O1 := Lib.hid ho
  have HB1 := Lib.hid (HB0.out.chg hx N1.out)
  have hb1 := HB1.out
  clear hx ho
  have c0 := hb1 0 _ rfl
  have c1 := hb1 1 _ rfl
  have c2 := hb1 2 _ rfl
  have c3 := hb1 3 _ rfl
  have c4 := hb1 4 _ rfl
  have ho1 := World.old_of_cell c0
  clear hb1
  go_wp2_with fail
  refine (markLetterS_any _ d.box (k0 + wL (fun _ : Ltr => 6) d.pairs) f2 _ (oLetterS_local.chg oLetterS_held X1.out (fun x hx hy => HS.out.pb x hy hx) (HS.out.ext (by repeat (first | exact Ext.refl _ | apply Ext.plus | apply Ext.alloc | apply Ext.drew))).b.1) HS.out.b.2.1 (by have := HB.out; omega)).mono ?_
  rintro e w2 ⟨rfl, hx, ho⟩
  have X2 := Lib.hid hx
  have O2 := Lib.hid ho
  have hb2 := HB1.out.chg hx N2.out
  clear hx ho c0 c1 c2 c3 c4 ho1
  have c0 := hb2 0 _ rfl
  have c1 := hb2 1 _ rfl
  have c2 := hb2 2 _ rfl
  have c3 := hb2 3 _ rfl
  have c4 := hb2 4 _ rfl
  have ho2 := World.old_of_cell c0
  clear hb2
  go_wp2_with fail
  refine (markLetterS_any _ d.audit (k0 + wL (fun _ : Ltr => 6) d.pairs + wL (fun _ : Ltr => 6) d.box) f3 _ (oLetterS_local.chg oLetterS_held X2.out (fun x hx hy => HS.out.ba x hy hx) (oLetterS_local.chg oLetterS_held X1.out (fun x hx hy => HS.out.pa x hy hx) (HS.out.ext (by repeat (first | exact Ext.refl _ | apply Ext.plus | apply Ext.alloc | apply Ext.drew))).a.1)) HS.out.a.2.1 (by have := HB.out; omega)).mono ?_
  rintro e w3 ⟨rfl, hx, ho⟩
  have X3 := Lib.hid hx
  have O3 := Lib.hid ho
  clear hx ho
  go_wp2
  go_ret
  refine ⟨ret_int (by unfold wDk; omega), (Ext.chg (by repeat (first | exact Ext.refl _ | apply Ext.plus | apply Ext.alloc | apply Ext.drew)) _).trans (((X1.out.mono (fun b hb => by simp [hb])).trans (X2.out.mono (fun b hb => by simp [hb]))).trans (X3.out.mono (fun b hb => by simp [hb]))), ?_⟩
  refine ⟨⟨?_, HS.out.p.2⟩, ⟨?_, HS.out.b.2⟩, ⟨O3.out, HS.out.a.2⟩, HS.out.pb, HS.out.pa, HS.out.ba⟩
  · exact oLetterS_local.chg oLetterS_held X3.out (fun x hx hy => HS.out.pa x hx hy) (oLetterS_local.chg oLetterS_held X2.out (fun x hx hy => HS.out.pb x hx hy) O1.out)
  · exact oLetterS_local.chg oLetterS_held X3.out (fun x hx hy => HS.out.ba x hx hy) O2.out

set_option maxHeartbeats 1600000 in
theorem heldDesk_any (d : Dk) (p b a : Value) (k0 : Nat) (w : World) (h1 : SlR w 6 (rc Ltr.cells) p (mkLtrs k0 d.pairs)) (h2 : SlR w 6 (rc Ltr.cells) b (mkLtrs (k0 + wL (fun _ : Ltr => 6) d.pairs) d.box)) (h3 : SlR w 6 (rc Ltr.cells) a (mkLtrs (k0 + wL (fun _ : Ltr => 6) d.pairs + wL (fun _ : Ltr => 6) d.box) d.audit)) (hb : k0 + wDk d ≤ 4611686018427387904) :
    Calls Try.prog 72 #[d.val p b a, (.int .i64 (k0 : Int))] w fun e w' => e = .returned (.int .i64 ((k0 + wDk d : Nat) : Int)) ∧ Ext w w' := by
  obtain ⟨a1, c1, rfl⟩ := h1.len
  obtain ⟨a2, c2, rfl⟩ := h2.len
  obtain ⟨a3, c3, rfl⟩ := h3.len
  have H1 := Lib.hid h1
  have H2 := Lib.hid h2
  have H3 := Lib.hid h3
  have HB := Lib.hid hb
  unfold wDk at HB
  clear h1 h2 h3 hb
  go_enter Try.func72, Try.ntmps72
  unfold Dk.val
  go_wp2_with fail
  refine (heldLetterS_any _ d.pairs k0 _ (H1.out.ext (rc_stable _) (by repeat (first | exact Ext.refl _ | apply Ext.plus | apply Ext.alloc | apply Ext.drew))) (by have := HB.out; omega)).mono ?_
  rintro e _ ⟨rfl, ⟨X, rfl⟩⟩
  go_wp2_with fail
  refine (heldLetterS_any _ d.box (k0 + wL (fun _ : Ltr => 6) d.pairs) _ (H2.out.ext (rc_stable _) (by repeat (first | exact Ext.refl _ | apply Ext.plus | apply Ext.alloc | apply Ext.drew))) (by have := HB.out; omega)).mono ?_
  rintro e _ ⟨rfl, ⟨Y, rfl⟩⟩
  go_wp2_with fail
  refine (heldLetterS_any _ d.audit (k0 + wL (fun _ : Ltr => 6) d.pairs + wL (fun _ : Ltr => 6) d.box) _ (H3.out.ext (rc_stable _) (by repeat (first | exact Ext.refl _ | apply Ext.plus | apply Ext.alloc | apply Ext.drew))) (by have := HB.out; omega)).mono ?_
  rintro e _ ⟨rfl, ⟨Z, rfl⟩⟩
  go_wp2
  go_ret
  exact ⟨ret_int (by unfold wDk; omega), (by repeat (first | exact Ext.refl _ | apply Ext.plus | apply Ext.alloc | apply Ext.drew))⟩
end Go.Proofs.Ytkekfncgpbileaa
