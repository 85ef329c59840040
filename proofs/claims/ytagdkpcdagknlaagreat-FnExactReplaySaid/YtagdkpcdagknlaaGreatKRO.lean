/- ReplayOut: equal, marked, held. -/
import Derived.Test.YtagdkpcdagknlaaGreatKZZ9
set_option maxRecDepth 100000
set_option linter.unusedVariables false
namespace Go.Proofs.YtagdkpcdagknlaaGreat
open Go.RowKit Go.Fin1
set_option maxHeartbeats 800000 in
theorem eqReplayOut_self (p : Pl) (id c : Int) (cv jv cv' jv' : Value) (w : World) (h : ePool w (p.val cv jv) p) (h' : ePool w (p.val cv' jv') p) :
    Calls Tryz.prog 60 #[poV p id c cv jv, poV p id c cv' jv'] w fun e w' => e = .returned (.bool true) ∧ Ext w w' := by
  have HS := Lib.hid h
  have HS' := Lib.hid h'
  clear h h'
  unfold poV
  unfold Pl.val at HS HS'
  go_enter Tryz.func60, Tryz.ntmps60
  go_wp2_with fail
  refine (eqPool_self p _ _ _ (HS.out.ext (by repeat (first | exact Ext.refl _ | apply Ext.plus | apply Ext.alloc | apply Ext.drew))) (HS'.out.ext (by repeat (first | exact Ext.refl _ | apply Ext.plus | apply Ext.alloc | apply Ext.drew)))).mono ?_
  rintro e _ ⟨rfl, X, rfl⟩
  go_wp2
  go_ret
  exact ⟨rfl, (by repeat (first | exact Ext.refl _ | apply Ext.plus | apply Ext.alloc | apply Ext.drew))⟩

set_option maxHeartbeats 800000 in
theorem markReplayOut_any (p : Pl) (id c : Int) (cv jv : Value) (k0 B : Nat) (fc fj : List Nat) (w : World) (h : OwnP B w fc fj cv jv p) (hb : k0 + wPl p ≤ 4611686018427387904) :
    Calls Tryz.prog 63 #[poV p id c cv jv, (.int .i64 (k0 : Int))] w fun e w' => e = .returned (.int .i64 ((k0 + wPl p : Nat) : Int)) ∧ Chg (fc ++ fj) w w' ∧ OwnP B w' fc fj cv jv (mkPl k0 p) := by
  have HS := Lib.hid h
  obtain ⟨a1, c1, rfl⟩ := h.1.shape
  obtain ⟨a2, c2, rfl⟩ := h.2.1.shape
  clear h
  unfold poV
  go_enter Tryz.func63, Tryz.ntmps63
  go_wp2_with fail
  refine (markPool_any p _ _ k0 B fc fj _ (HS.out.ext (by repeat (first | exact Ext.refl _ | apply Ext.plus | apply Ext.alloc | apply Ext.drew))) hb).mono ?_
  rintro e w2 ⟨rfl, hx, ho⟩
  have HX := Lib.hid hx
  have HO := Lib.hid ho
  clear hx ho
  go_wp2
  go_ret
  exact ⟨rfl, (Ext.chg (by repeat (first | exact Ext.refl _ | apply Ext.plus | apply Ext.alloc | apply Ext.drew)) _).trans HX.out, HO.out⟩

set_option maxHeartbeats 800000 in
theorem heldReplayOut_any (p : Pl) (id c : Int) (cv jv : Value) (k0 : Nat) (w : World) (h1 : SlR w 1 (rSl 2 (rc Lab.cells)) cv (mkPl k0 p).clear) (h2 : SlR w 9 rJm jv (mkPl k0 p).jobs) (hb : k0 + wPl p ≤ 4611686018427387904) :
    Calls Tryz.prog 64 #[poV p id c cv jv, (.int .i64 (k0 : Int))] w fun e w' => e = .returned (.int .i64 ((k0 + wPl p : Nat) : Int)) ∧ Ext w w' := by
  obtain ⟨a1, c1, rfl⟩ := h1.len
  obtain ⟨a2, c2, rfl⟩ := h2.len
  have H1 := Lib.hid h1
  have H2 := Lib.hid h2
  clear h1 h2
  unfold poV
  go_enter Tryz.func64, Tryz.ntmps64
  go_wp2_with fail
  refine (heldPool_any p _ _ k0 _ (H1.out.ext (rSl_stable (rc_stable _)) (by repeat (first | exact Ext.refl _ | apply Ext.plus | apply Ext.alloc | apply Ext.drew))) (H2.out.ext rJm_stable (by repeat (first | exact Ext.refl _ | apply Ext.plus | apply Ext.alloc | apply Ext.drew))) hb).mono ?_
  rintro e _ ⟨rfl, ⟨X, rfl⟩⟩
  have hn1 : decide (((k0 + wPl p : Nat) : Int) < 0) = false := decide_eq_false (by omega)
  go_wp2
  go_ret
  exact ⟨rfl, (by repeat (first | exact Ext.refl _ | apply Ext.plus | apply Ext.alloc | apply Ext.drew))⟩
end Go.Proofs.YtagdkpcdagknlaaGreat
