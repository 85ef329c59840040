/- Desks: how one reads; the laws' own helpers over desks. -/
import Derived.Test.YtkekfncgpbileaaD2
set_option maxRecDepth 100000
set_option linter.unusedVariables false
namespace Go.Proofs.Ytkekfncgpbileaa
open Go.ChangeShapes Go.WideShapes Go.ChangeAt Go.RowKit Go.Fin1

/-- A desk. -/
structure Dk where
  pairs : List Ltr
  box : List Ltr
  audit : List Ltr
  used : Int
  now : Int
def Dk.val (d : Dk) (p b a : Value) : Value := .agg #[p, b, a, (.int .i64 d.used), (.int .i64 d.now)]
abbrev rLtrS : World → Value → List Ltr → Prop := fun w v l => SlR w 6 rLtr v l
/-- A value that is a desk. -/
def eDesk (w : World) (v : Value) (d : Dk) : Prop := ∃ a1 c1 a2 c2 a3 c3, v = d.val (.slice a1 d.pairs.length c1) (.slice a2 d.box.length c2) (.slice a3 d.audit.length c3) ∧ I64 d.used ∧ I64 d.now ∧ SlR w 6 rLtr (.slice a1 d.pairs.length c1) d.pairs ∧ SlR w 6 rLtr (.slice a2 d.box.length c2) d.box ∧ SlR w 6 rLtr (.slice a3 d.audit.length c3) d.audit
theorem eDesk.ext {w w' : World} {v : Value} {d : Dk} (h : eDesk w v d) (hx : Ext w w') : eDesk w' v d := by
  obtain ⟨a1, c1, a2, c2, a3, c3, hv, h0, h1, h2, h3, h4⟩ := h
  exact ⟨a1, c1, a2, c2, a3, c3, hv, h0, h1, h2.ext rLtr_stable hx, h3.ext rLtr_stable hx, h4.ext rLtr_stable hx⟩

section
variable {H : Type} {enc : TypeId × Value → H} {w : World} {base : Nat} {spare : Nat → Bool} {held : Bool} {fuel : Nat} {cs : List Value} {x : DataW H × List MemPlace}
theorem len5d {α : Type} {l : List α} (h : l.length = 5) : ∃ a b c d e, l = [a, b, c, d, e] := by match l, h with | [a, b, c, d, e], _ => exact ⟨a, b, c, d, e, rfl⟩
theorem b_desk (h : DataW.trod enc Try.prog w base spare held fuel 24 cs = some x) : ∃ d : Dk, ∃ p b a, cs = [p, b, a, (.int .i64 d.used), (.int .i64 d.now)] ∧ I64 d.used ∧ I64 d.now ∧ SlR w 6 rLtr p d.pairs ∧ SlR w 6 rLtr b d.box ∧ SlR w 6 rLtr a d.audit := by
  obtain ⟨xs, n, _, _, hl, hx, hf⟩ := DataW.trod_struct Try.underlying24 h
  obtain ⟨c0, c1, c2, c3, c4, rfl⟩ := len5d (hl.trans (by kernel_rfl))
  obtain ⟨y0, y1, y2, y3, y4, rfl⟩ := len5d hx
  obtain ⟨v0, a0, h0, i0⟩ := b_ltrs (hf 0 _ rfl)
  obtain ⟨v1, a1, h1, i1⟩ := b_ltrs (hf 1 _ rfl)
  obtain ⟨v2, a2, h2, i2⟩ := b_ltrs (hf 2 _ rfl)
  obtain ⟨a3, h3, i3⟩ := b_int (hf 3 _ rfl)
  obtain ⟨a4, h4, i4⟩ := b_int (hf 4 _ rfl)
  have e : Try.prog.cellsOf 2 = 1 := by kernel_rfl
  have e' : Try.prog.cellsOf 22 = 1 := by kernel_rfl
  simp [e, e'] at h0 h1 h2 h3 h4
  exact ⟨⟨a0, a1, a2, a3, a4⟩, v0, v1, v2, by simp [h0, h1, h2, h3, h4], i3, i4, i0, i1, i2⟩
end
section
variable {H : Type} {enc : TypeId × Value → H} {w : World} {base : Nat} {spare : Nat → Bool} {held : Bool} {r : Reach} {b0 : Nat} {v : Value} {d : DataW H} {ps : List MemPlace}
theorem open_desk (hv : Value.okWide Try.prog w r b0 24 v) (h : DataW.Trod enc Try.prog w base spare held 24 v d ps) : ∃ a : Arg Dk, v = a.v ∧ eDesk w a.v a.x := by
  obtain ⟨cs, rfl, _⟩ := okWide_struct Try.underlying24 hv
  obtain ⟨m, hm⟩ := h
  obtain ⟨k, p, b, a, ha, h3, h4, h0, h1, h2⟩ := b_desk hm
  obtain ⟨a1, c1, rfl⟩ := h0.len
  obtain ⟨a2, c2, rfl⟩ := h1.len
  obtain ⟨a3, c3, rfl⟩ := h2.len
  exact ⟨⟨_, k⟩, rfl, a1, c1, a2, c2, a3, c3, agg_of_list ha, h3, h4, h0, h1, h2⟩
end

/-- How much a desk takes of the laws' bound. -/
def Dk.sz (d : Dk) : Nat := d.pairs.length + d.box.length + d.audit.length

set_option maxHeartbeats 800000 in
theorem szDesk_any (d : Dk) (v : Value) (n : Nat) (w : World) (h : eDesk w v d) (hn : n ≤ 1048576) :
    Calls Try.prog 10 #[v, (.int .i64 n)] w fun e w' => e = .returned (.int .i64 (if d.sz ≤ n then ((n - d.sz : Nat) : Int) else -1)) ∧ Ext w w' := by
  obtain ⟨a1, c1, a2, c2, a3, c3, rfl, _, _, h1, h2, h3⟩ := h
  have H1 := Lib.hid h1
  have H2 := Lib.hid h2
  have H3 := Lib.hid h3
  clear h1 h2 h3
  generalize hG : (if d.sz ≤ n then ((n - d.sz : Nat) : Int) else -1) = G
  have HG := Lib.hid hG
  clear hG
  by_cases hp : d.pairs.length ≤ n
  · have t1 : decide (((n - d.pairs.length : Nat) : Int) < 0) = false := decide_eq_false (by omega)
    by_cases hb : d.box.length ≤ n - d.pairs.length
    · have t2 : decide (((n - d.pairs.length - d.box.length : Nat) : Int) < 0) = false := decide_eq_false (by omega)
      by_cases ha : d.audit.length ≤ n - d.pairs.length - d.box.length
      · have t3 : decide (((n - d.pairs.length - d.box.length - d.audit.length : Nat) : Int) < 0) = false := decide_eq_false (by omega)
        go_enter Try.func10, Try.ntmps10
        unfold Dk.val
        go_wp2_with fail
        refine (szLetterS_any _ d.pairs n _ (H1.out.ext rLtr_stable (by repeat (first | exact Ext.refl _ | apply Ext.plus | apply Ext.alloc | apply Ext.drew))) hn).mono ?_
        rintro e _ ⟨rfl, rfl⟩
        rw [if_pos hp]
        go_wp2_with fail
        refine (szLetterS_any _ d.box _ _ (H2.out.ext rLtr_stable (by repeat (first | exact Ext.refl _ | apply Ext.plus | apply Ext.alloc | apply Ext.drew))) (by omega)).mono ?_
        rintro e _ ⟨rfl, rfl⟩
        rw [if_pos hb]
        go_wp2_with fail
        refine (szLetterS_any _ d.audit _ _ (H3.out.ext rLtr_stable (by repeat (first | exact Ext.refl _ | apply Ext.plus | apply Ext.alloc | apply Ext.drew))) (by omega)).mono ?_
        rintro e _ ⟨rfl, rfl⟩
        rw [if_pos ha]
        go_wp2
        go_ret
        exact ⟨ret_int (by rw [← HG.out, if_pos (by unfold Dk.sz; omega)]; unfold Dk.sz; omega), (by repeat (first | exact Ext.refl _ | apply Ext.plus | apply Ext.alloc | apply Ext.drew))⟩
      · go_enter Try.func10, Try.ntmps10
        unfold Dk.val
        go_wp2_with fail
        refine (szLetterS_any _ d.pairs n _ (H1.out.ext rLtr_stable (by repeat (first | exact Ext.refl _ | apply Ext.plus | apply Ext.alloc | apply Ext.drew))) hn).mono ?_
        rintro e _ ⟨rfl, rfl⟩
        rw [if_pos hp]
        go_wp2_with fail
        refine (szLetterS_any _ d.box _ _ (H2.out.ext rLtr_stable (by repeat (first | exact Ext.refl _ | apply Ext.plus | apply Ext.alloc | apply Ext.drew))) (by omega)).mono ?_
        rintro e _ ⟨rfl, rfl⟩
        rw [if_pos hb]
        go_wp2_with fail
        refine (szLetterS_any _ d.audit _ _ (H3.out.ext rLtr_stable (by repeat (first | exact Ext.refl _ | apply Ext.plus | apply Ext.alloc | apply Ext.drew))) (by omega)).mono ?_
        rintro e _ ⟨rfl, rfl⟩
        rw [if_neg ha]
        go_wp2
        go_ret
        exact ⟨ret_int (by rw [← HG.out, if_neg (by unfold Dk.sz; omega)]), (by repeat (first | exact Ext.refl _ | apply Ext.plus | apply Ext.alloc | apply Ext.drew))⟩
    · go_enter Try.func10, Try.ntmps10
      unfold Dk.val
      go_wp2_with fail
      refine (szLetterS_any _ d.pairs n _ (H1.out.ext rLtr_stable (by repeat (first | exact Ext.refl _ | apply Ext.plus | apply Ext.alloc | apply Ext.drew))) hn).mono ?_
      rintro e _ ⟨rfl, rfl⟩
      rw [if_pos hp]
      go_wp2_with fail
      refine (szLetterS_any _ d.box _ _ (H2.out.ext rLtr_stable (by repeat (first | exact Ext.refl _ | apply Ext.plus | apply Ext.alloc | apply Ext.drew))) (by omega)).mono ?_
      rintro e _ ⟨rfl, rfl⟩
      rw [if_neg hb]
      go_wp2
      go_ret
      exact ⟨ret_int (by rw [← HG.out, if_neg (by unfold Dk.sz; omega)]), (by repeat (first | exact Ext.refl _ | apply Ext.plus | apply Ext.alloc | apply Ext.drew))⟩
  · go_enter Try.func10, Try.ntmps10
    unfold Dk.val
    go_wp2_with fail
    refine (szLetterS_any _ d.pairs n _ (H1.out.ext rLtr_stable (by repeat (first | exact Ext.refl _ | apply Ext.plus | apply Ext.alloc | apply Ext.drew))) hn).mono ?_
    rintro e _ ⟨rfl, rfl⟩
    rw [if_neg hp]
    go_wp2
    go_ret
    exact ⟨ret_int (by rw [← HG.out, if_neg (by unfold Dk.sz; omega)]), (by repeat (first | exact Ext.refl _ | apply Ext.plus | apply Ext.alloc | apply Ext.drew))⟩

theorem oLetterS_local : Local oLetterS := oSl_local (oFlat_local _)
theorem oLetterS_held : Held oLetterS := oSl_held (oFlat_held _)
/-- The owner of a desk's three lists. -/
structure OwnD (B : Nat) (w : World) (f1 f2 f3 : List Nat) (p b a : Value) (d : Dk) : Prop where
  p : Own B w oLetterS f1 [p] d.pairs
  b : Own B w oLetterS f2 [b] d.box
  a : Own B w oLetterS f3 [a] d.audit
  pb : ∀ x ∈ f1, x ∉ f2
  pa : ∀ x ∈ f1, x ∉ f3
  ba : ∀ x ∈ f2, x ∉ f3
theorem OwnD.ext {B : Nat} {w w' : World} {f1 f2 f3 : List Nat} {p b a : Value} {d : Dk} (h : OwnD B w f1 f2 f3 p b a d) (hx : Ext w w') : OwnD B w' f1 f2 f3 p b a d :=
  ⟨h.p.ext oLetterS_local oLetterS_held hx, h.b.ext oLetterS_local oLetterS_held hx, h.a.ext oLetterS_local oLetterS_held hx, h.pb, h.pa, h.ba⟩
/-- What lies apart from the blocks that turned. -/
theorem OwnD.chg {B : Nat} {w w' : World} {S f1 f2 f3 : List Nat} {p b a : Value} {d : Dk} (h : OwnD B w f1 f2 f3 p b a d) (hx : Chg S w w') (hd : ∀ x ∈ S, x < B) : OwnD B w' f1 f2 f3 p b a d :=
  ⟨h.p.chg oLetterS_local oLetterS_held hx hd, h.b.chg oLetterS_local oLetterS_held hx hd, h.a.chg oLetterS_local oLetterS_held hx hd, h.pb, h.pa, h.ba⟩
theorem OwnD.e {B : Nat} {w : World} {f1 f2 f3 : List Nat} {p b a : Value} {d : Dk} (h : OwnD B w f1 f2 f3 p b a d) (h0 : I64 d.used) (h1 : I64 d.now) (hp : ∀ x ∈ d.pairs, x.ok) (hb : ∀ x ∈ d.box, x.ok) (ha : ∀ x ∈ d.audit, x.ok) : eDesk w (d.val p b a) d := by
  obtain ⟨a1, c1, rfl⟩ := h.p.shape
  obtain ⟨a2, c2, rfl⟩ := h.b.shape
  obtain ⟨a3, c3, rfl⟩ := h.a.shape
  exact ⟨a1, c1, a2, c2, a3, c3, rfl, h0, h1, oLetterS_r h.p.1 hp, oLetterS_r h.b.1 hb, oLetterS_r h.a.1 ha⟩

set_option maxHeartbeats 1600000 in
theorem toDesk_any (d : Dk) (v : Value) (w : World) (h : eDesk w v d) (hf : d.sz ≤ 1048576) :
    Calls Try.prog 12 #[v] w fun e w' => ∃ p b a f1 f2 f3, e = .returned (d.val p b a) ∧ Ext w w' ∧ OwnD w.heap.size w' f1 f2 f3 p b a d := by
  obtain ⟨a1, c1, a2, c2, a3, c3, rfl, _, _, h1, h2, h3⟩ := h
  have H1 := Lib.hid h1
  have H2 := Lib.hid h2
  have H3 := Lib.hid h3
  unfold Dk.sz at hf
  clear h1 h2 h3
  go_enter Try.func12, Try.ntmps12
  unfold Dk.val
  go_wp2_with fail
  refine (toLetterS_any _ d.pairs _ (H1.out.ext rLtr_stable (by repeat (first | exact Ext.refl _ | apply Ext.plus | apply Ext.alloc | apply Ext.drew))) (by omega)).mono ?_
  rintro e _ ⟨v1, f1, rfl, ⟨X, rfl⟩, hO⟩
  obtain ⟨b1, e1, rfl⟩ := hO.shape
  have O1 := Lib.hid hO
  have B1 := Lib.hid (oLetterS_held _ _ _ _ hO.1)
  clear hO
  go_wp2_with fail
  refine (toLetterS_any _ d.box _ (H2.out.ext rLtr_stable (by repeat (first | exact Ext.refl _ | apply Ext.plus | apply Ext.alloc | apply Ext.drew))) (by omega)).mono ?_
  rintro e _ ⟨v2, f2, rfl, ⟨Y, rfl⟩, hO⟩
  obtain ⟨b2, e2, rfl⟩ := hO.shape
  have O2 := Lib.hid hO
  have B2 := Lib.hid (oLetterS_held _ _ _ _ hO.1)
  clear hO
  go_wp2_with fail
  refine (toLetterS_any _ d.audit _ (H3.out.ext rLtr_stable (by repeat (first | exact Ext.refl _ | apply Ext.plus | apply Ext.alloc | apply Ext.drew))) (by omega)).mono ?_
  rintro e _ ⟨v3, f3, rfl, ⟨Z, rfl⟩, hO⟩
  obtain ⟨b3, e3, rfl⟩ := hO.shape
  have O3 := Lib.hid hO
  clear hO
  go_wp2
  refine bodyPost_ret (v := .agg #[.slice b1 d.pairs.length e1, .slice b2 d.box.length e2, .slice b3 d.audit.length e3, (.int .i64 d.used), (.int .i64 d.now)]) (by simp [results, Try.results12, go_sem]) rfl ⟨_, _, _, f1, f2, f3, rfl, (by repeat' (first | exact Ext.refl _ | exact Nat.le_refl _ | (dsimp only; omega) | apply Ext.setCell | apply Ext.plus | apply Ext.alloc | apply Ext.drew)), ?_, ?_, ?_, ?_, ?_, ?_⟩
  · exact (((O1.out.swap (X := X) oLetterS_local (Nat.le_refl _) (by simp)).plus oLetterS_local oLetterS_held Y).plus oLetterS_local oLetterS_held Z).mono (by simp; omega)
  · exact ((O2.out.swap (X := Y) oLetterS_local (by simp) (by simp)).plus oLetterS_local oLetterS_held Z).mono (by simp; omega)
  · exact (O3.out.swap (X := Z) oLetterS_local (by simp) (by simp)).mono (by simp; omega)
  · intro x hx hy
    have q1 := B1.out x hx
    have q2 := O2.out.2.2 x hy
    simp at q1 q2
    omega
  · intro x hx hy
    have q1 := B1.out x hx
    have q2 := O3.out.2.2 x hy
    simp at q1 q2
    omega
  · intro x hx hy
    have q1 := B2.out x hx
    have q2 := O3.out.2.2 x hy
    simp at q1 q2
    omega

set_option maxHeartbeats 1600000 in
theorem eqDesk_self (d : Dk) (v v' : Value) (w : World) (h : eDesk w v d) (h' : eDesk w v' d) :
    Calls Try.prog 16 #[v, v'] w fun e w' => e = .returned (.bool true) ∧ Ext w w' := by
  obtain ⟨a1, c1, a2, c2, a3, c3, rfl, _, _, h1, h2, h3⟩ := h
  obtain ⟨b1, e1, b2, e2, b3, e3, rfl, _, _, h1', h2', h3'⟩ := h'
  have H1 := Lib.hid h1
  have H2 := Lib.hid h2
  have H3 := Lib.hid h3
  have H1' := Lib.hid h1'
  have H2' := Lib.hid h2'
  have H3' := Lib.hid h3'
  clear h1 h2 h3 h1' h2' h3'
  go_enter Try.func16, Try.ntmps16
  unfold Dk.val
  go_wp2_with fail
  refine (eqLetterS_self _ _ d.pairs _ (H1.out.ext rLtr_stable (by repeat (first | exact Ext.refl _ | apply Ext.plus | apply Ext.alloc | apply Ext.drew))) (H1'.out.ext rLtr_stable (by repeat (first | exact Ext.refl _ | apply Ext.plus | apply Ext.alloc | apply Ext.drew)))).mono ?_
  rintro e _ ⟨rfl, ⟨X, rfl⟩⟩
  go_wp2_with fail
  refine (eqLetterS_self _ _ d.box _ (H2.out.ext rLtr_stable (by repeat (first | exact Ext.refl _ | apply Ext.plus | apply Ext.alloc | apply Ext.drew))) (H2'.out.ext rLtr_stable (by repeat (first | exact Ext.refl _ | apply Ext.plus | apply Ext.alloc | apply Ext.drew)))).mono ?_
  rintro e _ ⟨rfl, ⟨Y, rfl⟩⟩
  go_wp2_with fail
  refine (eqLetterS_self _ _ d.audit _ (H3.out.ext rLtr_stable (by repeat (first | exact Ext.refl _ | apply Ext.plus | apply Ext.alloc | apply Ext.drew))) (H3'.out.ext rLtr_stable (by repeat (first | exact Ext.refl _ | apply Ext.plus | apply Ext.alloc | apply Ext.drew)))).mono ?_
  rintro e _ ⟨rfl, ⟨Z, rfl⟩⟩
  go_wp2
  go_ret
  exact ⟨rfl, (by repeat (first | exact Ext.refl _ | apply Ext.plus | apply Ext.alloc | apply Ext.drew))⟩
end Go.Proofs.Ytkekfncgpbileaa
