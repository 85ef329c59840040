/- The walks of NextTime; the laws' helpers over its answers. -/
import Derived.Test.YtkekfncgpbileaaD16
set_option maxRecDepth 100000
set_option linter.unusedVariables false
namespace Go.Proofs.Ytkekfncgpbileaa
open Go.RowKit Go.Fin1

def zD : Dk := ⟨[], [], [], 0, 0⟩
/-- A desk and a code. -/
def stV (d : Dk) (c : Int) (p b a : Value) : Value := .agg #[p, b, a, (.int .i64 d.used), (.int .i64 d.now), (.int .i64 c)]
def nextD (d : Dk) : Dk := ⟨d.pairs, [], d.audit, 0, d.now + 1⟩
@[irreducible] def nextR (d : Dk) : Dk × Int := if boxR d = true then (if d.now = 999900 then (zD, 9) else (nextD d, 0)) else (zD, 1)
theorem nextR_no {d : Dk} (h : boxR d = false) : nextR d = (zD, 1) := by unfold nextR; rw [h]; rfl
theorem nextR_full {d : Dk} (h : boxR d = true) (hn : d.now = 999900) : nextR d = (zD, 9) := by unfold nextR; rw [if_pos h, if_pos hn]
theorem nextR_yes {d : Dk} (h : boxR d = true) (hn : ¬ d.now = 999900) : nextR d = (nextD d, 0) := by unfold nextR; rw [if_pos h, if_neg hn]
theorem own_nilT (B : Nat) (w : World) : Own B w oLetterS [] [.slice none 0 0] [] := ⟨⟨_, rfl, .inl ⟨rfl, rfl, rfl⟩⟩, List.nodup_nil, fun b hb => by cases hb⟩
theorem OwnD.zero (B : Nat) (w : World) : OwnD B w [] [] [] (.slice none 0 0) (.slice none 0 0) (.slice none 0 0) zD :=
  ⟨own_nilT B w, own_nilT B w, own_nilT B w, (fun x hx => by cases hx), (fun x hx => by cases hx), (fun x hx => by cases hx)⟩
theorem OwnD.swap {B : Nat} {A A' : World} {X : More} {f1 f2 f3 : List Nat} {p b a : Value} {d : Dk} (h : OwnD B (A.plus X) f1 f2 f3 p b a d) (hb : A.heap.size ≤ B) (hs : A'.heap.size = A.heap.size) : OwnD B (A'.plus X) f1 f2 f3 p b a d :=
  ⟨h.p.swap oLetterS_local hb hs, h.b.swap oLetterS_local hb hs, h.a.swap oLetterS_local hb hs, h.pb, h.pa, h.ba⟩
theorem OwnD.mono {B B' : Nat} {w : World} {f1 f2 f3 : List Nat} {p b a : Value} {d : Dk} (h : OwnD B w f1 f2 f3 p b a d) (hb : B' ≤ B) : OwnD B' w f1 f2 f3 p b a d :=
  ⟨h.p.mono hb, h.b.mono hb, h.a.mono hb, h.pb, h.pa, h.ba⟩
theorem OwnD.next {B : Nat} {w : World} {f1 f2 f3 : List Nat} {p b a : Value} {d : Dk} (h : OwnD B w f1 f2 f3 p b a d) : OwnD B w f1 [] f3 p (.slice none 0 0) a (nextD d) :=
  ⟨h.p, own_nilT B w, h.a, (fun _ _ hx => by cases hx), h.pa, (fun _ hx => by cases hx)⟩


set_option maxHeartbeats 800000 in
theorem implNextTime_any (d : Dk) (v : Value) (w : World) (h : eDesk w v d) (hf : d.sz ≤ 1048576) :
    Calls Try.prog 38 #[v] w fun e w' => ∃ p b a f1 f2 f3, e = .returned (stV (nextR d).1 (nextR d).2 p b a) ∧ Ext w w' ∧ OwnD w.heap.size w' f1 f2 f3 p b a (nextR d).1 := by
  have HD := Lib.hid h
  obtain ⟨a1, c1, a2, c2, a3, c3, rfl, z1, z2, h1, h2, h3⟩ := h
  clear h1 h2 h3 z1
  unfold Dk.val at HD ⊢
  cases q1 : boxR d
  · rw [nextR_no q1]
    go_enter Try.func38, Try.ntmps38
    go_wp2_with (go_at_call 44; refine (implBoxRight_any d _ _ (HD.out.ext (by repeat (first | exact Ext.refl _ | apply Ext.plus | apply Ext.alloc | apply Ext.drew)))).mono ?_; rintro e _ ⟨rfl, X, rfl⟩)
    exact bodyPost_ret (v := .agg #[.slice none 0 0, .slice none 0 0, .slice none 0 0, (.int .i64 0), (.int .i64 0), (.int .i64 1)]) (by simp [results, Try.results38, go_sem]) rfl ⟨_, _, _, [], [], [], rfl, (by repeat' (first | (with_reducible exact Ext.refl _) | (with_reducible refine Ext.plus ?_ _) | (with_reducible refine Ext.alloc ?_ _) | (with_reducible refine Ext.setCell ?_ ?_ _) | (with_reducible refine Ext.drew ?_) | (with_reducible exact Nat.le_refl _) | (dsimp only; omega))), OwnD.zero _ _⟩
  · have hnow := isIn_iff.1 (boxR_at q1).2.1
    cases q2 : (d.now == 999900)
    · rw [nextR_yes q1 (by simpa using q2)]
      have hne : ¬ d.now = 999900 := by simpa using q2
      go_enter Try.func38, Try.ntmps38
      go_wp2_with (go_at_call 44; refine (implBoxRight_any d _ _ (HD.out.ext (by repeat (first | exact Ext.refl _ | apply Ext.plus | apply Ext.alloc | apply Ext.drew)))).mono ?_; rintro e _ ⟨rfl, X, rfl⟩)
      refine (copyDesk_any d _ _ (HD.out.ext (by repeat (first | exact Ext.refl _ | apply Ext.plus | apply Ext.alloc | apply Ext.drew))) hf).mono ?_
      rintro e _ ⟨p, b, a, f1, f2, f3, rfl, ⟨Y, rfl⟩, hO⟩
      have HO := Lib.hid hO
      obtain ⟨b1, e1, rfl⟩ := hO.p.shape
      obtain ⟨b2, e2, rfl⟩ := hO.b.shape
      obtain ⟨b3, e3, rfl⟩ := hO.a.shape
      clear hO
      unfold Dk.val
      go_wp2
      refine bodyPost_ret (v := .agg #[.slice b1 d.pairs.length e1, .slice none 0 0, .slice b3 d.audit.length e3, (.int .i64 0), (.int .i64 (d.now + 1)), (.int .i64 0)]) (by simp [results, Try.results38, go_sem]) rfl ⟨.slice b1 d.pairs.length e1, _, .slice b3 d.audit.length e3, f1, [], f3, rfl, (by repeat' (first | (with_reducible exact Ext.refl _) | (with_reducible refine Ext.plus ?_ _) | (with_reducible refine Ext.alloc ?_ _) | (with_reducible refine Ext.setCell ?_ ?_ _) | (with_reducible refine Ext.drew ?_) | (with_reducible exact Nat.le_refl _) | (dsimp only; omega))), ?_⟩
      have h1 : OwnD _ (((((w.alloc (.cells #[.slice a1 d.pairs.length c1, .slice a2 d.box.length c2, .slice a3 d.audit.length c3, (.int .i64 d.used), (.int .i64 d.now)] 30)).alloc (.cells #[.slice none 0 0, .slice none 0 0, .slice none 0 0, (.int .i64 0), (.int .i64 0), (.int .i64 0)] 32)).plus X).plus Y).alloc (.cells #[.slice b1 d.pairs.length e1, .slice none 0 0, .slice b3 d.audit.length e3, (.int .i64 0), (.int .i64 (d.now + 1))] 30)) f1 f2 f3 _ _ _ d := HO.out.ext (Ext.alloc (Ext.refl _) _)
      have h2 := h1.mono (B' := w.heap.size + 1 + 1) (by simp)
      exact ((h2.chg (S := [w.heap.size + 1]) (((((((Chg.refl _ _).setCell (.inl (by simp)) _).setCell (.inl (by simp)) _).setCell (.inl (by simp)) _).setCell (.inl (by simp)) _).setCell (.inl (by simp)) _).setCell (.inl (by simp)) _) (fun x hx => by simp at hx; omega)).next).mono (by omega)
    · rw [nextR_full q1 (by simpa using q2)]
      go_enter Try.func38, Try.ntmps38
      go_wp2_with (go_at_call 44; refine (implBoxRight_any d _ _ (HD.out.ext (by repeat (first | exact Ext.refl _ | apply Ext.plus | apply Ext.alloc | apply Ext.drew)))).mono ?_; rintro e _ ⟨rfl, X, rfl⟩)
      exact bodyPost_ret (v := .agg #[.slice none 0 0, .slice none 0 0, .slice none 0 0, (.int .i64 0), (.int .i64 0), (.int .i64 9)]) (by simp [results, Try.results38, go_sem]) rfl ⟨_, _, _, [], [], [], rfl, (by repeat' (first | (with_reducible exact Ext.refl _) | (with_reducible refine Ext.plus ?_ _) | (with_reducible refine Ext.alloc ?_ _) | (with_reducible refine Ext.setCell ?_ ?_ _) | (with_reducible refine Ext.drew ?_) | (with_reducible exact Nat.le_refl _) | (dsimp only; omega))), OwnD.zero _ _⟩

theorem own_eDesk {B : Nat} {w : World} {f1 f2 f3 : List Nat} {p b a : Value} {d : Dk} (o1 : Own B w oLetterS f1 [p] d.pairs) (o2 : Own B w oLetterS f2 [b] d.box) (o3 : Own B w oLetterS f3 [a] d.audit) (h0 : I64 d.used) (h1 : I64 d.now) (hp : ∀ x ∈ d.pairs, x.ok) (hb : ∀ x ∈ d.box, x.ok) (ha : ∀ x ∈ d.audit, x.ok) : eDesk w (d.val p b a) d := by
  obtain ⟨a1, c1, rfl⟩ := o1.shape
  obtain ⟨a2, c2, rfl⟩ := o2.shape
  obtain ⟨a3, c3, rfl⟩ := o3.shape
  exact ⟨a1, c1, a2, c2, a3, c3, rfl, h0, h1, oLetterS_r o1.1 hp, oLetterS_r o2.1 hb, oLetterS_r o3.1 ha⟩
set_option maxHeartbeats 800000 in
theorem specNextTime_any (d : Dk) (v : Value) (w : World) (h : eDesk w v d) (hf : d.sz ≤ 1048576) :
    Calls Try.prog 41 #[v] w fun e w' => ∃ p b a f1 f2 f3, e = .returned (stV (nextR d).1 (nextR d).2 p b a) ∧ Ext w w' ∧ Own w.heap.size w' oLetterS f1 [p] (nextR d).1.pairs ∧ Own w.heap.size w' oLetterS f2 [b] (nextR d).1.box ∧ Own w.heap.size w' oLetterS f3 [a] (nextR d).1.audit := by
  have HD := Lib.hid h
  obtain ⟨a1, c1, a2, c2, a3, c3, rfl, z1, z2, h1, h2, h3⟩ := h
  clear h1 h2 h3 z1
  unfold Dk.val at HD ⊢
  cases q1 : boxR d
  · rw [nextR_no q1]
    go_enter Try.func41, Try.ntmps41
    go_wp2_with (go_at_call 45; refine (specBoxRight_any d _ _ (HD.out.ext (by repeat (first | exact Ext.refl _ | apply Ext.plus | apply Ext.alloc | apply Ext.drew)))).mono ?_; rintro e _ ⟨rfl, X, rfl⟩)
    exact bodyPost_ret (v := .agg #[.slice none 0 0, .slice none 0 0, .slice none 0 0, (.int .i64 0), (.int .i64 0), (.int .i64 1)]) (by simp [results, Try.results41, go_sem]) rfl ⟨_, _, _, [], [], [], rfl, (by repeat' (first | (with_reducible exact Ext.refl _) | (with_reducible refine Ext.plus ?_ _) | (with_reducible refine Ext.alloc ?_ _) | (with_reducible refine Ext.setCell ?_ ?_ _) | (with_reducible refine Ext.drew ?_) | (with_reducible exact Nat.le_refl _) | (dsimp only; omega))), own_nilT _ _, own_nilT _ _, own_nilT _ _⟩
  · have hnow := isIn_iff.1 (boxR_at q1).2.1
    by_cases q2 : d.now = 999900
    · rw [nextR_full q1 q2]
      have hb : decide ((999900 : Int) ≤ d.now) = true := decide_eq_true (by omega)
      clear q2 hnow
      go_enter Try.func41, Try.ntmps41
      go_wp2_with (go_at_call 45; refine (specBoxRight_any d _ _ (HD.out.ext (by repeat (first | exact Ext.refl _ | apply Ext.plus | apply Ext.alloc | apply Ext.drew)))).mono ?_; rintro e _ ⟨rfl, X, rfl⟩)
      exact bodyPost_ret (v := .agg #[.slice none 0 0, .slice none 0 0, .slice none 0 0, (.int .i64 0), (.int .i64 0), (.int .i64 9)]) (by simp [results, Try.results41, go_sem]) rfl ⟨_, _, _, [], [], [], rfl, (by repeat' (first | (with_reducible exact Ext.refl _) | (with_reducible refine Ext.plus ?_ _) | (with_reducible refine Ext.alloc ?_ _) | (with_reducible refine Ext.setCell ?_ ?_ _) | (with_reducible refine Ext.drew ?_) | (with_reducible exact Nat.le_refl _) | (dsimp only; omega))), own_nilT _ _, own_nilT _ _, own_nilT _ _⟩
    · rw [nextR_yes q1 q2]
      have hb : decide ((999900 : Int) ≤ d.now) = false := decide_eq_false (by omega)
      clear q2
      go_enter Try.func41, Try.ntmps41
      go_wp2_with (go_at_call 45; refine (specBoxRight_any d _ _ (HD.out.ext (by repeat (first | exact Ext.refl _ | apply Ext.plus | apply Ext.alloc | apply Ext.drew)))).mono ?_; rintro e _ ⟨rfl, X, rfl⟩)
      refine (l06Copy_any d _ _ (HD.out.ext (by repeat (first | exact Ext.refl _ | apply Ext.plus | apply Ext.alloc | apply Ext.drew))) hf).mono ?_
      rintro e _ ⟨p, b, a, f1, f2, f3, rfl, ⟨Y, rfl⟩, o1, o2, o3⟩
      have O1 := Lib.hid o1
      have O3 := Lib.hid o3
      obtain ⟨b1, e1, rfl⟩ := o1.shape
      obtain ⟨b2, e2, rfl⟩ := o2.shape
      obtain ⟨b3, e3, rfl⟩ := o3.shape
      clear o1 o2 o3
      unfold Dk.val
      go_wp2
      refine bodyPost_ret (v := .agg #[.slice b1 d.pairs.length e1, .slice none 0 0, .slice b3 d.audit.length e3, (.int .i64 0), (.int .i64 (d.now + 1)), (.int .i64 0)]) (by simp [results, Try.results41, go_sem]) rfl ⟨.slice b1 d.pairs.length e1, _, .slice b3 d.audit.length e3, f1, [], f3, rfl, (by repeat' (first | (with_reducible exact Ext.refl _) | (with_reducible refine Ext.plus ?_ _) | (with_reducible refine Ext.alloc ?_ _) | (with_reducible refine Ext.setCell ?_ ?_ _) | (with_reducible refine Ext.drew ?_) | (with_reducible exact Nat.le_refl _) | (dsimp only; omega))), ?_, own_nilT _ _, ?_⟩
      · have h1 : Own _ (((((w.alloc (.cells #[.slice a1 d.pairs.length c1, .slice a2 d.box.length c2, .slice a3 d.audit.length c3, (.int .i64 d.used), (.int .i64 d.now)] 30)).alloc (.cells #[.slice none 0 0, .slice none 0 0, .slice none 0 0, (.int .i64 0), (.int .i64 0), (.int .i64 0)] 32)).plus X).plus Y).alloc (.cells #[.slice b1 d.pairs.length e1, .slice none 0 0, .slice b3 d.audit.length e3, (.int .i64 0), (.int .i64 (d.now + 1))] 30)) oLetterS _ _ _ := O1.out.ext oLetterS_local oLetterS_held (Ext.alloc (Ext.refl _) _)
        have h2 := h1.mono (B' := w.heap.size + 1 + 1) (by simp)
        exact (h2.chg oLetterS_local oLetterS_held (S := [w.heap.size + 1]) (((((((Chg.refl _ _).setCell (.inl (by simp)) _).setCell (.inl (by simp)) _).setCell (.inl (by simp)) _).setCell (.inl (by simp)) _).setCell (.inl (by simp)) _).setCell (.inl (by simp)) _) (fun x hx => by simp at hx; omega)).mono (by omega)
      · have h1 : Own _ (((((w.alloc (.cells #[.slice a1 d.pairs.length c1, .slice a2 d.box.length c2, .slice a3 d.audit.length c3, (.int .i64 d.used), (.int .i64 d.now)] 30)).alloc (.cells #[.slice none 0 0, .slice none 0 0, .slice none 0 0, (.int .i64 0), (.int .i64 0), (.int .i64 0)] 32)).plus X).plus Y).alloc (.cells #[.slice b1 d.pairs.length e1, .slice none 0 0, .slice b3 d.audit.length e3, (.int .i64 0), (.int .i64 (d.now + 1))] 30)) oLetterS _ _ _ := O3.out.ext oLetterS_local oLetterS_held (Ext.alloc (Ext.refl _) _)
        have h2 := h1.mono (B' := w.heap.size + 1 + 1) (by simp)
        exact (h2.chg oLetterS_local oLetterS_held (S := [w.heap.size + 1]) (((((((Chg.refl _ _).setCell (.inl (by simp)) _).setCell (.inl (by simp)) _).setCell (.inl (by simp)) _).setCell (.inl (by simp)) _).setCell (.inl (by simp)) _).setCell (.inl (by simp)) _) (fun x hx => by simp at hx; omega)).mono (by omega)

set_option maxHeartbeats 800000 in
theorem eqDeskStep_self (d : Dk) (c : Int) (p b a p' b' a' : Value) (w : World) (h : eDesk w (d.val p b a) d) (h' : eDesk w (d.val p' b' a') d) :
    Calls Try.prog 15 #[stV d c p b a, stV d c p' b' a'] w fun e w' => e = .returned (.bool true) ∧ Ext w w' := by
  have HS := Lib.hid h
  have HS' := Lib.hid h'
  clear h h'
  unfold stV
  unfold Dk.val at HS HS'
  go_enter Try.func15, Try.ntmps15
  go_wp2_with fail
  refine (eqDesk_self d _ _ _ (HS.out.ext (by repeat (first | exact Ext.refl _ | apply Ext.plus | apply Ext.alloc | apply Ext.drew))) (HS'.out.ext (by repeat (first | exact Ext.refl _ | apply Ext.plus | apply Ext.alloc | apply Ext.drew)))).mono ?_
  rintro e _ ⟨rfl, X, rfl⟩
  go_wp2
  go_ret
  exact ⟨rfl, (by repeat (first | exact Ext.refl _ | apply Ext.plus | apply Ext.alloc | apply Ext.drew))⟩

set_option maxHeartbeats 800000 in
theorem markDeskStep_any (d : Dk) (c : Int) (p b a : Value) (k0 B : Nat) (f1 f2 f3 : List Nat) (w : World) (h : OwnD B w f1 f2 f3 p b a d) (hb : k0 + wDk d ≤ 4611686018427387904) :
    Calls Try.prog 18 #[stV d c p b a, (.int .i64 (k0 : Int))] w fun e w' => e = .returned (.int .i64 ((k0 + wDk d : Nat) : Int)) ∧ Chg (f1 ++ f2 ++ f3) w w' ∧ OwnD B w' f1 f2 f3 p b a (mkDk k0 d) := by
  have HS := Lib.hid h
  obtain ⟨a1, c1, rfl⟩ := h.p.shape
  obtain ⟨a2, c2, rfl⟩ := h.b.shape
  obtain ⟨a3, c3, rfl⟩ := h.a.shape
  clear h
  unfold stV
  go_enter Try.func18, Try.ntmps18
  go_wp2_with fail
  refine (markDesk_any d _ _ _ k0 B f1 f2 f3 _ (HS.out.ext (by repeat (first | exact Ext.refl _ | apply Ext.plus | apply Ext.alloc | apply Ext.drew))) hb).mono ?_
  rintro e w2 ⟨rfl, hx, ho⟩
  have HX := Lib.hid hx
  have HO := Lib.hid ho
  clear hx ho
  go_wp2
  go_ret
  exact ⟨rfl, (Ext.chg (by repeat (first | exact Ext.refl _ | apply Ext.plus | apply Ext.alloc | apply Ext.drew)) _).trans HX.out, HO.out⟩

set_option maxHeartbeats 800000 in
theorem heldDeskStep_any (d : Dk) (c : Int) (p b a : Value) (k0 : Nat) (w : World) (h1 : SlR w 6 (rc Ltr.cells) p (mkLtrs k0 d.pairs)) (h2 : SlR w 6 (rc Ltr.cells) b (mkLtrs (k0 + wL (fun _ : Ltr => 6) d.pairs) d.box)) (h3 : SlR w 6 (rc Ltr.cells) a (mkLtrs (k0 + wL (fun _ : Ltr => 6) d.pairs + wL (fun _ : Ltr => 6) d.box) d.audit)) (hb : k0 + wDk d ≤ 4611686018427387904) :
    Calls Try.prog 19 #[stV d c p b a, (.int .i64 (k0 : Int))] w fun e w' => e = .returned (.int .i64 ((k0 + wDk d : Nat) : Int)) ∧ Ext w w' := by
  obtain ⟨a1, c1, rfl⟩ := h1.len
  obtain ⟨a2, c2, rfl⟩ := h2.len
  obtain ⟨a3, c3, rfl⟩ := h3.len
  have H1 := Lib.hid h1
  have H2 := Lib.hid h2
  have H3 := Lib.hid h3
  clear h1 h2 h3
  unfold stV
  go_enter Try.func19, Try.ntmps19
  go_wp2_with fail
  refine (heldDesk_any d _ _ _ k0 _ (H1.out.ext (rc_stable _) (by repeat (first | exact Ext.refl _ | apply Ext.plus | apply Ext.alloc | apply Ext.drew))) (H2.out.ext (rc_stable _) (by repeat (first | exact Ext.refl _ | apply Ext.plus | apply Ext.alloc | apply Ext.drew))) (H3.out.ext (rc_stable _) (by repeat (first | exact Ext.refl _ | apply Ext.plus | apply Ext.alloc | apply Ext.drew))) hb).mono ?_
  rintro e _ ⟨rfl, X, rfl⟩
  go_wp2
  go_ret
  exact ⟨rfl, (by repeat (first | exact Ext.refl _ | apply Ext.plus | apply Ext.alloc | apply Ext.drew))⟩
end Go.Proofs.Ytkekfncgpbileaa
