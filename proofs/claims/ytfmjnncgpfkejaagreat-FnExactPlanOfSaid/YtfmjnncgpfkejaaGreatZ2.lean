/- Pools: how one reads; the laws' own helpers over pools. -/
import Derived.Test.YtfmjnncgpfkejaaGreatZ1
import Derived.Test.YtfmjnncgpfkejaaGreatJ5
set_option maxRecDepth 100000
set_option linter.unusedVariables false
namespace Go.Proofs.YtfmjnncgpfkejaaGreat
open Go.ChangeShapes Go.WideShapes Go.ChangeAt Go.RowKit Go.Fin1

/-- A pool. -/
structure Pl where
  clear : List (List Lab)
  jobs : List Jb
  now : Int
def Pl.val (p : Pl) (c j : Value) : Value := .agg #[c, j, (.int .i64 p.now)]
/-- A value that is a pool. -/
def ePool (w : World) (v : Value) (p : Pl) : Prop := ∃ a c b d, v = p.val (.slice a p.clear.length c) (.slice b p.jobs.length d) ∧ I64 p.now ∧ SlR w 1 rLabS (.slice a p.clear.length c) p.clear ∧ SlR w 9 rJob (.slice b p.jobs.length d) p.jobs
theorem ePool.ext {w w' : World} {v : Value} {p : Pl} (h : ePool w v p) (hx : Ext w w') : ePool w' v p := by
  obtain ⟨a, c, b, d, hv, h0, h1, h2⟩ := h
  exact ⟨a, c, b, d, hv, h0, h1.ext rLabS_stable hx, h2.ext rJob_stable hx⟩

section
variable {H : Type} {enc : TypeId × Value → H} {w : World} {base : Nat} {spare : Nat → Bool} {held : Bool} {fuel : Nat} {cs : List Value} {x : DataW H × List MemPlace}
theorem len3 {α : Type} {l : List α} (h : l.length = 3) : ∃ a b c, l = [a, b, c] := by match l, h with | [a, b, c], _ => exact ⟨a, b, c, rfl⟩
theorem b_pool (h : DataW.trod enc Tryz.prog w base spare held fuel 25 cs = some x) : ∃ p : Pl, ∃ c j, cs = [c, j, (.int .i64 p.now)] ∧ I64 p.now ∧ SlR w 1 rLabS c p.clear ∧ SlR w 9 rJob j p.jobs := by
  obtain ⟨xs, n, _, _, hl, hx, hf⟩ := DataW.trod_struct Tryz.underlying25 h
  obtain ⟨c0, c1, c2, rfl⟩ := len3 (hl.trans (by kernel_rfl))
  obtain ⟨y0, y1, y2, rfl⟩ := len3 hx
  obtain ⟨v0, a0, h0, i0⟩ := b_labss (hf 0 _ rfl)
  obtain ⟨v1, a1, h1, i1⟩ := b_jobs (hf 1 _ rfl)
  obtain ⟨a2, h2, i2⟩ := b_int (hf 2 _ rfl)
  have e : Tryz.prog.cellsOf 2 = 1 := by kernel_rfl
  have e' : Tryz.prog.cellsOf 22 = 1 := by kernel_rfl
  have e'' : Tryz.prog.cellsOf 23 = 1 := by kernel_rfl
  simp [e, e', e''] at h0 h1 h2
  exact ⟨⟨a0, a1, a2⟩, v0, v1, by simp [h0, h1, h2], i2, i0, i1⟩
end
section
variable {H : Type} {enc : TypeId × Value → H} {w : World} {base : Nat} {spare : Nat → Bool} {held : Bool} {r : Reach} {b0 : Nat} {v : Value} {d : DataW H} {ps : List MemPlace}
theorem open_pool (hv : Value.okWide Tryz.prog w r b0 25 v) (h : DataW.Trod enc Tryz.prog w base spare held 25 v d ps) : ∃ a : Arg Pl, v = a.v ∧ ePool w a.v a.x := by
  obtain ⟨cs, rfl, _⟩ := okWide_struct Tryz.underlying25 hv
  obtain ⟨m, hm⟩ := h
  obtain ⟨p, c, j, ha, hn, h1, h2⟩ := b_pool hm
  obtain ⟨a1, c1, rfl⟩ := h1.len
  obtain ⟨a2, c2, rfl⟩ := h2.len
  exact ⟨⟨_, p⟩, rfl, a1, c1, a2, c2, agg_of_list ha, hn, h1, h2⟩
end

/-- How much a pool takes of the laws' bound. -/
def Pl.fits (p : Pl) (n : Nat) : Prop := szL List.length p.clear ≤ n ∧ szL Jb.sz p.jobs ≤ n - szL List.length p.clear
instance (p : Pl) (n : Nat) : Decidable (p.fits n) := by unfold Pl.fits; exact inferInstance

set_option maxHeartbeats 800000 in
theorem szPool_any (p : Pl) (v : Value) (n : Nat) (w : World) (h : ePool w v p) (hn : n ≤ 1048576) :
    Calls Tryz.prog 5 #[v, (.int .i64 n)] w fun e w' => e = .returned (.int .i64 (if p.fits n then ((n - szL List.length p.clear - szL Jb.sz p.jobs : Nat) : Int) else -1)) ∧ Ext w w' := by
  obtain ⟨a, c, b, d, rfl, h0, h1, h2⟩ := h
  have HC := Lib.hid h1
  have HJ := Lib.hid h2
  clear h0 h1 h2
  generalize hG : (if p.fits n then ((n - szL List.length p.clear - szL Jb.sz p.jobs : Nat) : Int) else -1) = G
  have HG := Lib.hid hG
  clear hG
  by_cases hc : szL List.length p.clear ≤ n
  · have ht : decide (((n - szL List.length p.clear : Nat) : Int) < 0) = false := decide_eq_false (by omega)
    by_cases hj : szL Jb.sz p.jobs ≤ n - szL List.length p.clear
    · have ht2 : decide (((n - szL List.length p.clear - szL Jb.sz p.jobs : Nat) : Int) < 0) = false := decide_eq_false (by omega)
      go_enter Tryz.func5, Tryz.ntmps5
      unfold Pl.val
      go_wp2_with fail
      refine (szLabelSS_any _ p.clear n _ (HC.out.ext rLabS_stable (by repeat (first | exact Ext.refl _ | apply Ext.plus | apply Ext.alloc | apply Ext.drew))) hn).mono ?_
      rintro e _ ⟨rfl, ⟨X, rfl⟩⟩
      rw [if_pos hc]
      go_wp2_with fail
      refine (szJobS_any _ p.jobs _ _ (HJ.out.ext rJob_stable (by repeat (first | exact Ext.refl _ | apply Ext.plus | apply Ext.alloc | apply Ext.drew))) (by omega)).mono ?_
      rintro e _ ⟨rfl, ⟨Y, rfl⟩⟩
      rw [if_pos hj]
      go_wp2
      go_ret
      exact ⟨ret_int (by rw [← HG.out, if_pos ⟨hc, hj⟩]), (by repeat (first | exact Ext.refl _ | apply Ext.plus | apply Ext.alloc | apply Ext.drew))⟩
    · go_enter Tryz.func5, Tryz.ntmps5
      unfold Pl.val
      go_wp2_with fail
      refine (szLabelSS_any _ p.clear n _ (HC.out.ext rLabS_stable (by repeat (first | exact Ext.refl _ | apply Ext.plus | apply Ext.alloc | apply Ext.drew))) hn).mono ?_
      rintro e _ ⟨rfl, ⟨X, rfl⟩⟩
      rw [if_pos hc]
      go_wp2_with fail
      refine (szJobS_any _ p.jobs _ _ (HJ.out.ext rJob_stable (by repeat (first | exact Ext.refl _ | apply Ext.plus | apply Ext.alloc | apply Ext.drew))) (by omega)).mono ?_
      rintro e _ ⟨rfl, ⟨Y, rfl⟩⟩
      rw [if_neg hj]
      go_wp2
      go_ret
      exact ⟨ret_int (by rw [← HG.out, if_neg (fun h => hj h.2)]), (by repeat (first | exact Ext.refl _ | apply Ext.plus | apply Ext.alloc | apply Ext.drew))⟩
  · go_enter Tryz.func5, Tryz.ntmps5
    unfold Pl.val
    go_wp2_with fail
    refine (szLabelSS_any _ p.clear n _ (HC.out.ext rLabS_stable (by repeat (first | exact Ext.refl _ | apply Ext.plus | apply Ext.alloc | apply Ext.drew))) hn).mono ?_
    rintro e _ ⟨rfl, ⟨X, rfl⟩⟩
    rw [if_neg hc]
    go_wp2
    go_ret
    exact ⟨ret_int (by rw [← HG.out, if_neg (fun h => hc h.1)]), (by repeat (first | exact Ext.refl _ | apply Ext.plus | apply Ext.alloc | apply Ext.drew))⟩

/-- The owner of a pool's two lists. -/
def OwnP (B : Nat) (w : World) (fc fj : List Nat) (c j : Value) (p : Pl) : Prop := Own B w oLabelSS fc [c] p.clear ∧ Own B w oJobS fj [j] p.jobs ∧ ∀ b ∈ fc, b ∉ fj

set_option maxHeartbeats 1600000 in
theorem toPool_any (p : Pl) (v : Value) (w : World) (h : ePool w v p) (hf : p.fits 1048576) :
    Calls Tryz.prog 7 #[v] w fun e w' => ∃ c j fc fj, e = .returned (p.val c j) ∧ Ext w w' ∧ OwnP w.heap.size w' fc fj c j p := by
  obtain ⟨a, c, b, d, rfl, h0, h1, h2⟩ := h
  have HC := Lib.hid h1
  have HJ := Lib.hid h2
  have hc : szL List.length p.clear ≤ 1048576 := hf.1
  have hj : szL Jb.sz p.jobs ≤ 1048576 := Nat.le_trans hf.2 (Nat.sub_le _ _)
  clear h0 h1 h2
  go_enter Tryz.func7, Tryz.ntmps7
  unfold Pl.val
  go_wp2_with fail
  refine (toLabelSS_any _ p.clear _ (HC.out.ext rLabS_stable (by repeat (first | exact Ext.refl _ | apply Ext.plus | apply Ext.alloc | apply Ext.drew))) hc).mono ?_
  rintro e _ ⟨v1, fc, rfl, ⟨X, rfl⟩, hO⟩
  obtain ⟨a1, c1, rfl⟩ := hO.shape
  have H1 := Lib.hid hO
  clear hO
  go_wp2_with fail
  refine (toJobS_any _ p.jobs _ (HJ.out.ext rJob_stable (by repeat (first | exact Ext.refl _ | apply Ext.plus | apply Ext.alloc | apply Ext.drew))) hj).mono ?_
  rintro e _ ⟨v2, fj, rfl, ⟨Y, rfl⟩, hO⟩
  obtain ⟨a2, c2, rfl⟩ := hO.shape
  have H2 := Lib.hid hO
  have HB := Lib.hid (oLabelSS_held _ _ _ _ H1.out.1)
  clear hO
  go_wp2
  refine bodyPost_ret (v := .agg #[.slice a1 p.clear.length c1, .slice a2 p.jobs.length c2, (.int .i64 p.now)]) (by simp [results, Tryz.results7, go_sem]) rfl ⟨_, _, fc, fj, rfl, (by repeat (first | exact Ext.refl _ | apply Ext.plus | apply Ext.alloc | apply Ext.drew)), ?_, ?_, ?_⟩
  · exact ((H1.out.swap (X := X) oLabelSS_local (Nat.le_refl _) (by simp)).plus oLabelSS_local oLabelSS_held Y).mono (by simp; omega)
  · exact (H2.out.swap oJobS_local (by simp) (by simp)).mono (by simp; omega)
  · intro b hb hbj
    have h3 := HB.out b hb
    have h4 := H2.out.2.2 b hbj
    simp at h3 h4
    omega

set_option maxHeartbeats 1600000 in
theorem eqPool_self (p : Pl) (v v' : Value) (w : World) (h : ePool w v p) (h' : ePool w v' p) :
    Calls Tryz.prog 10 #[v, v'] w fun e w' => e = .returned (.bool true) ∧ Ext w w' := by
  obtain ⟨a, c, b, d, rfl, h0, h1, h2⟩ := h
  obtain ⟨a', c', b', d', rfl, _, h1', h2'⟩ := h'
  have HC := Lib.hid h1
  have HJ := Lib.hid h2
  have HC' := Lib.hid h1'
  have HJ' := Lib.hid h2'
  clear h0 h1 h2 h1' h2'
  go_enter Tryz.func10, Tryz.ntmps10
  unfold Pl.val
  go_wp2_with fail
  refine (eqLabelSS_self _ _ p.clear _ (HC.out.ext rLabS_stable (by repeat (first | exact Ext.refl _ | apply Ext.plus | apply Ext.alloc | apply Ext.drew))) (HC'.out.ext rLabS_stable (by repeat (first | exact Ext.refl _ | apply Ext.plus | apply Ext.alloc | apply Ext.drew)))).mono ?_
  rintro e _ ⟨rfl, ⟨X, rfl⟩⟩
  go_wp2_with fail
  refine (eqJobS_self _ _ p.jobs _ (HJ.out.ext rJob_stable (by repeat (first | exact Ext.refl _ | apply Ext.plus | apply Ext.alloc | apply Ext.drew))) (HJ'.out.ext rJob_stable (by repeat (first | exact Ext.refl _ | apply Ext.plus | apply Ext.alloc | apply Ext.drew)))).mono ?_
  rintro e _ ⟨rfl, ⟨Y, rfl⟩⟩
  go_wp2
  go_ret
  exact ⟨rfl, (by repeat (first | exact Ext.refl _ | apply Ext.plus | apply Ext.alloc | apply Ext.drew))⟩
theorem OwnP.e {B : Nat} {w : World} {fc fj : List Nat} {c j : Value} {p : Pl} (h : OwnP B w fc fj c j p) (hn : I64 p.now) (hc : ∀ x ∈ p.clear, ∀ y ∈ x, y.ok) (hj : ∀ j ∈ p.jobs, j.fit) : ePool w (p.val c j) p := by
  obtain ⟨a1, c1, rfl⟩ := h.1.shape
  obtain ⟨a2, c2, rfl⟩ := h.2.1.shape
  exact ⟨a1, c1, a2, c2, rfl, hn, oLabelSS_r h.1.1 hc, oJobS_r h.2.1.1 hj⟩
end Go.Proofs.YtfmjnncgpfkejaaGreat
