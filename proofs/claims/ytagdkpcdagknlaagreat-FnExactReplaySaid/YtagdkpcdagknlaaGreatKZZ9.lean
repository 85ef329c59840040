/- The laws' helpers over pools that a call hands back. -/
import Derived.Test.YtagdkpcdagknlaaGreatKZZ1
import Derived.Test.YtagdkpcdagknlaaGreatKJE
import Derived.Test.YtagdkpcdagknlaaGreatKII
import Derived.Test.YtagdkpcdagknlaaGreatKZZ6
import Derived.Test.YtagdkpcdagknlaaGreatKEE
set_option maxRecDepth 100000
set_option linter.unusedVariables false
namespace Go.Proofs.YtagdkpcdagknlaaGreat
open Go.RowKit Go.Fin1

def rJm : World → List Value → Jb → Prop := fun w cs j => ∃ v, cs = j.cells v ∧ SlR w 1 (rc intCell) v j.nodes
theorem rJm_stable : Stable rJm := fun _ _ _ _ hx ⟨v, hv, h⟩ => ⟨v, hv, h.ext (rc_stable _) hx⟩
set_option maxHeartbeats 3200000 in
theorem heldJobS_any (v : Value) (l : List Jb) (k0 : Nat) (w : World) (h : SlR w 9 rJm v (mkJbs k0 l)) (hb : k0 + wL wJb l ≤ 4611686018427387904) :
    Calls Tryz.prog 167 #[v, (.int .i64 (k0 : Int))] w fun e w' => e = .returned (.int .i64 ((k0 + wL wJb l : Nat) : Int)) ∧ Ext w w' := by
  obtain ⟨a, cap, rfl⟩ := h.len
  obtain ⟨_, hlc, hcm⟩ := slr_len h
  rw [mkL_len] at hlc ⊢
  have hlm : l.length ≤ 9223372036854775807 := by unfold maxLen at hcm; omega
  clear hcm hlc
  have HS := Lib.hid h
  clear h
  go_enter Tryz.func167, Tryz.ntmps167
  go_wp2
  go_loopw [1, 5] (fun q i wr => ∃ n : Nat, n ≤ l.length ∧ i = .int .i64 n ∧ q = (.int .i64 ((k0 + wL wJb (l.take n) : Nat) : Int)) ∧ Ext w wr) (fun _ i _ => l.length - (intOf i).toNat)
  case atStart => exact ⟨0, Nat.zero_le _, rfl, rfl, Ext.refl _⟩
  case round =>
    obtain ⟨n, hle, rfl, rfl, ⟨X, rfl⟩⟩ := hrel
    by_cases hlt : n < l.length
    · have hlt' : n < (mkJbs k0 l).length := by rw [mkL_len]; exact hlt
      have hS := HS.out
      rw [mkL_len] at hS
      obtain ⟨b, off, rfl⟩ := slr_some hS hlt'
      obtain ⟨cs, _, hc, he⟩ := slr_cells hS hlt'
      rw [mkL_get mkJb _ l k0 n hlt] at he
      obtain ⟨nv, rfl, hnv⟩ := he
      obtain ⟨an, cn, rfl⟩ := hnv.len
      have d0 := hc 0 _ rfl
      have d1 := hc 1 _ rfl
      have d2 := hc 2 _ rfl
      have d3 := hc 3 _ rfl
      have d4 := hc 4 _ rfl
      have d5 := hc 5 _ rfl
      have d6 := hc 6 _ rfl
      have d7 := hc 7 _ rfl
      have d8 := hc 8 _ rfl
      have ho := World.old_of_cell d0
      simp only [mkJb] at d0 d1 d2 d3 d4 d5 d6 d7 d8 hnv
      rw [Nat.add_zero] at d0
      have HE := Lib.hid hnv
      have hw := wL_lt wJb hlt
      have hw2 := Lib.hid (wL_step wJb hlt)
      have hw3 : wL wJb (l.take n) + (8 + wL (fun _ : Int => 1) l[n].nodes) ≤ wL wJb l := hw
      clear hnv hS hc hlt'
      generalize hs : wL wJb (l.take n) = s at *
      clear hs
      go_wp2_with fail
      have hz : ((k0 : Int) + s + 1 + 1 + 1 + 1 + 1 + 1 + 1 + 1) = ((k0 + s + 8 : Nat) : Int) := by omega
      rw [hz]
      clear hz
      refine (heldInt64S_any _ l[n].nodes (k0 + s + 8) _ (HE.out.ext (rc_stable _) xt) (by omega)).mono ?_
      rintro e _ ⟨rfl, ⟨Y, rfl⟩⟩
      have hneg : decide (((k0 + s + 8 + wL (fun _ : Int => 1) l[n].nodes : Nat) : Int) < 0) = false := decide_eq_false (by omega)
      go_wp2
      exact ⟨⟨n + 1, by omega, by go_num, (by rw [hw2.out]; show Value.int _ _ = Value.int _ _; congr 1; unfold wJb; omega), xt⟩, by simp [intOf]; omega⟩
    · go_wp2
      obtain rfl : n = l.length := by omega
      go_ret
      exact ⟨ret_int (by rw [List.take_length]), xt⟩

theorem oJobS_m {w : World} {fp : List Nat} {v : Value} {l : List Jb} (h : oSl 37 9 oJob w fp [v] l) : SlR w 9 rJm v l := by
  obtain ⟨v', hv, hs⟩ := oSl_reads (r := rJm) (k := 9) (fun w fp cs j ho => by
    obtain ⟨u, hu, hs⟩ := ho
    exact ⟨by rw [hu]; rfl, u, hu, oFl_reads (f := intCell) (fun _ => rfl) hs⟩) h
  obtain rfl : v = v' := by simpa using hv
  exact hs
theorem oLabSS_m {w : World} {fp : List Nat} {v : Value} {l : List (List Lab)} (h : oLabelSS w fp [v] l) : SlR w 1 (rSl 2 (rc Lab.cells)) v l := by
  obtain ⟨v', hv, hs⟩ := oSl_reads (r := rSl 2 (rc Lab.cells)) (k := 1) (fun w fp cs x ho => by
    have ho2 := ho
    obtain ⟨u, hu, _⟩ := ho2
    subst hu
    exact ⟨rfl, u, rfl, oFl_reads (f := Lab.cells) (fun _ => rfl) ho⟩) h
  obtain rfl : v = v' := by simpa using hv
  exact hs
def mkPl (k : Nat) (p : Pl) : Pl := ⟨mkLabss k p.clear, mkJbs (k + wL (wL (fun _ : Lab => 2)) p.clear) p.jobs, p.now⟩
def wPl (p : Pl) : Nat := wL (wL (fun _ : Lab => 2)) p.clear + wL wJb p.jobs
def zPl : Pl := ⟨[], [], 0⟩
/-- What a call hands back: a pool, a number, a code. -/
def poV (p : Pl) (id c : Int) (cv jv : Value) : Value := .agg #[cv, jv, (.int .i64 p.now), (.int .i64 id), (.int .i64 c)]
theorem OwnP.ext {B : Nat} {w w' : World} {fc fj : List Nat} {c j : Value} {p : Pl} (h : OwnP B w fc fj c j p) (hx : Ext w w') : OwnP B w' fc fj c j p :=
  ⟨h.1.ext oLabelSS_local oLabelSS_held hx, h.2.1.ext oJobS_local oJobS_held hx, h.2.2⟩
theorem OwnP.chg {B : Nat} {w w' : World} {S fc fj : List Nat} {c j : Value} {p : Pl} (h : OwnP B w fc fj c j p) (hx : Chg S w w') (hd : ∀ x ∈ S, x < B) : OwnP B w' fc fj c j p :=
  ⟨h.1.chg oLabelSS_local oLabelSS_held hx hd, h.2.1.chg oJobS_local oJobS_held hx hd, h.2.2⟩
theorem OwnP.mono {B B' : Nat} {w : World} {fc fj : List Nat} {c j : Value} {p : Pl} (h : OwnP B w fc fj c j p) (hb : B' ≤ B) : OwnP B' w fc fj c j p := ⟨h.1.mono hb, h.2.1.mono hb, h.2.2⟩
theorem OwnP.high {B : Nat} {w : World} {fc fj : List Nat} {c j : Value} {p : Pl} (h : OwnP B w fc fj c j p) : ∀ b ∈ fc ++ fj, b < w.heap.size := fun b hb => by
  rcases List.mem_append.1 hb with hb | hb
  · exact oLabelSS_held _ _ _ _ h.1.1 b hb
  · exact oJobS_held _ _ _ _ h.2.1.1 b hb
theorem OwnP.low {B : Nat} {w : World} {fc fj : List Nat} {c j : Value} {p : Pl} (h : OwnP B w fc fj c j p) : ∀ b ∈ fc ++ fj, B ≤ b := fun b hb => by
  rcases List.mem_append.1 hb with hb | hb
  · exact h.1.2.2 b hb
  · exact h.2.1.2.2 b hb
theorem OwnP.zero (B : Nat) (w : World) (now : Int) : OwnP B w [] [] (.slice none 0 0) (.slice none 0 0) ⟨[], [], now⟩ := ⟨Own.nil _ _ _ _ _, Own.nil _ _ _ _ _, fun b hb => by cases hb⟩
theorem OwnP.reads {B : Nat} {w : World} {fc fj : List Nat} {c j : Value} {p : Pl} (h : OwnP B w fc fj c j p) : SlR w 1 (rSl 2 (rc Lab.cells)) c p.clear ∧ SlR w 9 rJm j p.jobs := ⟨oLabSS_m h.1.1, oJobS_m h.2.1.1⟩

set_option maxHeartbeats 800000 in
theorem markPool_any (p : Pl) (cv jv : Value) (k0 B : Nat) (fc fj : List Nat) (w : World) (h : OwnP B w fc fj cv jv p) (hb : k0 + wPl p ≤ 4611686018427387904) :
    Calls Tryz.prog 54 #[p.val cv jv, (.int .i64 (k0 : Int))] w fun e w' => e = .returned (.int .i64 ((k0 + wPl p : Nat) : Int)) ∧ Chg (fc ++ fj) w w' ∧ OwnP B w' fc fj cv jv (mkPl k0 p) := by
  have HS := Lib.hid h
  have HB := Lib.hid hb
  unfold wPl at HB
  obtain ⟨a1, c1, rfl⟩ := h.1.shape
  obtain ⟨a2, c2, rfl⟩ := h.2.1.shape
  clear h hb
  unfold Pl.val
  go_enter Tryz.func54, Tryz.ntmps54
  go_wp2_with fail
  refine (markLabelSS_any _ p.clear k0 fc _ (oLabelSS_local.ext oLabelSS_held xt HS.out.1.1) HS.out.1.2.1 (by have := HB.out; omega)).mono ?_
  rintro e w2 ⟨rfl, hx, ho⟩
  have HX := Lib.hid hx
  have HO := Lib.hid ho
  have HJ := Lib.hid (oJobS_local.chg oJobS_held hx (fun b hb hb2 => HS.out.2.2 b hb2 hb) (oJobS_local.ext oJobS_held xt HS.out.2.1.1))
  have hbx : w.heap.size ∉ fc := fun hb => by have := oLabelSS_held _ _ _ _ HS.out.1.1 _ hb; omega
  have c1 := cell_chg (i := 1) (u := .slice a2 p.jobs.length c2) hx (by simp [go_sem]) hbx
  have ho1 := World.old_of_cell c1
  clear hx ho hbx
  go_wp2_with fail
  refine (markJobS_any _ p.jobs (k0 + wL (wL (fun _ : Lab => 2)) p.clear) fj _ HJ.out HS.out.2.1.2.1 (by have := HB.out; omega)).mono ?_
  rintro e w3 ⟨rfl, hx, ho⟩
  have HX2 := Lib.hid hx
  have HO2 := Lib.hid ho
  have HO3 := Lib.hid (oLabelSS_local.chg oLabelSS_held hx (fun b hb hb2 => HS.out.2.2 b hb hb2) HO.out)
  clear hx ho
  go_wp2
  go_ret
  refine ⟨ret_int (by unfold wPl; omega), ((Ext.chg xt _).trans (HX.out.mono (fun b hb => List.mem_append_left _ hb))).trans (HX2.out.mono (fun b hb => List.mem_append_right _ hb)), ⟨HO3.out, HS.out.1.2.1, HS.out.1.2.2⟩, ⟨HO2.out, HS.out.2.1.2.1, HS.out.2.1.2.2⟩, HS.out.2.2⟩

set_option maxHeartbeats 800000 in
theorem heldPool_any (p : Pl) (cv jv : Value) (k0 : Nat) (w : World) (h1 : SlR w 1 (rSl 2 (rc Lab.cells)) cv (mkPl k0 p).clear) (h2 : SlR w 9 rJm jv (mkPl k0 p).jobs) (hb : k0 + wPl p ≤ 4611686018427387904) :
    Calls Tryz.prog 122 #[p.val cv jv, (.int .i64 (k0 : Int))] w fun e w' => e = .returned (.int .i64 ((k0 + wPl p : Nat) : Int)) ∧ Ext w w' := by
  obtain ⟨a1, c1, rfl⟩ := h1.len
  obtain ⟨a2, c2, rfl⟩ := h2.len
  have H1 := Lib.hid h1
  have H2 := Lib.hid h2
  have HB := Lib.hid hb
  unfold wPl at HB
  clear h1 h2 hb
  unfold Pl.val
  go_enter Tryz.func122, Tryz.ntmps122
  go_wp2_with fail
  refine (heldLabelSS_any _ p.clear k0 _ (H1.out.ext (rSl_stable (rc_stable _)) xt) (by have := HB.out; omega)).mono ?_
  rintro e _ ⟨rfl, ⟨X, rfl⟩⟩
  have hn1 : decide (((k0 + wL (wL (fun _ : Lab => 2)) p.clear : Nat) : Int) < 0) = false := decide_eq_false (by omega)
  go_wp2_with fail
  refine (heldJobS_any _ p.jobs (k0 + wL (wL (fun _ : Lab => 2)) p.clear) _ (H2.out.ext rJm_stable xt) (by have := HB.out; omega)).mono ?_
  rintro e _ ⟨rfl, ⟨Y, rfl⟩⟩
  have hn2 : decide (((k0 + wL (wL (fun _ : Lab => 2)) p.clear + wL wJb p.jobs : Nat) : Int) < 0) = false := decide_eq_false (by omega)
  go_wp2
  go_ret
  exact ⟨ret_int (by unfold wPl; omega), xt⟩

end Go.Proofs.YtagdkpcdagknlaaGreat

set_option maxRecDepth 100000
set_option linter.unusedVariables false
namespace Go
open Go.RowKit
theorem CellsAt.fresh (A : World) (cs : List Value) (ty : TypeId) : CellsAt (A.alloc (.cells cs.toArray ty)) A.heap.size cs := fun i u hu => by
  rw [World.cell?_alloc_new]; simpa using hu
end Go
namespace Go.Proofs.YtagdkpcdagknlaaGreat
open Go.RowKit Go.Fin1

def newP (l : List (List Lab)) : Pl := ⟨l, [], 0⟩
@[irreducible] def newR (l : List (List Lab)) : Pl × Int := if 400 < l.length then (zPl, 2) else if clearR l = true then (newP l, 0) else (zPl, 1)
theorem newR_long {l : List (List Lab)} (h : 400 < l.length) : newR l = (zPl, 2) := by unfold newR; rw [if_pos h]
theorem newR_yes {l : List (List Lab)} (h : ¬ 400 < l.length) (hc : clearR l = true) : newR l = (newP l, 0) := by unfold newR; rw [if_neg h, if_pos hc]
theorem newR_no {l : List (List Lab)} (h : ¬ 400 < l.length) (hc : clearR l = false) : newR l = (zPl, 1) := by unfold newR; rw [if_neg h, hc]; rfl
theorem OwnP.swap {B : Nat} {A A' : World} {X : More} {fc fj : List Nat} {c j : Value} {p : Pl} (h : OwnP B (A.plus X) fc fj c j p) (hb : A.heap.size ≤ B) (hs : A'.heap.size = A.heap.size) : OwnP B (A'.plus X) fc fj c j p :=
  ⟨h.1.swap oLabelSS_local hb hs, h.2.1.swap oJobS_local hb hs, h.2.2⟩
theorem szL_nil {α : Type} (f : α → Nat) : szL f ([] : List α) = 0 := by unfold szL; simp
theorem newP_fits {l : List (List Lab)} (h : szL List.length l ≤ 1048576) : (newP l).fits 1048576 := ⟨h, by show szL Jb.sz [] ≤ _; rw [szL_nil]; exact Nat.zero_le _⟩

set_option maxHeartbeats 800000 in
theorem implPoolNew_any (v : Value) (l : List (List Lab)) (w : World) (h : SlR w 1 rLabS v l) (hl : szL List.length l ≤ 1048576) :
    Calls Tryz.prog 26 #[v] w fun e w' => ∃ c j fc fj, e = .returned (poV (newR l).1 0 (newR l).2 c j) ∧ Ext w w' ∧ OwnP w.heap.size w' fc fj c j (newR l).1 := by
  obtain ⟨a, cap, rfl⟩ := h.len
  have HS := Lib.hid h
  have HL := Lib.hid hl
  clear h hl
  by_cases h4 : 400 < l.length
  · rw [newR_long h4]
    have hb : decide ((400 : Int) < (l.length : Int)) = true := decide_eq_true (by omega)
    clear h4
    go_enter Tryz.func26, Tryz.ntmps26
    go_wp2
    exact bodyPost_ret (v := .agg #[.slice none 0 0, .slice none 0 0, (.int .i64 0), (.int .i64 0), (.int .i64 2)]) (by simp [results, Tryz.results26, go_sem]) rfl ⟨_, _, [], [], rfl, xtR, OwnP.zero _ _ _⟩
  · have hb : decide ((400 : Int) < (l.length : Int)) = false := decide_eq_false (by omega)
    cases hc : clearR l
    · rw [newR_no h4 hc]
      clear h4
      go_enter Tryz.func26, Tryz.ntmps26
      go_wp2_with fail
      refine (clearRight_any _ l _ (HS.out.ext rLabS_stable xt)).mono ?_
      rintro e _ ⟨rfl, X, rfl⟩
      rw [hc]
      go_wp2
      exact bodyPost_ret (v := .agg #[.slice none 0 0, .slice none 0 0, (.int .i64 0), (.int .i64 0), (.int .i64 1)]) (by simp [results, Tryz.results26, go_sem]) rfl ⟨_, _, [], [], rfl, xtR, OwnP.zero _ _ _⟩
    · rw [newR_yes h4 hc]
      clear h4
      go_enter Tryz.func26, Tryz.ntmps26
      go_wp2_with fail
      refine (clearRight_any _ l _ (HS.out.ext rLabS_stable xt)).mono ?_
      rintro e _ ⟨rfl, X, rfl⟩
      rw [hc]
      go_wp2_with fail
      refine (copyClear_any _ l _ (HS.out.ext rLabS_stable xt) HL.out).mono ?_
      rintro e _ ⟨v3, fp, rfl, ⟨Y, rfl⟩, hO⟩
      obtain ⟨a3, c3, rfl⟩ := hO.shape
      have HO := Lib.hid hO
      clear hO
      go_wp2
      refine bodyPost_ret (v := .agg #[.slice a3 l.length c3, .slice none 0 0, (.int .i64 0), (.int .i64 0), (.int .i64 0)]) (by simp [results, Tryz.results26, go_sem]) rfl ⟨_, _, fp, [], rfl, xtR, ?_, Own.nil _ _ _ _ _, fun b hb hb2 => by cases hb2⟩
      exact (HO.out.swap2 oLabelSS_local (by simp) (by simp)).mono (by simp; omega)

set_option maxHeartbeats 400000 in
theorem l05Ill_any (c : Int) (w : World) :
    Calls Tryz.prog 82 #[(.int .i64 c)] w fun e w' => e = .returned (.agg #[.slice none 0 0, .slice none 0 0, (.int .i64 0), (.int .i64 0), (.int .i64 c)]) ∧ Ext w w' := by
  go_enter Tryz.func82, Tryz.ntmps82
  go_wp2
  exact bodyPost_ret (v := .agg #[.slice none 0 0, .slice none 0 0, (.int .i64 0), (.int .i64 0), (.int .i64 c)]) (by simp [results, Tryz.results82, go_sem]) rfl ⟨rfl, xtR⟩
set_option maxHeartbeats 800000 in
theorem specPoolNew_any (v : Value) (l : List (List Lab)) (w : World) (h : SlR w 1 rLabS v l) (hl : szL List.length l ≤ 1048576) :
    Calls Tryz.prog 27 #[v] w fun e w' => ∃ c j fc fj, e = .returned (poV (newR l).1 0 (newR l).2 c j) ∧ Ext w w' ∧ OwnP w.heap.size w' fc fj c j (newR l).1 := by
  obtain ⟨a, cap, rfl⟩ := h.len
  have HS := Lib.hid h
  have HL := Lib.hid hl
  clear h hl
  by_cases h4 : 400 < l.length
  · rw [newR_long h4]
    have hb : decide ((400 : Int) < (l.length : Int)) = true := decide_eq_true (by omega)
    clear h4
    go_enter Tryz.func27, Tryz.ntmps27
    go_wp2_with (go_at_call 82; refine (l05Ill_any _ _).mono ?_; rintro e _ ⟨rfl, X, rfl⟩)
    exact bodyPost_ret (v := .agg #[.slice none 0 0, .slice none 0 0, (.int .i64 0), (.int .i64 0), (.int .i64 2)]) (by simp [results, Tryz.results27, go_sem]) rfl ⟨_, _, [], [], rfl, xtR, OwnP.zero _ _ _⟩
  · have hb : decide ((400 : Int) < (l.length : Int)) = false := decide_eq_false (by omega)
    cases hc : clearR l
    · rw [newR_no h4 hc]
      clear h4
      go_enter Tryz.func27, Tryz.ntmps27
      go_wp2_with fail
      refine (l05Clear_any _ l _ (HS.out.ext rLabS_stable xt)).mono ?_
      rintro e _ ⟨rfl, X, rfl⟩
      rw [hc]
      go_wp2_with (go_at_call 82; refine (l05Ill_any _ _).mono ?_; rintro e _ ⟨rfl, X, rfl⟩)
      exact bodyPost_ret (v := .agg #[.slice none 0 0, .slice none 0 0, (.int .i64 0), (.int .i64 0), (.int .i64 1)]) (by simp [results, Tryz.results27, go_sem]) rfl ⟨_, _, [], [], rfl, xtR, OwnP.zero _ _ _⟩
    · rw [newR_yes h4 hc]
      clear h4
      go_enter Tryz.func27, Tryz.ntmps27
      go_wp2_with fail
      refine (l05Clear_any _ l _ (HS.out.ext rLabS_stable xt)).mono ?_
      rintro e _ ⟨rfl, X, rfl⟩
      rw [hc]
      go_wp2_with fail
      refine (l05Copy_any (newP l) _ _ ⟨a, cap, none, 0, rfl, by show I64 0; unfold I64; omega, HS.out.ext rLabS_stable xt, ⟨none, 0, rfl, Nat.le_refl _, Nat.zero_le _, fun i hi => by cases hi⟩⟩ (newP_fits HL.out)).mono ?_
      rintro e _ ⟨c3, j3, fc, fj, rfl, ⟨Y, rfl⟩, hO⟩
      obtain ⟨a1, c1, rfl⟩ := hO.1.shape
      obtain ⟨a2, c2, rfl⟩ := hO.2.1.shape
      have HO := Lib.hid hO
      clear hO
      unfold Pl.val newP
      go_wp2
      refine bodyPost_ret (v := .agg #[.slice a1 l.length c1, .slice a2 0 c2, (.int .i64 0), (.int .i64 0), (.int .i64 0)]) (by simp [results, Tryz.results27, go_sem]) rfl ⟨_, _, fc, fj, rfl, xtR, ?_, ?_, HO.out.2.2⟩
      · exact (HO.out.1.swap2 oLabelSS_local (by simp) (by simp)).mono (by simp; omega)
      · exact (HO.out.2.1.swap2 oJobS_local (by simp) (by simp)).mono (by simp; omega)
end Go.Proofs.YtagdkpcdagknlaaGreat

set_option maxRecDepth 100000
set_option linter.unusedVariables false
namespace Go.Proofs.YtagdkpcdagknlaaGreat
open Go.RowKit Go.Fin1

/-- What is asked of a pool that a call hands back. -/
structure PlOk (p : Pl) : Prop where
  now : I64 p.now
  cl : ∀ x ∈ p.clear, ∀ y ∈ x, y.ok
  jb : ∀ j ∈ p.jobs, j.fit
theorem PlOk.zero (now : Int) (h : I64 now) : PlOk ⟨[], [], now⟩ := ⟨h, (fun x hx => by cases hx), (fun x hx => by cases hx)⟩
theorem OwnP.e' {B : Nat} {w : World} {fc fj : List Nat} {c j : Value} {p : Pl} (h : OwnP B w fc fj c j p) (o : PlOk p) : ePool w (p.val c j) p := h.e o.now o.cl o.jb

end Go.Proofs.YtagdkpcdagknlaaGreat
