/- The laws' helpers over slots. -/
import Derived.Test.YtfmjnncgpfkejaaGreatPG
import Derived.Test.YtfmjnncgpfkejaaGreatE4
import Derived.Test.YtfmjnncgpfkejaaGreatZ9
import Derived.Test.YtfmjnncgpfkejaaGreatPM
import Derived.Deep.Cut
set_option maxRecDepth 100000
set_option linter.unusedVariables false
namespace Go.Proofs.YtfmjnncgpfkejaaGreat
open Go.RowKit Go.Fin1
def mkSl (k : Nat) (s : Slt) : Slt := ⟨⟨k, ((k + 1 : Nat) : Int)⟩, ((k + 2 : Nat) : Int), ((k + 3 : Nat) : Int), mkInts (k + 4) s.nodes⟩
def wSl (s : Slt) : Nat := 4 + wL (fun _ : Int => 1) s.nodes
abbrev mkSls : Nat → List Slt → List Slt := mkL mkSl wSl
def rSm : World → List Value → Slt → Prop := fun w cs s => ∃ v, cs = s.cells v ∧ SlR w 1 (rc intCell) v s.nodes
theorem rSm_stable : Stable rSm := fun _ _ _ _ hx ⟨v, hv, h⟩ => ⟨v, hv, h.ext (rc_stable _) hx⟩
theorem rSlt_stable : Stable rSlt := fun _ _ _ _ hx ⟨v, hv, hok, h⟩ => ⟨v, hv, hok, h.ext rInt_stable hx⟩
theorem slt_at {w : World} {b off n cap : Nat} {xs : List Slt} (h : SlR w 5 rSlt (.slice (some ⟨b, off, none⟩) n cap) xs) {i : Nat} (hi : i < xs.length) :
    w.old b ∧ ∃ a c, xs[i].ok ∧ SlR w 1 rInt (.slice a xs[i].nodes.length c) xs[i].nodes ∧ w.cell? ⟨b, off + i * 5, none⟩ = some (.int .i64 xs[i].l.lv) ∧ w.cell? ⟨b, off + i * 5 + 1, none⟩ = some (.int .i64 xs[i].l.st) ∧ w.cell? ⟨b, off + i * 5 + 2, none⟩ = some (.int .i64 xs[i].id) ∧
      w.cell? ⟨b, off + i * 5 + 3, none⟩ = some (.int .i64 xs[i].start) ∧ w.cell? ⟨b, off + i * 5 + 4, none⟩ = some (.slice a xs[i].nodes.length c) := by
  obtain ⟨cs, _, hc, v, rfl, hok, hs⟩ := slr_cells h hi
  obtain ⟨a, c, rfl⟩ := hs.len
  have h0 := hc 0 _ rfl
  exact ⟨World.old_of_cell h0, a, c, hok, hs, h0, hc 1 _ rfl, hc 2 _ rfl, hc 3 _ rfl, hc 4 _ rfl⟩
theorem oSltS_r {w : World} {fp : List Nat} {v : Value} {l : List Slt} (h : oSltS w fp [v] l) (hok : ∀ s ∈ l, s.ok) : SlR w 5 rSlt v l := by
  obtain ⟨v', hv, hs⟩ := oSl_reads (r := rSm) (k := 5) (fun _ _ _ _ ⟨v, hv, h⟩ => ⟨by rw [hv]; rfl, v, hv, oFl_reads (f := intCell) (fun _ => rfl) h⟩) h
  obtain rfl : v = v' := by simpa using hv
  refine slr_with hs fun cs x hm hr => ?_
  obtain ⟨nv, h1, h2⟩ := hr
  exact ⟨nv, h1, hok x hm, slr_with h2 fun cs2 y hy hc => ⟨hc, (hok x hm).2.2.2 y hy⟩⟩
theorem oSltS_m {w : World} {fp : List Nat} {v : Value} {l : List Slt} (h : oSltS w fp [v] l) : SlR w 5 rSm v l := by
  obtain ⟨v', hv, hs⟩ := oSl_reads (r := rSm) (k := 5) (fun _ _ _ _ ⟨v, hv, h⟩ => ⟨by rw [hv]; rfl, v, hv, oFl_reads (f := intCell) (fun _ => rfl) h⟩) h
  obtain rfl : v = v' := by simpa using hv
  exact hs
set_option maxHeartbeats 800000 in
theorem eqSlot_self (s : Slt) (nv nv' : Value) (w : World) (h : SlR w 1 rInt nv s.nodes) (h' : SlR w 1 rInt nv' s.nodes) :
    Calls Tryz.prog 27 #[.agg #[(.int .i64 s.l.lv), (.int .i64 s.l.st), (.int .i64 s.id), (.int .i64 s.start), nv], .agg #[(.int .i64 s.l.lv), (.int .i64 s.l.st), (.int .i64 s.id), (.int .i64 s.start), nv']] w fun e w' => e = .returned (.bool true) ∧ Ext w w' := by
  have HS := Lib.hid h
  have HS' := Lib.hid h'
  clear h h'
  go_enter Tryz.func27, Tryz.ntmps27
  go_wp2_with ((go_at_call 62; refine (eqLabel_self _ _ _).mono ?_; rintro e _ ⟨rfl, X, rfl⟩))
  refine (eqInt64S_self _ _ s.nodes _ (HS.out.ext rInt_stable (by repeat (first | exact Ext.refl _ | apply Ext.plus | apply Ext.alloc | apply Ext.drew))) (HS'.out.ext rInt_stable (by repeat (first | exact Ext.refl _ | apply Ext.plus | apply Ext.alloc | apply Ext.drew)))).mono ?_
  rintro e _ ⟨rfl, Y, rfl⟩
  go_wp2
  go_ret
  exact ⟨rfl, (by repeat (first | exact Ext.refl _ | apply Ext.plus | apply Ext.alloc | apply Ext.drew))⟩
set_option maxHeartbeats 1600000 in
theorem eqSlotS_self (v v' : Value) (l : List Slt) (w : World) (h : SlR w 5 rSlt v l) (h' : SlR w 5 rSlt v' l) :
    Calls Tryz.prog 9 #[v, v'] w fun e w' => e = .returned (.bool true) ∧ Ext w w' := by
  obtain ⟨ad, cap, rfl⟩ := h.len
  obtain ⟨ad', cap', rfl⟩ := h'.len
  obtain ⟨_, hlc, hcm⟩ := slr_len h
  have hlm : l.length ≤ 9223372036854775807 := by unfold maxLen at hcm; omega
  clear hcm hlc
  have HS1 := Lib.hid h
  have HS2 := Lib.hid h'
  clear h h'
  go_enter Tryz.func9, Tryz.ntmps9
  go_wp2
  go_loopw [5] (fun i wr => ∃ k : Nat, k ≤ l.length ∧ i = .int .i64 k ∧ Ext w wr) (fun i _ => l.length - (intOf i).toNat)
  case atStart => exact ⟨0, Nat.zero_le _, rfl, (by repeat (first | exact Ext.refl _ | apply Ext.plus | apply Ext.alloc | apply Ext.drew))⟩
  case round =>
    obtain ⟨k, hk, rfl, ⟨X, rfl⟩⟩ := hrel
    by_cases hlt : k < l.length
    · obtain ⟨b, off, rfl⟩ := slr_some HS1.out hlt
      obtain ⟨b', off', rfl⟩ := slr_some HS2.out hlt
      obtain ⟨o1, a1, c1, _, hs1, d0, d1, d2, d3, d4⟩ := slt_at HS1.out hlt
      obtain ⟨o2, a2, c2, _, hs2, e0, e1, e2, e3, e4⟩ := slt_at HS2.out hlt
      have HV1 := Lib.hid hs1
      have HV2 := Lib.hid hs2
      clear hs1 hs2
      go_wp2_with fail
      (refine wp_region_x 10 (by kernel_rfl) (by kernel_rfl) (by kernel_rfl) ?_; (iterate 10 (apply XReg.step; (case h => (intro w' hw'; obtain ⟨X', rfl⟩ := hw'; go_wp2_with ((go_at_call 27; refine (eqSlot_self l[k] _ _ _ (HV1.out.ext rInt_stable (by repeat (first | exact Ext.refl _ | apply Ext.plus | apply Ext.alloc | apply Ext.drew))) (HV2.out.ext rInt_stable (by repeat (first | exact Ext.refl _ | apply Ext.plus | apply Ext.alloc | apply Ext.drew)))).mono ?_; rintro e _ ⟨rfl, Y3, rfl⟩)); exact ⟨rfl, (by repeat (first | exact Ext.refl _ | apply Ext.plus | apply Ext.alloc | apply Ext.drew))⟩)); (case hv => kernel_rfl))); refine XReg.doneN (fun X => ?_))
      go_wp2
      exact ⟨⟨k + 1, by omega, by go_num, (by repeat (first | exact Ext.refl _ | apply Ext.plus | apply Ext.alloc | apply Ext.drew))⟩, by simp [intOf]; omega⟩
    · go_wp2
      go_ret
      exact ⟨rfl, (by repeat (first | exact Ext.refl _ | apply Ext.plus | apply Ext.alloc | apply Ext.drew))⟩
set_option maxHeartbeats 1600000 in
theorem markSlotS_any (v : Value) (l : List Slt) (k0 : Nat) (fp : List Nat) (w : World) (h : oSl 55 5 oSlt w fp [v] l) (hn : fp.Nodup) (hb : k0 + wL wSl l ≤ 4611686018427387904) :
    Calls Tryz.prog 12 #[v, (.int .i64 (k0 : Int))] w fun e w' => e = .returned (.int .i64 ((k0 + wL wSl l : Nat) : Int)) ∧ Chg fp w w' ∧ oSl 55 5 oSlt w' fp [v] (mkSls k0 l) := by
  obtain ⟨a, cap, rfl, hcm, hlc⟩ := oSl_shape h
  have hlm : l.length ≤ 9223372036854775807 := by unfold maxLen at hcm; omega
  clear hcm hlc
  have HN := Lib.hid hn
  have HS := Lib.hid h
  clear h hn
  go_enter Tryz.func12, Tryz.ntmps12
  go_wp2
  go_loopw [1, 5] (fun q i wr => ∃ n : Nat, n ≤ l.length ∧ i = .int .i64 n ∧ q = (.int .i64 ((k0 + wL wSl (l.take n) : Nat) : Int)) ∧ Chg fp w wr ∧ Hid (oSl 55 5 oSlt wr fp [.slice a l.length cap] (mkN mkSl wSl k0 l n))) (fun _ i _ => l.length - (intOf i).toNat)
  case atStart => exact ⟨0, Nat.zero_le _, rfl, rfl, Chg.refl _ _, Lib.hid (by rw [mkN_zero]; exact HS.out)⟩
  case round =>
    obtain ⟨n, hle, rfl, rfl, HC, HO⟩ := hrel
    by_cases hlt : n < l.length
    · have hlt' : n < (mkN mkSl wSl k0 l n).length := by rw [mkN_len]; exact hlt
      obtain ⟨g, cap', hv⟩ := oSl_slice HO.out hlt'
      obtain ⟨rfl, hx1, rfl⟩ : a = some ⟨g, 0, none⟩ ∧ l.length = (mkN mkSl wSl k0 l n).length ∧ cap = cap' := by simpa using hv
      clear hv hx1
      obtain ⟨fi, cs, hog, hfz, hcl, hc, hoe, hnd, hgf, hsub, hg, HU⟩ := oSl_at3 oSlt_local oSlt_held HO.out HN.out hlt'
      rw [mkN_at mkSl wSl k0 hlt] at hoe
      obtain ⟨ve, rfl, hoi⟩ := hoe
      obtain ⟨ae, ce, rfl, _, _⟩ := oSl_shape hoi
      have d0 := hc 0 _ rfl
      have d1 := hc 1 _ rfl
      have d2 := hc 2 _ rfl
      have d3 := hc 3 _ rfl
      have d4 := hc 4 _ rfl
      rw [Nat.add_zero] at d0
      have HU2 := Lib.hid HU
      have HE := Lib.hid hoi
      have hw := wL_lt wSl hlt
      have hw2 := Lib.hid (wL_step wSl hlt)
      have HSET := Lib.hid (mkN_set mkSl wSl k0 hlt)
      clear HU hc hoi hcl
      have hw3 : wL wSl (l.take n) + (4 + wL (fun _ : Int => 1) l[n].nodes) ≤ wL wSl l := hw
      generalize hs : wL wSl (l.take n) = s at hw hw2 hw3 HSET ⊢
      clear hs
      go_wp2_with fail
      have hz : ((k0 : Int) + s + 1 + 1 + 1 + 1) = ((k0 + s + 4 : Nat) : Int) := by omega
      rw [hz]
      clear hz
      generalize hW8 : ((((wr.setCell ⟨g, n * 5, none⟩ (.int .i64 ((k0 : Int) + s))).setCell ⟨g, n * 5 + 1, none⟩ (.int .i64 ((k0 : Int) + s + 1))).setCell ⟨g, n * 5 + 2, none⟩ (.int .i64 ((k0 : Int) + s + 1 + 1))).setCell ⟨g, n * 5 + 3, none⟩ (.int .i64 ((k0 : Int) + s + 1 + 1 + 1))) = W8
      have hLay : W8 = wr.layCells g (n * 5) [(.int .i64 ((k0 : Int) + s)), (.int .i64 ((k0 : Int) + s + 1)), (.int .i64 ((k0 : Int) + s + 1 + 1)), (.int .i64 ((k0 : Int) + s + 1 + 1 + 1))] := hW8.symm
      clear hW8
      have hC8 : Chg [g] wr W8 := by rw [hLay]; exact layCells_chg _ _ _ _
      have HL8 := Lib.hid hLay
      have HC8 := Lib.hid hC8
      clear hLay hC8
      refine (markInt64S_any _ l[n].nodes (k0 + s + 4) fi W8 (oIntS_local.chg oIntS_held HC8.out (fun b hb hbg => by simp at hbg; subst hbg; exact hgf hb) HE.out) hnd (by omega)).mono ?_
      rintro e w2 ⟨rfl, hx, ho2⟩
      have HX := Lib.hid hx
      have HO2 := Lib.hid ho2
      clear hx ho2
      go_wp2
      have hsub8 : Chg fp wr W8 := HC8.out.mono (fun b hb => by simp at hb; subst hb; exact hg)
      refine ⟨⟨n + 1, by omega, by go_num, (by rw [hw2.out]; show Value.int _ _ = Value.int _ _; congr 1; unfold wSl; omega), HC.trans (hsub8.trans (HX.out.mono hsub)), Lib.hid (by
        rw [← HSET.out]
        refine HU2.out w2 [(.int .i64 ((k0 : Int) + s)), (.int .i64 ((k0 : Int) + s + 1)), (.int .i64 ((k0 : Int) + s + 1 + 1)), (.int .i64 ((k0 : Int) + s + 1 + 1 + 1))] _ (by show 4 ≤ 5; decide) ?_ ?_ ?_
        · rw [← HL8.out]
          exact HX.out.block g (Nat.lt_of_lt_of_le hog HC8.out.size) hgf
        · exact (HC8.out.mono (fun b hb => by simp at hb; simp [hb])).trans (HX.out.mono fun b hb => List.mem_cons_of_mem _ hb)
        · refine ⟨_, ?_, HO2.out⟩
          simp [Slt.cells, mkSl]
          omega)⟩, by simp [intOf]; omega⟩
    · go_wp2
      obtain rfl : n = l.length := by omega
      have hO := HO.out
      rw [mkN_all] at hO
      go_ret
      exact ⟨ret_int (by rw [List.take_length]), HC, hO⟩
set_option maxHeartbeats 3200000 in
theorem heldSlotS_any (v : Value) (l : List Slt) (k0 : Nat) (w : World) (h : SlR w 5 rSm v (mkSls k0 l)) (hb : k0 + wL wSl l ≤ 4611686018427387904) :
    Calls Tryz.prog 13 #[v, (.int .i64 (k0 : Int))] w fun e w' => e = .returned (.int .i64 ((k0 + wL wSl l : Nat) : Int)) ∧ Ext w w' := by
  obtain ⟨a, cap, rfl⟩ := h.len
  obtain ⟨_, hlc, hcm⟩ := slr_len h
  rw [mkL_len] at hlc ⊢
  have hlm : l.length ≤ 9223372036854775807 := by unfold maxLen at hcm; omega
  clear hcm hlc
  have HS := Lib.hid h
  clear h
  go_enter Tryz.func13, Tryz.ntmps13
  go_wp2
  go_loopw [1, 5] (fun q i wr => ∃ n : Nat, n ≤ l.length ∧ i = .int .i64 n ∧ q = (.int .i64 ((k0 + wL wSl (l.take n) : Nat) : Int)) ∧ Ext w wr) (fun _ i _ => l.length - (intOf i).toNat)
  case atStart => exact ⟨0, Nat.zero_le _, rfl, rfl, Ext.refl _⟩
  case round =>
    obtain ⟨n, hle, rfl, rfl, ⟨X, rfl⟩⟩ := hrel
    by_cases hlt : n < l.length
    · have hlt' : n < (mkSls k0 l).length := by rw [mkL_len]; exact hlt
      have hS := HS.out
      rw [mkL_len] at hS
      obtain ⟨b, off, rfl⟩ := slr_some hS hlt'
      obtain ⟨cs, _, hc, he⟩ := slr_cells hS hlt'
      rw [mkL_get mkSl _ l k0 n hlt] at he
      obtain ⟨nv, rfl, hnv⟩ := he
      obtain ⟨an, cn, rfl⟩ := hnv.len
      have d0 := hc 0 _ rfl
      have d1 := hc 1 _ rfl
      have d2 := hc 2 _ rfl
      have d3 := hc 3 _ rfl
      have d4 := hc 4 _ rfl
      have ho := World.old_of_cell d0
      simp only [mkSl] at d0 d1 d2 d3 d4 hnv
      rw [Nat.add_zero] at d0
      have HE := Lib.hid hnv
      have hw := wL_lt wSl hlt
      have hw2 := Lib.hid (wL_step wSl hlt)
      have hw3 : wL wSl (l.take n) + (4 + wL (fun _ : Int => 1) l[n].nodes) ≤ wL wSl l := hw
      clear hnv hS hc hlt'
      generalize hs : wL wSl (l.take n) = s at *
      clear hs
      go_wp2_with fail
      have hz : ((k0 : Int) + s + 1 + 1 + 1 + 1) = ((k0 + s + 4 : Nat) : Int) := by omega
      rw [hz]
      clear hz
      refine (heldInt64S_any _ l[n].nodes (k0 + s + 4) _ (HE.out.ext (rc_stable _) (by repeat (first | exact Ext.refl _ | apply Ext.plus | apply Ext.alloc | apply Ext.drew))) (by omega)).mono ?_
      rintro e _ ⟨rfl, ⟨Y, rfl⟩⟩
      have hneg : decide (((k0 + s + 8 + wL (fun _ : Int => 1) l[n].nodes : Nat) : Int) < 0) = false := decide_eq_false (by omega)
      go_wp2
      exact ⟨⟨n + 1, by omega, by go_num, (by rw [hw2.out]; show Value.int _ _ = Value.int _ _; congr 1; unfold wSl; omega), (by repeat (first | exact Ext.refl _ | apply Ext.plus | apply Ext.alloc | apply Ext.drew))⟩, by simp [intOf]; omega⟩
    · go_wp2
      obtain rfl : n = l.length := by omega
      go_ret
      exact ⟨ret_int (by rw [List.take_length]), (by repeat (first | exact Ext.refl _ | apply Ext.plus | apply Ext.alloc | apply Ext.drew))⟩
end Go.Proofs.YtfmjnncgpfkejaaGreat

set_option maxRecDepth 100000
set_option linter.unusedVariables false
namespace Go.Proofs.YtfmjnncgpfkejaaGreat
open Go.RowKit Go.Fin1
theorem foldP_small {clear : List (List Lab)} {now : Int} (hn : 0 ≤ now ∧ now ≤ 999900) : ∀ {l : List Jb} (k : Nat), k ≤ l.length → (∀ j ∈ l, JOk now clear.length j) → ∀ s ∈ (foldP clear now (l.take k)).1, s.nodes.length ≤ clear.length
  | l, 0, _, _, s, hs => by rw [List.take_zero, foldP_nil] at hs; cases hs
  | l, k + 1, hk, h, s, hs => by
    have ih := foldP_small hn k (Nat.le_of_lt hk) h
    obtain ⟨q1, q2⟩ := foldP_ok hn k (Nat.le_of_lt hk) h
    rw [foldP_take clear now hk] at hs
    cases h0 : (l[k].state == 2 || l[k].state == 1)
    · rw [stepP_off h0] at hs; exact ih s hs
    · cases hp : placedP clear now (foldP clear now (l.take k)).2 l[k] with
      | none => rw [stepP_none hp] at hs; exact ih s hs
      | some r =>
        rw [stepP_some h0 hp] at hs
        rcases List.mem_append.1 hs with hs | hs
        · exact ih s hs
        · obtain rfl := List.mem_singleton.1 hs
          obtain ⟨g1, g2, _⟩ := placed_good hn q2.symm (h _ (List.getElem_mem hk)) hp
          have := g2.len
          omega
theorem sortedJ_memR {l : List Jb} (hn : l.Pairwise NeJ) {j : Jb} (h : j ∈ sortedJ l) : j ∈ l := by
  unfold sortedJ at h
  have h2 := ((sortedJ_all (l := l) (acc := []) List.Pairwise.nil hn (fun _ h => by cases h)).2 j).1 h
  simpa using h2
theorem planP_small (p : Pl) : (planP p).length ≤ 96 ∧ ∀ s ∈ planP p, s.nodes.length ≤ 6 := by
  unfold planP
  split
  · rename_i h
    have hne := jobsR_ne (poolR_jobs h).1
    have hl : (sortedJ p.jobs).length ≤ 96 := by rw [sortedJ_lenV]; exact jobsR_len (poolR_jobs h).1
    have h1 := foldP_len1 p.clear p.now (l := sortedJ p.jobs) _ (Nat.le_refl _)
    have h2 := foldP_small (clear := p.clear) (isIn_iff.1 (poolR_jobs h).2) (l := sortedJ p.jobs) _ (Nat.le_refl _) (fun j hj => (poolR_job h (sortedJ_memR hne hj)).1)
    rw [List.take_length] at h1 h2
    unfold planL
    exact ⟨by omega, fun s hs => Nat.le_trans (h2 s hs) (poolR_clear h).2⟩
  · exact ⟨by simp, fun s hs => by cases hs⟩
theorem wSl_le : ∀ {l : List Slt}, (∀ s ∈ l, s.nodes.length ≤ 6) → wL wSl l ≤ 10 * l.length
  | [], _ => Nat.le_refl _
  | s :: l, h => by
    rw [wL_cons, List.length_cons]
    have h1 := wSl_le (l := l) (fun x hx => h x (List.mem_cons_of_mem _ hx))
    have h2 := h s (List.mem_cons_self ..)
    have e : wSl s = 4 + s.nodes.length := by unfold wSl; rw [wL_const]; omega
    omega
def kPoolW (p : Pl) : XReg.Kind := fun v w => ePool w v p
theorem kPoolW_good {p : Pl} {W0 : World} {v : Value} (h : ePool W0 v p) : XReg.GoodK (kPoolW p) := ⟨fun _ _ _ hx h => h.ext hx, v, W0, h⟩
set_option maxHeartbeats 3200000 in
theorem fnPlanOf_any (a : Arg Pl) (w : World) (h : ePool w a.v a.x) :
    Calls Tryz.prog 3 #[a.v] w fun e w' => e = .returned (.bool true) ∧ Ext w w' := by
  obtain ⟨v, p⟩ := a
  change ePool w v p at h
  change Calls Tryz.prog 3 #[v] w _
  have HP := Lib.hid h
  obtain ⟨a0, k0, b0, d0, rfl, hn, h1, h2⟩ := h
  have HI : Hid (I64 p.now ∧ (∀ x ∈ p.clear, ∀ y ∈ x, y.ok) ∧ ∀ j ∈ p.jobs, j.fit) := Lib.hid ⟨hn, slr_labss h1, slr_jobs h2⟩
  clear h1 h2 hn
  unfold Pl.val at HP ⊢
  by_cases hf : p.fits 1048576
  · have ht : decide (((1048576 - szL List.length p.clear - szL Jb.sz p.jobs : Nat) : Int) < 0) = false := decide_eq_false (by omega)
    have hmx : wPl p ≤ 64 * 1048576 := by
      have e1 := wL_spans hf.1
      have e2 := wJb_le (Nat.le_trans hf.2 (Nat.sub_le _ _))
      unfold wPl; omega
    have HMX := Lib.hid hmx
    have hps := planP_small p
    have HPB : Hid (1 + wL wSl (planP p) ≤ 4611686018427387904) := Lib.hid (by have := wSl_le hps.2; have := hps.1; omega)
    clear hmx hps
    generalize hPL : planP p = PL at HPB
    have HPL := Lib.hid hPL
    clear hPL
    go_enter Tryz.func3, Tryz.ntmps3
    go_wp2_with fail
    refine (szPool_any p _ 1048576 _ (HP.out.ext (by repeat (first | exact Ext.refl _ | apply Ext.plus | apply Ext.alloc | apply Ext.drew))) (Nat.le_refl _)).mono ?_
    rintro e _ ⟨rfl, ⟨X0, rfl⟩⟩
    rw [if_pos hf]
    go_wp2_with fail
    refine (toPool_any p _ _ (HP.out.ext (by repeat (first | exact Ext.refl _ | apply Ext.plus | apply Ext.alloc | apply Ext.drew))) hf).mono ?_
    rintro e _ ⟨c1, j1, fc1, fj1, rfl, ⟨X1, rfl⟩, hO⟩
    have H0 := Lib.hid (hO.e HI.out.1 HI.out.2.1 HI.out.2.2)
    obtain ⟨a1, k1, rfl⟩ := hO.1.shape
    obtain ⟨b1, d1, rfl⟩ := hO.2.1.shape
    clear hO
    unfold Pl.val at H0 ⊢
    go_wp2_with fail
    refine (specPlanOf_any p _ _ H0.out).mono ?_
    rintro e _ ⟨v4, rfl, ⟨Y1, rfl⟩, hS⟩
    rw [HPL.out] at hS
    obtain ⟨a4, c4, rfl⟩ := hS.len
    have HOK : Hid (∀ s ∈ PL, s.ok) := Lib.hid (fun s hs => by
      obtain ⟨cs, hcs⟩ := slr_all hS s hs
      obtain ⟨_, _, hok, _⟩ := hcs
      exact hok)
    go_upto_region 6 with fail
    refine gen_world (fun W0 hW0 => ?_)
    have HE0 : Hid (Ext w W0) := Lib.hid (by rw [hW0]; exact (by repeat (first | exact Ext.refl _ | apply Ext.plus | apply Ext.alloc | apply Ext.drew)))
    have HS0 : Hid (SlR W0 5 rSlt (.slice a4 PL.length c4) PL) := Lib.hid (hS.ext rSlt_stable (show Ext _ W0 by rw [hW0]; exact (by repeat (first | exact Ext.refl _ | apply Ext.plus | apply Ext.alloc | apply Ext.drew))))
    have HBP : Hid (Blk W0 w.heap.size [.slice a0 p.clear.length k0, .slice b0 p.jobs.length d0, (.int .i64 p.now)] 25) := Lib.hid (by rw [hW0]; exact (Blk.new (w := w) (cs := #[.slice a0 p.clear.length k0, .slice b0 p.jobs.length d0, (.int .i64 p.now)]) rfl).ext (by repeat (first | exact Ext.refl _ | apply Ext.plus | apply Ext.alloc | apply Ext.drew)))
    clear hW0 hS X0 X1 Y1 H0
    have l0 := HBP.out.cell 0
    have l1 := HBP.out.cell 1
    have l2 := HBP.out.cell 2
    have lo := HBP.out.old
    simp only [List.getElem?_cons_zero, List.getElem?_cons_succ] at l0 l1 l2
    go_wp2_with fail
    refine (toPool_any p _ _ (HP.out.ext (HE0.out.trans (by repeat (first | exact Ext.refl _ | apply Ext.plus | apply Ext.alloc | apply Ext.drew)))) hf).mono ?_
    rintro e _ ⟨cx, jx, fc, fj, rfl, ⟨X1, rfl⟩, hOx⟩
    obtain ⟨ax, kx, rfl⟩ := hOx.1.shape
    obtain ⟨bx, dx, rfl⟩ := hOx.2.1.shape
    have HOX := Lib.hid hOx
    have HFC : Hid (∀ q ∈ fc ++ fj, W0.heap.size ≤ q ∧ q < (W0.plus X1).heap.size) := Lib.hid (fun q hq => by
      rcases List.mem_append.1 hq with hq | hq
      · exact ⟨hOx.1.2.2 q hq, oLabelSS_held _ _ _ _ hOx.1.1 q hq⟩
      · exact ⟨hOx.2.1.2.2 q hq, oJobS_held _ _ _ _ hOx.2.1.1 q hq⟩)
    clear hOx
    unfold Pl.val at ⊢
    go_upto_region 7 with fail
    refine gen_world (fun W1 hW1 => ?_)
    have HX01 : Hid (Ext (W0.plus X1) W1) := Lib.hid (by rw [hW1]; exact (by repeat (first | exact Ext.refl _ | apply Ext.plus | apply Ext.alloc | apply Ext.drew)))
    have HGB : Hid (Blk W1 (W0.heap.size + X1.n) [.slice ax p.clear.length kx, .slice bx p.jobs.length dx, (.int .i64 p.now)] 32) := Lib.hid (by rw [hW1]; exact (Blk.new (w := W0.plus X1) (cs := #[.slice ax p.clear.length kx, .slice bx p.jobs.length dx, (.int .i64 p.now)]) (by simp [go_sem])).ext (by repeat (first | exact Ext.refl _ | apply Ext.plus | apply Ext.alloc | apply Ext.drew)))
    have HE1 : Hid (Ext W0 W1) := Lib.hid (((Ext.refl _).plus X1).trans HX01.out)
    have HXW : Hid (OwnP W0.heap.size W1 fc fj (.slice ax p.clear.length kx) (.slice bx p.jobs.length dx) p) := Lib.hid ⟨HOX.out.1.ext oLabelSS_local oLabelSS_held HX01.out, HOX.out.2.1.ext oJobS_local oJobS_held HX01.out, HOX.out.2.2⟩
    have HFL : Hid (∀ q ∈ fc ++ fj, q < W1.heap.size) := Lib.hid (fun q hq => Nat.lt_of_lt_of_le (HFC.out q hq).2 HX01.out.below.size)
    clear hW1 l0 l1 l2 lo
    have g0 := HGB.out.cell 0
    have g1 := HGB.out.cell 1
    have g2 := HGB.out.cell 2
    have go := HGB.out.old
    simp only [List.getElem?_cons_zero, List.getElem?_cons_succ] at g0 g1 g2
    go_wp2_with fail
    refine (implPlanOf_any p _ _ ((HXW.out.e HI.out.1 HI.out.2.1 HI.out.2.2).ext (by repeat (first | exact Ext.refl _ | apply Ext.plus | apply Ext.alloc | apply Ext.drew)))).mono ?_
    rintro e _ ⟨v6, fp, rfl, ⟨Y2, rfl⟩, hO⟩
    rw [HPL.out] at hO
    obtain ⟨a6, c6, rfl⟩ := hO.shape
    go_upto_region 8 with fail
    refine gen_world (fun W2 hW2 => ?_)
    have HE2 : Hid (Ext W1 W2) := Lib.hid (by rw [hW2]; exact (by repeat (first | exact Ext.refl _ | apply Ext.plus | apply Ext.alloc | apply Ext.drew)))
    have HO2 : Hid (Own W1.heap.size W2 oSltS fp [.slice a6 PL.length c6] PL) := Lib.hid ((hO.ext oSltS_local oSltS_held (show Ext _ W2 by rw [hW2]; exact (by repeat (first | exact Ext.refl _ | apply Ext.plus | apply Ext.alloc | apply Ext.drew)))))
    clear hW2 hO Y2 g0 g1 g2 go
    go_wp2_with fail
    refine (eqSlotS_self _ _ PL _ ((oSltS_r HO2.out.1 HOK.out).ext rSlt_stable (by repeat (first | exact Ext.refl _ | apply Ext.plus | apply Ext.alloc | apply Ext.drew))) (HS0.out.ext rSlt_stable ((HE1.out.trans HE2.out).trans (by repeat (first | exact Ext.refl _ | apply Ext.plus | apply Ext.alloc | apply Ext.drew))))).mono ?_
    rintro e _ ⟨rfl, ⟨Y3, rfl⟩⟩
    go_upto_region 10 with fail
    refine gen_world (fun W3 hW3 => ?_)
    have HE3 : Hid (Ext W2 W3) := Lib.hid (by rw [hW3]; exact (by repeat (first | exact Ext.refl _ | apply Ext.plus | apply Ext.alloc | apply Ext.drew)))
    clear hW3 Y3
    have HGB3 := Lib.hid (HGB.out.ext (HE2.out.trans HE3.out))
    have HBP3 := Lib.hid (HBP.out.ext ((HE1.out.trans HE2.out).trans HE3.out))
    have HXW3 : Hid (ePool W3 (p.val (.slice ax p.clear.length kx) (.slice bx p.jobs.length dx)) p) := Lib.hid ((HXW.out.e HI.out.1 HI.out.2.1 HI.out.2.2).ext (HE2.out.trans HE3.out))
    have g0 := HGB3.out.cell 0
    have g1 := HGB3.out.cell 1
    have g2 := HGB3.out.cell 2
    have go := HGB3.out.old
    have l0 := HBP3.out.cell 0
    have l1 := HBP3.out.cell 1
    have l2 := HBP3.out.cell 2
    have lo := HBP3.out.old
    simp only [List.getElem?_cons_zero, List.getElem?_cons_succ] at g0 g1 g2 l0 l1 l2
    (apply wp_region_y (m := 5) (Ks := [_, _, kPoolW p, _, _]); (case hm => kernel_rfl); (case hc => kernel_rfl); (case hd => kernel_rfl); (case hl => rfl))
    case h =>
      (apply YReg.step; (case h => (intro w' hw' hF'; obtain ⟨X', rfl⟩ := hw'; have HF' := Lib.hid hF'; clear hF'; go_wp2_with (fail); exact ⟨rfl, (by repeat (first | exact Ext.refl _ | apply Ext.plus | apply Ext.alloc | apply Ext.drew))⟩)); (case hv => kernel_rfl))
      (apply YReg.step; (case h => (intro w' hw' hF'; obtain ⟨X', rfl⟩ := hw'; have HF' := Lib.hid hF'; clear hF'; go_wp2_with (fail); exact ⟨rfl, (by repeat (first | exact Ext.refl _ | apply Ext.plus | apply Ext.alloc | apply Ext.drew))⟩)); (case hv => kernel_rfl))
      refine YReg.kind (fun w' hw' hF' => ?_) (fun v w1 hK => ?_)
      · have HPQ := Lib.hid (HP.out.ext ((((HE0.out.trans HE1.out).trans HE2.out).trans HE3.out).trans hw'))
        obtain ⟨X', rfl⟩ := hw'
        clear hF'
        go_wp2_with fail
        refine (toPool_any p _ _ (HPQ.out.ext (by repeat (first | exact Ext.refl _ | apply Ext.plus | apply Ext.alloc | apply Ext.drew))) hf).mono ?_
        rintro e _ ⟨c7, j7, fc7, fj7, rfl, ⟨X7, rfl⟩, hO⟩
        have H7 := Lib.hid (hO.e HI.out.1 HI.out.2.1 HI.out.2.2)
        obtain ⟨a7, k7, rfl⟩ := hO.1.shape
        obtain ⟨b7, d7, rfl⟩ := hO.2.1.shape
        clear hO
        unfold Pl.val at H7 ⊢
        go_wp2
        exact ⟨(by repeat (first | exact Ext.refl _ | apply Ext.plus | apply Ext.alloc | apply Ext.drew)), H7.out⟩
      obtain ⟨a7, k7, b7, d7, rfl, hq1, hq2, hq3⟩ := hK
      clear hq1 hq2 hq3 w1
      unfold Pl.val at HXW3
      unfold Pl.val
      (apply YReg.val (.bool true); (case h => (intro w' hw' hF'; obtain ⟨X', rfl⟩ := hw'; have HF' := Lib.hid hF'; clear hF'; go_wp2_with ((go_at_call 10; refine (eqPool_self p _ _ _ (HXW3.out.ext (by repeat (first | exact Ext.refl _ | apply Ext.plus | apply Ext.alloc | apply Ext.drew))) (HF'.out.get 2 rfl (by kernel_rfl))).mono ?_; rintro e _ ⟨rfl, Y3, rfl⟩)); exact ⟨rfl, (by repeat (first | exact Ext.refl _ | apply Ext.plus | apply Ext.alloc | apply Ext.drew))⟩)); (case hv => kernel_rfl))
      (apply YReg.val (.bool false); (case h => (intro w' hw' hF'; obtain ⟨X', rfl⟩ := hw'; have HF' := Lib.hid hF'; clear hF'; go_wp2_with (fail); exact ⟨rfl, (by repeat (first | exact Ext.refl _ | apply Ext.plus | apply Ext.alloc | apply Ext.drew))⟩)); (case hv => kernel_rfl))
      refine YReg.doneN (fun X9 hF9 => ?_)
      clear hF9
      clear g0 g1 g2 go l0 l1 l2 lo
      go_upto_region 13 with fail
      refine gen_world (fun W4 hW4 => ?_)
      have HE4 : Hid (Ext W3 W4) := Lib.hid (by rw [hW4]; exact (by repeat (first | exact Ext.refl _ | apply Ext.plus | apply Ext.alloc | apply Ext.drew)))
      clear hW4 X9
      have HGB4 := Lib.hid (HGB3.out.ext HE4.out)
      have g0 := HGB4.out.cell 0
      have g1 := HGB4.out.cell 1
      have g2 := HGB4.out.cell 2
      have go := HGB4.out.old
      simp only [List.getElem?_cons_zero, List.getElem?_cons_succ] at g0 g1 g2
      have HE14 : Hid (Ext W1 W4) := Lib.hid ((HE2.out.trans HE3.out).trans HE4.out)
      have HOX4 : Hid (OwnP W0.heap.size W4 fc fj (.slice ax p.clear.length kx) (.slice bx p.jobs.length dx) p) := Lib.hid ⟨HXW.out.1.ext oLabelSS_local oLabelSS_held HE14.out, HXW.out.2.1.ext oJobS_local oJobS_held HE14.out, HXW.out.2.2⟩
      have HO4 := Lib.hid (HO2.out.ext oSltS_local oSltS_held (HE3.out.trans HE4.out))
      go_wp2_with fail
      refine (markPool_any p _ _ 1 _ fc fj _ ⟨HOX4.out.1.ext oLabelSS_local oLabelSS_held (by repeat (first | exact Ext.refl _ | apply Ext.plus | apply Ext.alloc | apply Ext.drew)), HOX4.out.2.1.ext oJobS_local oJobS_held (by repeat (first | exact Ext.refl _ | apply Ext.plus | apply Ext.alloc | apply Ext.drew)), HOX4.out.2.2⟩ (by have := HMX.out; omega)).mono ?_
      rintro e w5 ⟨rfl, hc5, ho5⟩
      have HC5 : Hid (Chg (fc ++ fj) W4 w5) := Lib.hid hc5
      clear hc5 ho5 g0 g1 g2 go
      have HE05 : Hid (Ext W0 w5) := Lib.hid (HC5.out.ext (HE1.out.trans HE14.out) (fun q hq => (HFC.out q hq).1))
      have HO5 : Hid (Own W1.heap.size w5 oSltS fp [.slice a6 PL.length c6] PL) := Lib.hid (own_chgD oSltS_local oSltS_held HC5.out (fun b hb hm => by have h1 := HO2.out.2.2 b hb; have h2 := HFL.out b hm; omega) HO4.out)
      have hneg : decide (((1 + wPl p : Nat) : Int) < 0) = false := decide_eq_false (by omega)
      go_wp2_with fail
      refine (eqSlotS_self _ _ PL _ ((oSltS_r HO5.out.1 HOK.out).ext rSlt_stable (by repeat (first | exact Ext.refl _ | apply Ext.plus | apply Ext.alloc | apply Ext.drew))) (HS0.out.ext rSlt_stable (HE05.out.trans (by repeat (first | exact Ext.refl _ | apply Ext.plus | apply Ext.alloc | apply Ext.drew))))).mono ?_
      rintro e _ ⟨rfl, ⟨Y5, rfl⟩⟩
      clear hneg
      go_wp2_with fail
      refine (markSlotS_any _ PL 1 fp _ (oSltS_local.ext oSltS_held (by repeat (first | exact Ext.refl _ | apply Ext.plus | apply Ext.alloc | apply Ext.drew)) HO5.out.1) HO5.out.2.1 HPB.out).mono ?_
      rintro e w6 ⟨rfl, hc6, ho6⟩
      have HE06 : Hid (Ext W0 w6) := Lib.hid (hc6.ext (HE05.out.trans (by repeat (first | exact Ext.refl _ | apply Ext.plus | apply Ext.alloc | apply Ext.drew))) (fun q hq => Nat.le_trans HE1.out.below.size (HO5.out.2.2 q hq)))
      have HM6 := Lib.hid (oSltS_m ho6)
      have hmn : (mkSls 1 PL).length = PL.length := mkL_len _ _ _ _
      clear hc6 ho6 hmn
      go_wp2_with fail
      refine (heldSlotS_any _ PL 1 _ (HM6.out.ext rSm_stable (by repeat (first | exact Ext.refl _ | apply Ext.plus | apply Ext.alloc | apply Ext.drew))) HPB.out).mono ?_
      rintro e _ ⟨rfl, ⟨X6, rfl⟩⟩
      have hneg : decide (((1 + wL wSl PL : Nat) : Int) < 0) = false := decide_eq_false (by omega)
      have hne : (((1 + wL wSl PL : Nat) : Int) != ((1 + wL wSl PL : Nat) : Int)) = false := bne_self_eq_false _
      have HBP6 := Lib.hid (HBP.out.ext HE06.out)
      have l0 := HBP6.out.cell 0
      have l1 := HBP6.out.cell 1
      have l2 := HBP6.out.cell 2
      have lo := HBP6.out.old
      simp only [List.getElem?_cons_zero, List.getElem?_cons_succ] at l0 l1 l2
      go_wp2_with fail
      refine (toPool_any p _ _ (HP.out.ext ((HE0.out.trans HE06.out).trans (by repeat (first | exact Ext.refl _ | apply Ext.plus | apply Ext.alloc | apply Ext.drew)))) hf).mono ?_
      rintro e _ ⟨c8, j8, fc8, fj8, rfl, ⟨X8, rfl⟩, hO⟩
      have H8 := Lib.hid (hO.e HI.out.1 HI.out.2.1 HI.out.2.2)
      obtain ⟨a8, k8, rfl⟩ := hO.1.shape
      obtain ⟨b8, d8, rfl⟩ := hO.2.1.shape
      clear hO l0 l1 l2 lo
      unfold Pl.val at H8 ⊢
      go_wp2_with fail
      refine (implPlanOf_any p _ _ H8.out).mono ?_
      rintro e _ ⟨v9, fp9, rfl, ⟨Y9, rfl⟩, hO⟩
      rw [HPL.out] at hO
      obtain ⟨a9, c9, rfl⟩ := hO.shape
      have HR9 := Lib.hid (oSltS_r hO.1 HOK.out)
      clear hO
      go_wp2_with fail
      refine (eqSlotS_self _ _ PL _ (HR9.out.ext rSlt_stable (by repeat (first | exact Ext.refl _ | apply Ext.plus | apply Ext.alloc | apply Ext.drew))) (HS0.out.ext rSlt_stable (HE06.out.trans (by repeat (first | exact Ext.refl _ | apply Ext.plus | apply Ext.alloc | apply Ext.drew))))).mono ?_
      rintro e _ ⟨rfl, ⟨Z9, rfl⟩⟩
      go_wp2_with fail
      refine (heldSlotS_any _ PL 1 _ (HM6.out.ext rSm_stable (by repeat (first | exact Ext.refl _ | apply Ext.plus | apply Ext.alloc | apply Ext.drew))) HPB.out).mono ?_
      rintro e _ ⟨rfl, ⟨Z6, rfl⟩⟩
      go_wp2
      go_ret
      exact ⟨rfl, (HE0.out.trans HE06.out).trans (by repeat (first | exact Ext.refl _ | apply Ext.plus | apply Ext.alloc | apply Ext.drew))⟩
    case hg =>
      (repeat' (first | exact trivial | exact XReg.GoodK.same _ default | refine And.intro ?_ ?_))
      exact kPoolW_good HP.out
  · go_enter Tryz.func3, Tryz.ntmps3
    go_wp2_with fail
    refine (szPool_any p _ 1048576 _ (HP.out.ext (by repeat (first | exact Ext.refl _ | apply Ext.plus | apply Ext.alloc | apply Ext.drew))) (Nat.le_refl _)).mono ?_
    rintro e _ ⟨rfl, X0, rfl⟩
    rw [if_neg hf]
    go_wp2
    go_ret
    exact ⟨rfl, (by repeat (first | exact Ext.refl _ | apply Ext.plus | apply Ext.alloc | apply Ext.drew))⟩
end Go.Proofs.YtfmjnncgpfkejaaGreat
