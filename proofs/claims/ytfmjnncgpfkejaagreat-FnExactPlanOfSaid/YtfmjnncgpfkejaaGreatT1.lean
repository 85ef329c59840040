/- slices.Insert of one span into a row of ours. -/
import Derived.Test.YtfmjnncgpfkejaaGreatT0
import Derived.Test.YtfmjnncgpfkejaaGreatP2
import Derived.Test.YtfmjnncgpfkejaaGreatP3
import Derived.Test.YtfmjnncgpfkejaaGreatJ2
set_option maxRecDepth 100000
set_option linter.unusedVariables false
namespace Go.Proofs.YtfmjnncgpfkejaaGreat
open Go.RowKit Go.Fin1

theorem info_Span : (Tryz.prog.info? 83).map (fun i => (i.zero, i.size, i.bytes)) = some (some (.agg #[(.int .i64 0), (.int .i64 0)]), 2, 16) := by kernel_rfl
theorem el_Span : ElemInfo Tryz.prog 88 83 2 16 := by
  obtain ⟨i, hi, hz, hs, hb⟩ := info_parts info_Span
  exact ⟨Tryz.underlying88, ⟨i, _, hi, hz, hs, hb, rfl⟩, by decide⟩
abbrev oSpanS : Ow (List Spn) := oSl 83 2 (oFlat Spn.cells)

theorem Chg.slc {a : Option Addr} {n c n' c' : Nat} {w w' : World} (h : Chg (blkL (.slice a n c)) w w') : Chg (blkL (.slice a n' c')) w w' := by cases a <;> exact h
def insL (l : List Spn) (i : Nat) (x : Spn) : List Spn := l.take i ++ x :: l.drop i
theorem insL_cells (l : List Spn) (i : Nat) (x : Spn) : (insL l i x).flatMap Spn.cells = (l.flatMap Spn.cells).take (i * 2) ++ x.cells ++ (l.flatMap Spn.cells).drop (i * 2) := by
  unfold insL
  rw [List.flatMap_append, List.flatMap_cons, flatMap_take (K := 2) (fun _ => rfl), flatMap_drop (K := 2) (fun _ => rfl), List.append_assoc]
theorem insL_len {l : List Spn} {i : Nat} (x : Spn) (h : i ≤ l.length) : (insL l i x).length = l.length + 1 := by
  unfold insL; simp; omega
theorem spn_one {l : List Spn} {u : Value} (h : u ∈ l.flatMap Spn.cells) : u.oneCell' = true := by
  obtain ⟨x, _, hx⟩ := List.mem_flatMap.1 h
  simp [Spn.cells] at hx
  rcases hx with rfl | rfl <;> rfl
theorem spn_one1 {x : Spn} {u : Value} (h : u ∈ x.cells) : u.oneCell' = true := by
  simp [Spn.cells] at h
  rcases h with rfl | rfl <;> rfl
/-- A row in its block. -/
theorem row_in {B : Nat} {w : World} {g n cap : Nat} {l : List Spn} {x : Spn} {i : Nat} {C : List Value} (hb : B ≤ g) (hg : w.heap[g]? = some (.cells C.toArray 83 (0, 0))) (hn : n = l.length + 1) (hc : n ≤ cap) (hm : cap ≤ maxLen) (hs : C.length = cap * 2)
    (hi : i ≤ l.length) (ht : C.take (n * 2) = (l.flatMap Spn.cells).take (i * 2) ++ x.cells ++ (l.flatMap Spn.cells).drop (i * 2)) :
    Row B w 83 2 Spn.cells (.slice (some ⟨g, 0, none⟩) n cap) (insL l i x) := by
  subst hn
  refine ⟨?_, .inr ⟨g, cap, C.toArray, by rw [insL_len x hi], hb, hg, by rw [insL_len x hi]; omega, hm, by simpa using hs, ?_⟩⟩
  · rw [flatMap_len (K := 2) (fun _ => rfl)]
  · rw [insL_len x hi, insL_cells]
    simpa using ht

set_option maxHeartbeats 3200000 in
theorem insertSpn_any (B : Nat) (v : Value) (l : List Spn) (i : Nat) (x : Spn) (vb : Nat) (w : World) (h : Row B w 83 2 Spn.cells v l) (hB : B ≤ w.heap.size) (hi : i ≤ l.length) (hl : l.length ≤ 1048576)
    (hv : w.heap[vb]? = some (.cells #[(.int .i64 x.f), (.int .i64 x.t)] 83 (0, 0))) (hne : ∀ b ∈ blkL v, b ≠ vb) :
    Calls Tryz.prog 103 #[v, (.int .i64 (i : Int)), .slice (some ⟨vb, 0, none⟩) 1 1] w fun e w' => ∃ v', e = .returned v' ∧ Chg (blkL v) w w' ∧ Row B w' 83 2 Spn.cells v' (insL l i x) := by
  have hvc : ∀ j u, x.cells[j]? = some u → w.cell? ((⟨vb, 0, none⟩ : Addr).add j) = some u := fun j u hj => by
    rw [Addr.add_lit, cell_of_heap hv, Nat.zero_add]
    simpa [Spn.cells] using hj
  have HVC := Lib.hid hvc
  have HR := Lib.hid h
  clear hvc
  by_cases hin : i = l.length
  · -- at the end
    subst hin
    obtain ⟨a, cap, rfl⟩ := h.shape
    have HE := Lib.hid (show insL l l.length x = l ++ [x] by unfold insL; simp)
    clear h hi hv hne
    go_enter Tryz.func103, Tryz.ntmps103
    go_wp2_with (at_builtin; go_must (refine Row.appC (f := Spn.cells) el_Span rfl _ _ rfl B hB (.slice a l.length _) l rfl HR.out ⟨vb, 0, none⟩ 1 1 [x] rfl rfl (fun _ => rfl) ?_ ?_ ?_ ?_ ?_); (intro j u hj; exact HVC.out j u (by simpa using hj)); (intro u hu; exact spn_one hu); (unfold maxLen; simp; omega); (simp; omega); intro v' w2 hR hC; have HR2 := Lib.hid hR; have HC2 := Lib.hid hC; clear hR hC)
    all_goals go_ret
    all_goals exact ⟨_, rfl, Chg.slc HC2.out, by rw [HE.out]; exact HR2.out⟩
  · have hlt : i < l.length := by omega
    rcases h.2 with ⟨rfl, h0⟩ | ⟨g, cap, cur, rfl, hbg, hg, hnc, hcm, hcs, htake⟩
    · omega
    have hbs : cur.toList.length = cap * 2 := by simpa using hcs
    have hq : ((i : Int) == (l.length : Int)) = false := by simp; omega
    have hgv : vb ≠ g := fun e => hne g (by simp [blkL]) e.symm
    have hgl : g < w.heap.size := (Array.getElem?_eq_some_iff.1 hg).1
    have hcl : (l.flatMap Spn.cells).length = l.length * 2 := flatMap_len (K := 2) (fun _ => rfl) l
    have hD : ((l.flatMap Spn.cells).drop (i * 2)).length = (l.length - i) * 2 := by rw [List.length_drop, hcl]; omega
    have hfz : w.frozen? ⟨vb, 0, none⟩ = false := frozen_of_heap hv 0
    have hfe : w.frozen? ⟨vb, 2, none⟩ = false := frozen_of_heap hv 2
    by_cases hroom : l.length + 1 ≤ cap
    · -- there is room
      have hov : ∀ lb cb, (callFunc 129 #[.slice (some ⟨vb, 0, none⟩) 1 1, .slice (some ⟨g, (i + 1) * 2, none⟩) lb cb]).run Tryz.prog w = .ok (.value (.bool false)) w := fun lb cb => by
        rw [run_callFunc_extern Tryz.func129 (by kernel_rfl) (by kernel_rfl) (by kernel_rfl) (e := Extern.SlicesOverlaps.overlaps #[88, 88] #[4]) (by kernel_rfl),
          Lib.run_overlaps_apart w 88 4 83 el_Span.und 2 (fun _ => by kernel_rfl) ⟨vb, 0, none⟩ ⟨g, (i + 1) * 2, none⟩ 1 1 lb cb hgv 83 83 2 (cap * 2) (by simp [World.shape?, hv]) (by simp [World.shape?, hg, hcs]) (by omega) hfz hfe]
        rfl
      have hr : decide (((l.length : Int) + 1) > (cap : Int)) = false := decide_eq_false (by omega)
      have HG := Lib.hid hg
      have HT := Lib.hid htake
      have HCC := Lib.hid hcs
      have HTL := Lib.hid hbs
      have hsrc : ∀ j u, ((l.flatMap Spn.cells).drop (i * 2))[j]? = some u → w.cell? ((⟨g, i * 2, none⟩ : Addr).add j) = some u := fun j u hj => by
        rw [Addr.add_lit, cell_of_heap hg]
        rw [List.getElem?_drop, ← htake, List.getElem?_take] at hj
        split at hj
        · simpa using hj
        · cases hj
      have HSR := Lib.hid hsrc
      have HV := Lib.hid hv
      clear hv hg hfz hfe htake hsrc h HR hcs hbs hne
      go_enter Tryz.func103, Tryz.ntmps103
      go_wp2_with (simp only [hov])
      (refine wp_region_x 8 (by kernel_rfl) (by kernel_rfl) (by kernel_rfl) ?_; (iterate 8 (apply XReg.step; (case h => (intro w' hw'; obtain ⟨X', rfl⟩ := hw'; go_wp2_with (fail); exact ⟨rfl, (by repeat (first | exact Ext.refl _ | apply Ext.plus | apply Ext.alloc | apply Ext.drew))⟩)); (case hv => kernel_rfl))); refine XReg.done1 (fun X => ?_))
      refine copyK el_Span rfl _ _ rfl g _ _ _ ⟨g, i * 2, none⟩ _ _ (l.length - i) cur 83 ((l.flatMap Spn.cells).drop (i * 2)) rfl rfl ?_ ?_ hD ?_ ?_ ?_ ?_
      · rw [World.heap_plus w X g hgl]; exact HG.out
      · simp only [Nat.min_def]; split <;> omega
      · intro j u hj; exact ((Ext.refl w).plus X).cellA (HSR.out j u hj)
      · rw [hD, HCC.out]; omega
      · intro u hu; exact spn_one (List.mem_of_mem_drop hu)
      intro w1 hC hg1
      have HC1 := Lib.hid hC
      have HG1 := Lib.hid hg1
      clear hC hg1
      have hv1 : ∀ j u, x.cells[j]? = some u → w1.cell? ((⟨vb, 0, none⟩ : Addr).add j) = some u := fun j u hj => by
        rw [← ((Ext.refl w).plus X).cellA (HVC.out j u hj), Addr.add_lit]
        exact World.cell?_of_block (HC1.out.block vb (by
          have := (Array.getElem?_eq_some_iff.1 HV.out).1
          simp; omega) (by simpa using hgv))
      have HV1 := Lib.hid hv1
      clear hv1
      have hm1 := Lib.hid (show 1 = Nat.min 1 (l.length + 1 - i) by simp only [Nat.min_def]; split <;> omega)
      have hpl := Lib.hid (patch_len (l := cur.toList) (o := (i + 1) * 2) (cs := (l.flatMap Spn.cells).drop (i * 2)) (by rw [hD, HTL.out]; omega))
      have hft := Lib.hid (show i * 2 + x.cells.length ≤ (patch cur.toList ((i + 1) * 2) ((l.flatMap Spn.cells).drop (i * 2))).toArray.size by rw [List.size_toArray, hpl.out, HTL.out]; simp [Spn.cells]; omega)
      go_wp2_with (refine copyK el_Span rfl _ _ rfl g (i * 2) _ _ ⟨vb, 0, none⟩ 1 1 1 _ 83 x.cells rfl rfl HG1.out hm1.out rfl HV1.out hft.out (fun u hu => spn_one1 hu) ?_; intro w2 hC hg2; have HC2 := Lib.hid hC; have HG2 := Lib.hid hg2; clear hC hg2)
      go_ret
      refine ⟨_, rfl, (((Ext.refl w).plus X).chg _).trans (HC1.out.trans HC2.out), row_in hbg HG2.out rfl hroom hcm ?_ hi ?_⟩
      · rw [patch_len (by rw [hpl.out, HTL.out]; simp [Spn.cells]; omega), hpl.out, HTL.out]
      · rw [show (l.length + 1) * 2 = l.length * 2 + 2 by omega, show (i + 1) * 2 = i * 2 + 2 by omega, patch_room (a := i * 2) (k := 2) (N := l.length * 2) (by omega) (by rw [HTL.out]; omega) rfl (by rw [HT.out])]
        rw [← HT.out, List.take_take, show min (i * 2) (l.length * 2) = i * 2 by omega]
    · -- a new row
      have hr : decide (((l.length : Int) + 1) > (cap : Int)) = true := decide_eq_true (by omega)
      have HT := Lib.hid htake
      have hsrc : ∀ j u, (l.flatMap Spn.cells)[j]? = some u → w.cell? ((⟨g, 0, none⟩ : Addr).add j) = some u := fun j u hj => by
        rw [Addr.add_lit, cell_of_heap hg]
        rw [← htake, List.getElem?_take] at hj
        split at hj
        · simpa using hj
        · cases hj
      have hsrc1 : ∀ j u, ((l.flatMap Spn.cells).take (i * 2))[j]? = some u → w.cell? ((⟨g, 0, none⟩ : Addr).add j) = some u := fun j u hj => by
        rw [List.getElem?_take] at hj
        split at hj
        · exact hsrc j u hj
        · cases hj
      have hsrc2 : ∀ j u, ((l.flatMap Spn.cells).drop (i * 2))[j]? = some u → w.cell? ((⟨g, i * 2, none⟩ : Addr).add j) = some u := fun j u hj => by
        rw [List.getElem?_drop] at hj
        have := hsrc _ u hj
        rw [Addr.add_lit] at this ⊢
        rw [Nat.zero_add] at this
        exact this
      have HSR1 := Lib.hid hsrc1
      have HSR2 := Lib.hid hsrc2
      have HV := Lib.hid hv
      have HTI := Lib.hid (show ((l.flatMap Spn.cells).take (i * 2)).length = i * 2 by rw [List.length_take, hcl]; omega)
      have hkk : (l.length : Int) + 1 - (i : Int) = ((l.length + 1 - i : Nat) : Int) := by omega
      have hik : i + (l.length + 1 - i) = l.length + 1 := by omega
      have HIK := Lib.hid hik
      have hvl : vb < w.heap.size := (Array.getElem?_eq_some_iff.1 hv).1
      clear hv hg hfz hfe htake hsrc hsrc1 hsrc2 h HR hcs hbs hne hik
      go_enter Tryz.func103, Tryz.ntmps103
      go_upto_region 10 with (at_builtin; go_must (refine growK (tn := 3) el_Span rfl rfl _ _ rfl ⟨g, 0, none⟩ i cap (l.length + 1 - i) _ rfl (by rw [← hkk]; rfl) HTI.out HSR1.out ?_ ?_ ?_ ?_ ?_); omega; (rw [HIK.out]; omega); (rw [HIK.out]; unfold maxLen; omega); (rw [HIK.out]; omega); intro w1 cap1 cur1 hx hg1 hc1 hm1 hs1 ht1; rw [HIK.out] at hc1; rw [HIK.out]; have HX1 := Lib.hid hx; have HG1 := Lib.hid hg1; have HS1 := Lib.hid hs1; have HT1 := Lib.hid ht1; clear hx hg1 hs1 ht1)
      have hl1 : w.heap.size < w1.heap.size := (Array.getElem?_eq_some_iff.1 HG1.out).1
      have hvn : vb ≠ w.heap.size := by omega
      have hgn : g ≠ w.heap.size := by omega
      have hv1 : ∀ j u, x.cells[j]? = some u → w1.cell? ((⟨vb, 0, none⟩ : Addr).add j) = some u := fun j u hj => HX1.out.cellA (HVC.out j u hj)
      have HV1 := Lib.hid hv1
      clear hv1
      have hmn := Lib.hid (show 1 = Nat.min 1 (l.length + 1 - i) by simp only [Nat.min_def]; split <;> omega)
      have HTL := Lib.hid (show cur1.toList.length = cap1 * 2 by simpa using HS1.out)
      have hft := Lib.hid (show i * 2 + x.cells.length ≤ cur1.size by rw [HS1.out]; simp [Spn.cells]; omega)
      have hpl := Lib.hid (patch_len (l := cur1.toList) (o := i * 2) (cs := x.cells) (by rw [HTL.out]; simp [Spn.cells]; omega))
      go_wp2_with (refine copyK el_Span rfl _ _ rfl w.heap.size (i * 2) _ _ ⟨vb, 0, none⟩ 1 1 1 _ 83 x.cells rfl rfl HG1.out hmn.out rfl HV1.out hft.out (fun u hu => spn_one1 hu) ?_; intro w2 hC hg2; have HC2 := Lib.hid hC; have HG2 := Lib.hid hg2; clear hC hg2)
      (refine wp_region_x 8 (by kernel_rfl) (by kernel_rfl) (by kernel_rfl) ?_; (iterate 8 (apply XReg.step; (case h => (intro w' hw'; obtain ⟨X', rfl⟩ := hw'; go_wp2_with (fail); exact ⟨rfl, (by repeat (first | exact Ext.refl _ | apply Ext.plus | apply Ext.alloc | apply Ext.drew))⟩)); (case hv => kernel_rfl))); refine XReg.done1 (fun X => ?_))
      refine copyK el_Span rfl _ _ rfl w.heap.size ((i + 1) * 2) _ _ ⟨g, i * 2, none⟩ _ _ (l.length - i) (patch cur1.toList (i * 2) x.cells).toArray 83 ((l.flatMap Spn.cells).drop (i * 2)) rfl rfl ?_ ?_ hD ?_ ?_ ?_ ?_
      · rw [World.heap_plus w2 X _ (Array.getElem?_eq_some_iff.1 HG2.out).1]; exact HG2.out
      · simp only [Nat.min_def]; split <;> omega
      · intro j u hj
        refine ((Ext.refl w2).plus X).cellA ?_
        rw [← HX1.out.cellA (HSR2.out j u hj), Addr.add_lit]
        exact World.cell?_of_block (HC2.out.block g (by omega) (by simpa using hgn))
      · rw [hD, List.size_toArray, hpl.out, HTL.out]; omega
      · intro u hu; exact spn_one (List.mem_of_mem_drop hu)
      intro w3 hC hg3
      have HC3 := Lib.hid hC
      have HG3 := Lib.hid hg3
      clear hC hg3
      go_wp2
      go_ret
      have hcg : Chg (blkL (.slice (some ⟨g, 0, none⟩) l.length cap)) w w3 := by
        have h13 : Chg [w.heap.size] w1 w3 := HC2.out.trans ((((Ext.refl w2).plus X).chg _).trans HC3.out)
        have h03 : Ext w w3 := by
          refine Chg.ext0 ?_
          have h := (HX1.out.chg [w.heap.size]).trans h13
          exact ⟨h.os, h.tape, h.output, h.size, fun k hk _ => h.block k hk (by simp; omega)⟩
        exact h03.chg _
      refine ⟨_, rfl, hcg, row_in hB HG3.out rfl hc1 hm1 ?_ hi ?_⟩
      · rw [patch_len (by rw [hpl.out, HTL.out, hD]; omega), hpl.out, HTL.out]
      · rw [show (l.length + 1) * 2 = l.length * 2 + 2 by omega, show (i + 1) * 2 = i * 2 + 2 by omega]
        exact patch_new (a := i * 2) (k := 2) (N := l.length * 2) (by omega) (by rw [HTL.out]; omega) rfl HT1.out (by rw [hD]; omega)
end Go.Proofs.YtfmjnncgpfkejaaGreat
