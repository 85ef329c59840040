/- The draw of a pool, handed out; slots compared. -/
import Derived.Test.YtkhmdhdaldbbhaaGreatKDP
import Derived.Test.YtkhmdhdaldbbhaaGreatKDR3
import Derived.Test.YtkhmdhdaldbbhaaGreatKTAB
import Derived.Test.YtkhmdhdaldbbhaaGreatKPGM
import Derived.Test.YtkhmdhdaldbbhaaGreatKPP
set_option maxRecDepth 100000
set_option linter.unusedVariables false
namespace Go.Proofs.YtkhmdhdaldbbhaaGreat
open Go.RowKit Go.Fin1
theorem chg_old9 {w w0 w1 : World} {g : Nat} (hx : Ext w w0) (hc : Chg [g] w0 w1) (hg : w.heap.size ≤ g) : Ext w w1 := hc.ext hx (by simpa using hg)
theorem rSlt_stable9 : Stable rSlt := fun _ _ _ _ hx ⟨v, hv, hok, h⟩ => ⟨v, hv, hok, h.ext rInt_stable hx⟩
theorem slt_at9 {w : World} {b off n cap : Nat} {xs : List Slt} (h : SlR w 5 rSlt (.slice (some ⟨b, off, none⟩) n cap) xs) {i : Nat} (hi : i < xs.length) :
    w.old b ∧ ∃ a c, xs[i].ok ∧ SlR w 1 rInt (.slice a xs[i].nodes.length c) xs[i].nodes ∧ w.cell? ⟨b, off + i * 5, none⟩ = some (.int .i64 xs[i].l.lv) ∧ w.cell? ⟨b, off + i * 5 + 1, none⟩ = some (.int .i64 xs[i].l.st) ∧ w.cell? ⟨b, off + i * 5 + 2, none⟩ = some (.int .i64 xs[i].id) ∧
      w.cell? ⟨b, off + i * 5 + 3, none⟩ = some (.int .i64 xs[i].start) ∧ w.cell? ⟨b, off + i * 5 + 4, none⟩ = some (.slice a xs[i].nodes.length c) := by
  obtain ⟨cs, _, hc, v, rfl, hok, hs⟩ := slr_cells h hi
  obtain ⟨a, c, rfl⟩ := hs.len
  have h0 := hc 0 _ rfl
  exact ⟨World.old_of_cell h0, a, c, hok, hs, h0, hc 1 _ rfl, hc 2 _ rfl, hc 3 _ rfl, hc 4 _ rfl⟩
def rSm9 : World → List Value → Slt → Prop := fun w cs s => ∃ v, cs = s.cells v ∧ SlR w 1 (rc intCell) v s.nodes
theorem oSltS_r9 {w : World} {fp : List Nat} {v : Value} {l : List Slt} (h : oSltS w fp [v] l) (hok : ∀ s ∈ l, s.ok) : SlR w 5 rSlt v l := by
  obtain ⟨v', hv, hs⟩ := oSl_reads (r := rSm9) (k := 5) (fun _ _ _ _ ⟨v, hv, h⟩ => ⟨by rw [hv]; rfl, v, hv, oFl_reads (f := intCell) (fun _ => rfl) h⟩) h
  obtain rfl : v = v' := by simpa using hv
  refine slr_with hs fun cs x hm hr => ?_
  obtain ⟨nv, h1, h2⟩ := hr
  exact ⟨nv, h1, hok x hm, slr_with h2 fun cs2 y hy hc => ⟨hc, (hok x hm).2.2.2 y hy⟩⟩
set_option maxHeartbeats 1600000 in
theorem lwSlot_self (s : Slt) (nv nv' : Value) (w : World) (h : SlR w 1 rInt nv s.nodes) (h' : SlR w 1 rInt nv' s.nodes) :
    Calls Tryz.prog 9 #[s.val nv, s.val nv'] w fun e w' => e = .returned (.bool true) ∧ Ext w w' := by
  obtain ⟨a, c, rfl⟩ := h.len
  obtain ⟨b, d, rfl⟩ := h'.len
  have H1 := Lib.hid h
  have H2 := Lib.hid h'
  clear h h'
  have hs : sameL ⟨s.l.lv, s.l.st⟩ ⟨s.l.lv, s.l.st⟩ = true := sameL_self _
  unfold Slt.val
  go_enter Tryz.func9, Tryz.ntmps9
  go_wp2_with fail
  refine (lwNums_self _ _ s.nodes _ (H1.out.ext rInt_stable xt) (H2.out.ext rInt_stable xt)).mono ?_
  rintro e _ ⟨rfl, X, rfl⟩
  go_wp2
  go_ret
  exact ⟨rfl, xt⟩
set_option maxHeartbeats 1600000 in
theorem drawPlanOf_any (v : Value) (l : List Int) (w : World) (h : SlR w 1 rU8 v l) (hl : l.length ≤ 1048576) :
    Calls Tryz.prog 6 #[v] w fun e w' => ∃ (p : Pl) (ca : Option Addr) (cc : Nat) (ja : Option Addr) (jc : Nat), e = .returned (.agg #[.slice ca p.clear.length cc, .slice ja p.jobs.length jc, (.int .i64 p.now)]) ∧ Ext w w' ∧ ePool w' (.agg #[.slice ca p.clear.length cc, .slice ja p.jobs.length jc, (.int .i64 p.now)]) p ∧ PlB p := by
  have HS := Lib.hid h
  clear h
  go_enter Tryz.func6, Tryz.ntmps6
  go_wp2_with fail
  refine (l01Source_any v l _ (HS.out.ext rU8_stable xt) hl).mono ?_
  rintro e w2 ⟨g, rfl, hg, hx, hs⟩
  have HG9 := Lib.hid (show w.heap.size < g by simp at hg; omega)
  have HG := Lib.hid (show w.heap.size ≤ g by have := HG9.out; omega)
  have HR := Lib.hid ((Blk.new (w := w) (cs := #[.slice none 0 0, .slice none 0 0, (.int .i64 0)]) (ty := 26) rfl).ext hx)
  have HX := Lib.hid ((Ext.refl w).alloc (.cells #[.slice none 0 0, .slice none 0 0, (.int .i64 0)] 26) |>.trans hx)
  have HA := Lib.hid hs
  have HWG := Lib.hid (show w.heap.size < w2.heap.size from HR.out.old)
  clear hx hs hg
  go_wp2_with fail
  refine (srcPool_any g _ v l HA.out).mono ?_
  rintro e w3 ⟨p, c, j, rfl, hc, hs, hP, hB⟩
  obtain ⟨⟨ca, cc, rfl⟩, ⟨ja, jc, rfl⟩⟩ := hP.shape
  have HX3 := Lib.hid (chg_old9 HX.out hc HG.out)
  have HR3 := Lib.hid (HR.out.chg hc (by have := HG9.out; simp; omega))
  have HP := Lib.hid hP
  have HB := Lib.hid hB
  clear hc hs hP hB HA HX HR
  unfold Pl.val
  have r0 : w3.cell? ⟨w.heap.size, 0, none⟩ = some (.slice none 0 0) := HR3.out.cell 0
  have r1 : w3.cell? ⟨w.heap.size, 1, none⟩ = some (.slice none 0 0) := HR3.out.cell 1
  have r2 : w3.cell? ⟨w.heap.size, 2, none⟩ = some (.int .i64 0) := HR3.out.cell 2
  have ro := HR3.out.old
  have rf := HR3.out.fz
  go_wp2
  have hC := set3_chg9 w3 w.heap.size (.slice ca p.clear.length cc) (.slice ja p.jobs.length jc) (.int .i64 p.now)
  exact bodyPost_ret (v := .agg #[.slice ca p.clear.length cc, .slice ja p.jobs.length jc, (.int .i64 p.now)]) (by simp [results, Tryz.results6, go_sem, r0, r1, r2]) rfl ⟨p, ca, cc, ja, jc, rfl, hC.ext HX3.out (by simp), (HP.out.off hC (offP_g HWG.out)).e, HB.out⟩
end Go.Proofs.YtkhmdhdaldbbhaaGreat
