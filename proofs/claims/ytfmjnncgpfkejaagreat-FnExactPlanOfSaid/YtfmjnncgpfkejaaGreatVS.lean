/- slices.SortFunc at jobs: what it leaves of a row of ours. -/
import Derived.Test.YtfmjnncgpfkejaaGreatVA
import Derived.Test.YtfmjnncgpfkejaaGreatSLJ
set_option maxRecDepth 100000
set_option linter.unusedVariables false
namespace Go.Proofs.YtfmjnncgpfkejaaGreat
open Go.RowKit Go.Fin1 Go.Shelf Go.Sort
theorem sortJob_any (B g n cap : Nat) (l : List RJ) (w : World) (h : Row B w 64 9 RJ.cells (.slice (some ⟨g, 0, none⟩) n cap) l) (hsz : l.length ≤ 1048576) :
    Calls Tryz.prog 91 #[.slice (some ⟨g, 0, none⟩) n cap, .func (.func 92) #[] #[]] w fun e w' => ∃ l', e = .returned (.tuple #[]) ∧ l'.Perm l ∧ (∀ (i j : Nat) (hi : i < l'.length) (hj : j < l'.length), i ≤ j → ¬ cmpR l'[j] l'[i] < 0) ∧ l'.length = l.length ∧ Chg [g] w w' ∧ Row B w' 64 9 RJ.cells (.slice (some ⟨g, 0, none⟩) n cap) l' := by
  obtain ⟨a0, c0, hv⟩ := h.shape
  obtain rfl : n = l.length := by simpa using congrArg (fun v => match v with | .slice _ n _ => n | _ => 0) hv
  have eg : ∀ args w, (callFunc 92 args).run Tryz.prog w = .ok (.enter 92 args) w := enters_of Tryz.func92 (by kernel_rfl) rfl
  have hcmp : CmpLays Tryz.prog 92 #[] RJ.cells 9 cmpR g 0 l.toArray.size w := fun m os dk _ x y => (compareJobs_d x.1 y.1 (RJ.nv x) (RJ.nv y) _).mono fun e w' ⟨he, hx⟩ => ⟨he, hx.toGrow⟩
  have hblk : g < w.heap.size := by
    obtain ⟨_, h⟩ := h
    rcases h with ⟨hv, _⟩ | ⟨g', cap', cur, hv, hb, hg, _⟩
    · cases hv
    · cases hv
      exact (Array.getElem?_eq_some_iff.1 hg).1
  have hcon := AnyQ.slices_SortFunc Tryz.jsort 9 Tryz.isAgg64 Tryz.sizeOf64 RJ.cells (fun _ => rfl) (fun x v hv => RJ.one x v hv) cmpR swoR 92 #[] g 0 cap l.toArray w eg hcmp (holdsK_row (enc := RJ.cells) (k := 9) (fun _ => rfl) (by decide) h) hblk (by simp; omega)
  change Calls Tryz.prog 91 _ _ _ at hcon
  simp only [List.size_toArray] at hcon
  refine hcon.mono fun e w' ⟨he, d, m, os, hp, hs, hw⟩ => ⟨d.toList, he, ?_, fun i j hi hj hij => ?_, ?_, ?_, ?_⟩
  · obtain ⟨h1, _, h3⟩ := hp
    have e1 : (d.extract 0 l.length).toList = d.toList := by
      rw [show l.length = d.size by rw [h1]; simp]; simp
    have e2 : (l.toArray.extract 0 l.length).toList = l := by simp
    rw [e1, e2] at h3
    exact h3
  · have h1 : d.size = l.length := by rw [hp.1]; simp
    simp only [Array.length_toList] at hi hj
    rcases Nat.eq_or_lt_of_le hij with e | e
    · subst e; intro hh; exact cmpJ_asym hh hh
    · have := hs i j (Nat.zero_le _) e (by omega)
      unfold ltOf at this
      rw [getElem!_pos d j hj, getElem!_pos d i hi] at this
      simpa using of_decide_eq_false this
  · rw [Array.length_toList, hp.1]; simp
  · rw [hw]; exact sortK_chg _ _ _ _ _ _ _ _
  · rw [hw]
    have h1 : d.size = l.length := by rw [hp.1]; simp
    exact sortK_row (enc := RJ.cells) (k := 9) (fun _ => rfl) (by decide) m h h1
end Go.Proofs.YtfmjnncgpfkejaaGreat
