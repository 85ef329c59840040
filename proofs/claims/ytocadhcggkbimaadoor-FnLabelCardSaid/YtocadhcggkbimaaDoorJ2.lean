/- The walks of the laws' own helpers over lists of integers and over jobs. -/
import Derived.Test.YtocadhcggkbimaaDoorJ1
import Derived.Test.YtocadhcggkbimaaDoorBA
set_option maxRecDepth 100000
set_option linter.unusedVariables false
namespace Go.Proofs.YtocadhcggkbimaaDoor
open Go.RowKit Go.Fin1

theorem info_Int : (Tryd.prog.info? 2).map (fun i => (i.zero, i.size, i.bytes)) = some (some (.int .i64 0), 1, 8) := by kernel_rfl
theorem el_Int : ElemInfo Tryd.prog 58 2 1 8 := by
  obtain ⟨i, hi, hz, hs, hb⟩ := info_parts info_Int
  exact ⟨Tryd.underlying58, ⟨i, _, hi, hz, hs, hb, rfl⟩, by decide⟩
def intCell (n : Int) : List Value := [(.int .i64 n)]
/-- The owner of a list of integers. -/
abbrev oIntS : Ow (List Int) := oSl 2 1 (oFlat intCell)
theorem oIntS_local : Local oIntS := oSl_local (oFlat_local _)
theorem oIntS_held : Held oIntS := oSl_held (oFlat_held _)
theorem oIntS_r {w : World} {fp : List Nat} {v : Value} {l : List Int} (h : oIntS w fp [v] l) (hl : ∀ x ∈ l, I64 x) : SlR w 1 rInt v l := by
  obtain ⟨v', hv, hs⟩ := oSl_reads (r := fun _ cs x => cs = [(.int .i64 x)]) (k := 1) (fun _ _ _ _ ⟨_, hc⟩ => ⟨by rw [hc]; rfl, hc⟩) h
  obtain rfl : v = v' := by simpa using hv
  exact slr_with hs fun cs x hm hc => ⟨hc, hl x hm⟩




/-- The owner of a job. -/
def oJob : Ow Jb := fun w fp cs j => ∃ v, cs = j.cells v ∧ oIntS w fp [v] j.nodes
theorem oJob_local : Local oJob := fun w w' fp cs j hb ⟨v, hv, h⟩ => ⟨v, hv, oIntS_local w w' fp _ _ hb h⟩
theorem oJob_held : Held oJob := fun w fp cs j ⟨v, hv, h⟩ => oIntS_held w fp _ _ h
theorem oJob_r {w : World} {fp : List Nat} {cs : List Value} {j : Jb} (h : oJob w fp cs j) (hok : j.ok) (hn : ∀ x ∈ j.nodes, I64 x) : rJob w cs j := by
  obtain ⟨v, hv, h⟩ := h
  exact ⟨v, hv, hok, oIntS_r h hn⟩
def Jb.fit (j : Jb) : Prop := j.ok ∧ ∀ x ∈ j.nodes, I64 x

end Go.Proofs.YtocadhcggkbimaaDoor
