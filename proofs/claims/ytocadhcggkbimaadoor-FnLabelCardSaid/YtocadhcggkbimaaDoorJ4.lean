/- Lists of jobs: the laws' helpers; countOf, JobsRight. -/
import Derived.Test.YtocadhcggkbimaaDoorJ3
import Derived.Test.YtocadhcggkbimaaDoorQ3
import Derived.Test.YtocadhcggkbimaaDoorP5
set_option maxRecDepth 100000
set_option linter.unusedVariables false
namespace Go.Proofs.YtocadhcggkbimaaDoor
open Go.RowKit Go.Fin1

/-- A value that is a job. -/
def eJob (w : World) (v : Value) (j : Jb) : Prop := ∃ a c, v = j.val (.slice a j.nodes.length c) ∧ j.ok ∧ SlR w 1 rInt (.slice a j.nodes.length c) j.nodes
theorem eJob.ext {w w' : World} {v : Value} {j : Jb} (h : eJob w v j) (_ : True) (hx : Ext w w') : eJob w' v j := by
  obtain ⟨a, c, hv, hok, hs⟩ := h
  exact ⟨a, c, hv, hok, hs.ext rInt_stable hx⟩
theorem job_at {w : World} {b off n cap : Nat} {xs : List Jb} (h : SlR w 9 rJob (.slice (some ⟨b, off, none⟩) n cap) xs) {i : Nat} (hi : i < xs.length) :
    w.old b ∧ ∃ a c, xs[i].ok ∧ SlR w 1 rInt (.slice a xs[i].nodes.length c) xs[i].nodes ∧ w.cell? ⟨b, off + i * 9, none⟩ = some (.int .i64 xs[i].l.lv) ∧ w.cell? ⟨b, off + i * 9 + 1, none⟩ = some (.int .i64 xs[i].l.st) ∧ w.cell? ⟨b, off + i * 9 + 2, none⟩ = some (.int .i64 xs[i].id) ∧
      w.cell? ⟨b, off + i * 9 + 3, none⟩ = some (.int .i64 xs[i].need) ∧ w.cell? ⟨b, off + i * 9 + 4, none⟩ = some (.int .i64 xs[i].long) ∧ w.cell? ⟨b, off + i * 9 + 5, none⟩ = some (.int .i64 xs[i].prio) ∧ w.cell? ⟨b, off + i * 9 + 6, none⟩ = some (.int .i64 xs[i].state) ∧ w.cell? ⟨b, off + i * 9 + 7, none⟩ = some (.int .i64 xs[i].start) ∧
      w.cell? ⟨b, off + i * 9 + 8, none⟩ = some (.slice a xs[i].nodes.length c) := by
  obtain ⟨cs, _, hc, v, rfl, hok, hs⟩ := slr_cells h hi
  obtain ⟨a, c, rfl⟩ := hs.len
  have h0 := hc 0 _ rfl
  exact ⟨World.old_of_cell h0, a, c, hok, hs, h0, hc 1 _ rfl, hc 2 _ rfl, hc 3 _ rfl, hc 4 _ rfl, hc 5 _ rfl, hc 6 _ rfl, hc 7 _ rfl, hc 8 _ rfl⟩

def Jb.sz (j : Jb) : Nat := j.nodes.length

