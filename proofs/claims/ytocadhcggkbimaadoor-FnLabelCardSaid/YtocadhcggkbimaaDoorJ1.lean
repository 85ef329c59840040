/- Jobs: how one reads as plain words; the walks of JobRight. -/
import Derived.Test.YtocadhcggkbimaaDoorP2
import Derived.Test.YtocadhcggkbimaaDoorP3
set_option maxRecDepth 100000
namespace Go.Proofs.YtocadhcggkbimaaDoor
open Go.ChangeShapes Go.WideShapes Go.ChangeAt Go.RowKit Go.Fin1

/-- A job. -/
structure Jb where
  l : Lab
  id : Int
  need : Int
  long : Int
  prio : Int
  state : Int
  start : Int
  nodes : List Int
def Jb.ok (j : Jb) : Prop := j.l.ok ∧ I64 j.id ∧ I64 j.need ∧ I64 j.long ∧ I64 j.prio ∧ I64 j.state ∧ I64 j.start
def Jb.cells (j : Jb) (v : Value) : List Value := [(.int .i64 j.l.lv), (.int .i64 j.l.st), (.int .i64 j.id), (.int .i64 j.need), (.int .i64 j.long), (.int .i64 j.prio), (.int .i64 j.state), (.int .i64 j.start), v]
def Jb.val (j : Jb) (v : Value) : Value := .agg #[(.int .i64 j.l.lv), (.int .i64 j.l.st), (.int .i64 j.id), (.int .i64 j.need), (.int .i64 j.long), (.int .i64 j.prio), (.int .i64 j.state), (.int .i64 j.start), v]
def rJob : World → List Value → Jb → Prop := fun w cs j => ∃ v, cs = j.cells v ∧ j.ok ∧ SlR w 1 rInt v j.nodes
theorem rJob_stable : Stable rJob := fun _ _ _ _ hx ⟨v, hv, ho, h⟩ => ⟨v, hv, ho, h.ext rInt_stable hx⟩


/-- Node i of a list may follow its elder. -/
def nodeAt (l : List Int) (i : Nat) : Bool := isIn (l.getD i 0) 0 5 && (i == 0 || decide (l.getD (i - 1) 0 < l.getD i 0))
@[irreducible] def nodesUp (l : List Int) : Bool := (List.range l.length).all (nodeAt l)
theorem nodesUp_no {l : List Int} {i : Nat} (hi : i < l.length) (h : nodeAt l i = false) : nodesUp l = false := by
  unfold nodesUp
  rw [List.all_eq_false]; exact ⟨i, List.mem_range.2 hi, by simp [h]⟩
theorem nodesUp_yes {l : List Int} (h : ∀ i, i < l.length → nodeAt l i = true) : nodesUp l = true := by
  unfold nodesUp
  rw [List.all_eq_true]; exact fun i hi => h i (List.mem_range.1 hi)
@[irreducible] def jobR (j : Jb) : Bool := labR j.l && isIn j.id 1 3 && isIn j.need 1 6 && isIn j.long 1 20 && isIn j.prio 0 9 && isIn j.state 1 4 &&
  (if j.state = 2 then isIn j.start 0 1000000 && (decide ((j.nodes.length : Int) = j.need) && nodesUp j.nodes) else decide (j.start = 0) && decide (j.nodes.length = 0))










end Go.Proofs.YtocadhcggkbimaaDoor
