/- The walks of FitNodes. -/
import Derived.Test.YtocadhcggkbimaaQ2
import Derived.Test.YtocadhcggkbimaaE2
import Derived.Test.YtocadhcggkbimaaC1
set_option maxRecDepth 100000
set_option linter.unusedVariables false
namespace Go.Proofs.Ytocadhcggkbimaa
open Go.RowKit Go.Fin1

@[irreducible] def fitNodes (rows : List (List Spn)) (need : Int) (x : Spn) : List Int := if (rowsOk rows && isIn need 1 6 && spnOk x) = true then fitNeed rows need x else []
theorem fitNeed_i64 {rows : List (List Spn)} {need : Int} {x : Spn} (h : rows.length ≤ 1048576) : ∀ n ∈ fitNeed rows need x, I64 n := fun n hn => by
  unfold fitNeed at hn
  split at hn
  · exact fitL_i64 h n (List.mem_of_mem_take hn)
  · cases hn
theorem fitNodes_i64 {rows : List (List Spn)} {need : Int} {x : Spn} (h : rows.length ≤ 1048576) : ∀ n ∈ fitNodes rows need x, I64 n := fun n hn => by
  unfold fitNodes at hn
  split at hn
  · exact fitNeed_i64 h n hn
  · cases hn
theorem fitNeed_len (rows : List (List Spn)) (need : Int) (x : Spn) : (fitNeed rows need x).length ≤ rows.length := by
  have := fitL_len rows x
  unfold fitNeed; split
  · simp; omega
  · simp
theorem fitNodes_len (rows : List (List Spn)) (need : Int) (x : Spn) : (fitNodes rows need x).length ≤ rows.length := by
  unfold fitNodes; split
  · exact fitNeed_len _ _ _
  · simp


end Go.Proofs.Ytocadhcggkbimaa
