/- impl.placed: its callees. -/
import Derived.Test.YtkhmdhdaldbbhaaKPAB
import Derived.Test.YtkhmdhdaldbbhaaKPC
import Derived.Test.YtkhmdhdaldbbhaaKQA1
import Derived.Test.YtkhmdhdaldbbhaaKTU
import Derived.Test.YtkhmdhdaldbbhaaKPA1
import Derived.Test.YtkhmdhdaldbbhaaKTT
import Derived.Test.YtkhmdhdaldbbhaaKII
import Derived.Test.YtkhmdhdaldbbhaaKZZ1
import Derived.Test.YtkhmdhdaldbbhaaKEE
set_option maxRecDepth 100000
set_option linter.unusedVariables false
namespace Go.Proofs.Ytkhmdhdaldbbhaa
open Go.RowKit Go.Fin1

end Go.Proofs.Ytkhmdhdaldbbhaa

set_option maxRecDepth 100000
set_option linter.unusedVariables false
namespace Go.Proofs.Ytkhmdhdaldbbhaa
open Go.RowKit Go.Fin1
theorem set5s_chg (w : World) (g : Nat) (a b c d e : Value) : Chg [g] w (((((w.setCell ⟨g, 0, none⟩ a).setCell ⟨g, 1, none⟩ b).setCell ⟨g, 2, none⟩ c).setCell ⟨g, 3, none⟩ d).setCell ⟨g, 4, none⟩ e) := ((((((Ext.refl w).chg _).setCell (.inl (by simp)) _).setCell (.inl (by simp)) _).setCell (.inl (by simp)) _).setCell (.inl (by simp)) _).setCell (.inl (by simp)) _
theorem _root_.Go.Blk.set5s {w : World} {g : Nat} {x0 x1 x2 x3 x4 : Value} {ty : TypeId} (h : Blk w g [x0, x1, x2, x3, x4] ty) (a b c d e : Value) : Blk (((((w.setCell ⟨g, 0, none⟩ a).setCell ⟨g, 1, none⟩ b).setCell ⟨g, 2, none⟩ c).setCell ⟨g, 3, none⟩ d).setCell ⟨g, 4, none⟩ e) g [a, b, c, d, e] ty := ((((h.set 0 a).set 1 b).set 2 c).set 3 d).set 4 e
end Go.Proofs.Ytkhmdhdaldbbhaa
