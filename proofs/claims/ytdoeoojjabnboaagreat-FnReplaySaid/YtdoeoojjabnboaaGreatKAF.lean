/- impl.Advance, in every case. -/
import Derived.Test.YtdoeoojjabnboaaGreatKAC
import Derived.Test.YtdoeoojjabnboaaGreatKAAB
set_option maxRecDepth 100000
set_option linter.unusedVariables false
namespace Go.Proofs.YtdoeoojjabnboaaGreat
open Go.RowKit Go.Fin1
theorem implAdvance_any (p:Pl) (v:Value) (w:World) (h:ePool w v p) (hf:p.fits 1048576) :
  Calls Tryz.prog 15 #[v] w fun e w'=>∃ cv jv fc fj,e=.returned (poV (advR p).1 (advR p).2.1 (advR p).2.2 cv jv)∧Ext w w'∧OwnP w.heap.size w' fc fj cv jv (advR p).1:=by
 cases hq:poolR p
 ·rw[advR_form hq];exact implAdvance_form p v w h hq
 ·by_cases hn:p.now=999900
  ·rw[advR_full hq hn];exact implAdvance_full p v w h hq hn
  ·rw[advR_yes hq hn];exact implAdvance_yes p v w h hf (tH hq) hn
end Go.Proofs.YtdoeoojjabnboaaGreat
