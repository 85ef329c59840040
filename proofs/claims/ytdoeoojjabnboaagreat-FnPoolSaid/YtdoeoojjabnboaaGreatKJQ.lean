/- FnJob's draws. -/
import Derived.Test.YtdoeoojjabnboaaGreatKDP
import Derived.Test.YtdoeoojjabnboaaGreatKDR3
set_option maxRecDepth 100000
set_option linter.unusedVariables false
namespace Go.Proofs.YtdoeoojjabnboaaGreat
open Go.RowKit Go.Fin1
theorem jbs_at {B:Nat} {w:World} {b off n c:Nat} {rs:List RJ} (h:JbsR B w (.slice (some ⟨b,off,none⟩) n c) rs) {i:Nat} (hi:i < rs.length) :
  w.old b∧∀ q u,(RJ.cells rs[i])[q]?=some u→w.cell? ⟨b,off+i*9+q,none⟩=some u:=by
 obtain⟨cs,_,hc,he⟩:=slr_cells (row_rc (f:=RJ.cells) (fun _=>rfl) h.row) hi
 have he':cs=RJ.cells rs[i]:=he
 subst he'
 exact⟨World.old_of_cell (hc 0 _ rfl),hc⟩
theorem ePool_jobs9 {w:World} {p:Pl} {c:Value} {b:Option Addr} {d:Nat} (h:ePool w (p.val c (.slice b p.jobs.length d)) p):SlR w 9 rJob (.slice b p.jobs.length d) p.jobs:=by
 obtain⟨a',c',b',d',hv,_,_,h2⟩:=h
 unfold Pl.val at hv
 simp at hv
 obtain⟨_,rfl,rfl⟩:=hv
 exact h2
end Go.Proofs.YtdoeoojjabnboaaGreat
