/- The laws' mark and held over flat lists. -/
import Derived.Test.YtdoeoojjabnboaaGreatKBA
import Derived.Test.YtdoeoojjabnboaaGreatKJA1
import Derived.Test.YtdoeoojjabnboaaGreatKQJ
import Derived.Test.YtdoeoojjabnboaaGreatKBG
import Derived.Lib.SliceRun
set_option maxRecDepth 100000
set_option linter.unusedVariables false
namespace Go.Proofs.YtdoeoojjabnboaaGreat
open Go.RowKit Go.Fin1
end Go.Proofs.YtdoeoojjabnboaaGreat
set_option maxRecDepth 100000
set_option linter.unusedVariables false
namespace Go
open Go.RowKit
end Go
namespace Go.Proofs.YtdoeoojjabnboaaGreat
open Go.RowKit Go.Fin1
theorem wL_const {α:Type} (c:Nat) (l:List α):wL (fun _:α=>c) l=c*l.length:=by
 induction l with
 | nil=>rfl
 | cons x l ih=>rw[wL_cons,ih,List.length_cons,Nat.mul_add];omega
theorem wL_spans {α:Type} {l:List (List α)} (h:szL List.length l≤1048576):wL (wL (fun _:α=>2)) l≤4*1048576:=by
 have key:∀ l:List (List α),wL (wL (fun _:α=>2)) l=2*(l.map List.length).sum:=fun l=>by
  induction l with
  | nil=>rfl
  | cons x l ih=>rw[wL_cons,ih,wL_const,List.map_cons,List.sum_cons];omega
 unfold szL at h
 rw[key];omega
end Go.Proofs.YtdoeoojjabnboaaGreat
set_option maxRecDepth 100000
set_option linter.unusedVariables false
namespace Go.Proofs.YtdoeoojjabnboaaGreat
open Go.RowKit Go.Fin1
set_option maxHeartbeats 800000 in
theorem cloneInt_any (v:Value) (l:List Int) (w:World) (h:SlR w 1 (rc intCell) v l) (hl:l.length≤1048576) :
  Calls Tryz.prog 122 #[v] w fun e w'=>∃ v',e=.returned v'∧Ext w w'∧Row w.heap.size w' 2 1 intCell v' l:=by
 obtain⟨ad,cap,rfl⟩:=h.len
 have q22:∀ (w:World) (a:Option Addr) (n c n' c':Nat),(binOp .eql 46 (.slice a n c) (.slice none n' c')).run Tryz.prog w=.ok (.bool a.isNone) w:=fun w a n c n' c'=>Lib.run_eql_slice_nil w _ _ a n c n' c' (show Tryz.prog.underlying 46=some (.slice 2) by kernel_rfl)
 have HS:=tH h
 cases ad with
 | none =>
  have h0:l=[]:=by
   cases l with
   | nil=>rfl
   | cons x l=>obtain⟨b,off,he⟩:=slr_some h (Nat.zero_lt_succ _);cases he
  subst h0
  clear h
  go_enter Tryz.func122,Tryz.ntmps122
  go_wp2
  go_ret
  exact⟨_,rfl,xE,Row.nil _ _ _ _ _⟩
 | some ad =>
  have HC:=tH (slr_flat (f:=intCell) (K:=1) (fun _=>rfl) h)
  clear h
  go_enter Tryz.func122,Tryz.ntmps122
  go_wp2_with (at_builtin;go_must (refine Row.appS (f:=intCell) el_Int rfl _ _ rfl w xE _ _ rfl (Row.made _ _ _ _) ad l.length cap l rfl rfl (fun _=>rfl) ?_ ?_ ?_ ?_ ?_);(exact fun j u hu=>Ext.cellA xE (HC.out j u hu));(intro u hu;obtain⟨x,_,hx⟩:=List.mem_flatMap.1 hu;simp[intCell] at hx;first | (rcases hx with rfl | rfl<;>rfl) | (subst hx;rfl) | (rcases hx with rfl | rfl | rfl<;>rfl) | (rcases hx with rfl | rfl | rfl | rfl | rfl | rfl<;>rfl));(unfold maxLen;simp;omega);(simp;omega);intro v' X' hown' hne;have HO':=tH hown';clear hown' hne)
  go_ret
  exact⟨_,rfl,xE,by have:=HO'.out;simpa using this⟩
end Go.Proofs.YtdoeoojjabnboaaGreat
