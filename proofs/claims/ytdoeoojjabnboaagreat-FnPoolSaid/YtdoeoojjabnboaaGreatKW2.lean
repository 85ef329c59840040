/- The walks of JoinOf, MeetOf, EntryRight and of their laws. -/
import Derived.Test.YtdoeoojjabnboaaGreatKBA
set_option maxRecDepth 100000
namespace Go.Proofs.YtdoeoojjabnboaaGreat
open Go.RowKit Go.Fin1
set_option maxHeartbeats 400000 in
theorem l01Max_any (a b:Int) (w:World) :
  Calls Tryz.prog 128 #[.int .i64 a,.int .i64 b] w fun e w'=>e=.returned (.int .i64 (max a b))∧w=w':=by
 go_enter Tryz.func128,Tryz.ntmps128
 go_wp2
 all_goals go_ret
 all_goals exact⟨ret_int (by omega),rfl⟩
set_option maxHeartbeats 400000 in
theorem specJoinOf_any (a b c d:Int) (w:World) :
  Calls Tryz.prog 97 #[.agg #[.int .i64 a,.int .i64 b],.agg #[.int .i64 c,.int .i64 d]] w fun e w'=>e=.returned (.agg #[.int .i64 (joinL ⟨a,b⟩ ⟨c,d⟩).lv,.int .i64 (joinL ⟨a,b⟩ ⟨c,d⟩).st])∧Ext w w':=by
 cases h1:labR ⟨a,b⟩<;>cases h2:labR ⟨c,d⟩
 all_goals simp only[joinL,h1,h2,Bool.and_self,Bool.and_false,Bool.and_true,Bool.false_eq_true,↓reduceIte]
 all_goals go_enter Tryz.func97,Tryz.ntmps97
 all_goals go_wp2_with (first | (go_at_call 68;refine(specLabelRight_any _ _ _).mono ?_;rintro e _ ⟨rfl,X,rfl⟩) | (go_at_call 128;refine(l01Max_any _ _ _).mono ?_;rintro e _ ⟨rfl,rfl⟩))
 iterate 3 exact bodyPost_ret (v:=.agg #[.int .i64 0,.int .i64 0]) (by simp[results,Tryz.results97,go_sem]) rfl ⟨rfl,xE⟩
 go_region_held3 (fun w'=>w'.cell? ⟨w.heap.size,0,none⟩=some (.int .i64 a)∧w'.cell? ⟨w.heap.size,1,none⟩=some (.int .i64 b)∧w'.cell? ⟨w.heap.size+1,0,none⟩=some (.int .i64 c)∧w'.cell? ⟨w.heap.size+1,1,none⟩=some (.int .i64 d))
  (simp[go_sem])
  (first | (go_at_call 128;refine(l01Max_any _ _ _).mono ?_;rintro e _ ⟨rfl,rfl⟩))
 go_wp2
 exact bodyPost_ret (v:=.agg #[.int .i64 (max a c),.int .i64 (bits .or .i64 b d)]) (by simp[results,Tryz.results97,go_sem]) rfl ⟨rfl,xE⟩
end Go.Proofs.YtdoeoojjabnboaaGreat
