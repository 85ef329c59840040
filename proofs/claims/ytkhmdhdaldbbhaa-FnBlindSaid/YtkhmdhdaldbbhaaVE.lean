/- The jobs that a label sees, in their order. -/
import Derived.Test.YtkhmdhdaldbbhaaVD
set_option maxRecDepth 100000
set_option linter.unusedVariables false
namespace Go.Proofs.Ytkhmdhdaldbbhaa
open Go.RowKit Go.Fin1
theorem foldJ_len : ∀ (l acc : List Jb), (l.foldl insJ acc).length = acc.length + l.length
  | [], acc => by simp
  | j :: l, acc => by rw [List.foldl_cons, foldJ_len l, insJ_len, List.length_cons]; omega
theorem sortedJ_len (l : List Jb) : (sortedJ l).length = l.length := by unfold sortedJ; rw [foldJ_len]; simp
def seesJ (x : Lab) (j : Jb) : Bool := blw j.l x
set_option maxHeartbeats 800000 in
theorem seen1_any (u : Value) (j : Jb) (x : Lab) (b : Nat) (w : World) (hj : eJob w u j) (h0 : w.cell? ⟨b, 0, none⟩ = some (.int .i64 x.lv)) (h1 : w.cell? ⟨b, 1, none⟩ = some (.int .i64 x.st)) :
    Calls Try.prog 79 #[u, .pointer (some ⟨b, 0, none⟩)] w fun e w' => e = .returned (.bool (!blw j.l x)) ∧ Ext w w' := by
  obtain ⟨a, cp, rfl, hok, hs⟩ := hj
  have ho := World.old_of_cell h0
  have HK := Lib.hid hok
  clear hs hok
  go_enter Try.func79, Try.ntmps79
  unfold Jb.val
  go_wp2_with fail
  refine (implbelow_any _ _ _ _ _ HK.out.1.2).mono ?_
  rintro e _ ⟨rfl, X, rfl⟩
  go_wp2
  go_ret
  exact ⟨rfl, (by repeat (first | exact Ext.refl _ | apply Ext.plus | apply Ext.alloc | apply Ext.drew))⟩
set_option maxHeartbeats 1600000 in
theorem seen_any (l : List Jb) (ca : Option Addr) (cn cc : Nat) (ja : Addr) (jc : Nat) (now : Int) (x : Lab) (w : World) (h : SlR w 9 rJob (.slice (some ja) l.length jc) l) (hl : l.length ≤ 1000) (hn : l.Pairwise NeJ) :
    Calls Try.prog 56 #[.agg #[.slice ca cn cc, .slice (some ja) l.length jc, (.int .i64 now)], .agg #[(.int .i64 x.lv), (.int .i64 x.st)]] w fun e w' => ∃ g k cp rs, e = .returned (.slice (some ⟨g, 0, none⟩) k cp) ∧ Ext w w' ∧ Row w.heap.size w' 27 9 RJ.cells (.slice (some ⟨g, 0, none⟩) k cp) rs ∧ rs.map Prod.fst = (sortedJ l).filter (fun j => blw j.l x) ∧ ∀ r ∈ rs, r.1.ok ∧ SlR w' 1 rInt (RJ.nv r) r.1.nodes := by
  have HS := Lib.hid h
  have HN := Lib.hid hn
  clear h hn
  have hh := hmf
  go_enter Try.func56, Try.ntmps56
  go_wp2_with fail
  refine (inOrder_any _ l _ (HS.out.ext rJob_stable (by repeat (first | exact Ext.refl _ | apply Ext.plus | apply Ext.alloc | apply Ext.drew))) (by omega) HN.out ⟨_, _, _, rfl⟩).mono ?_
  rintro e _ ⟨g, cp, rs, rfl, ⟨X, rfl⟩, hR, hm, hk⟩
  have HR := Lib.hid hR
  have HM := Lib.hid hm
  have HK := Lib.hid hk
  have hrl : rs.length ≤ 1048576 := by
    have h1 : rs.length = (sortedJ l).length := by rw [← hm]; simp
    have h2 : (sortedJ l).length = l.length := sortedJ_len l
    omega
  clear hR hm hk
  go_wp2_with fail
  have hgb := (HR.out.blk g (by simp [blkL])).1
  have hc0 : ((w.alloc (.cells #[.slice ca cn cc, .slice (some ja) l.length jc, (.int .i64 now)] 43)).alloc (.cells #[(.int .i64 x.lv), (.int .i64 x.st)] 24)).cell? ⟨w.heap.size + 1, 0, none⟩ = some (.int .i64 x.lv) := by simp
  have hc1 : ((w.alloc (.cells #[.slice ca cn cc, .slice (some ja) l.length jc, (.int .i64 now)] 43)).alloc (.cells #[(.int .i64 x.lv), (.int .i64 x.st)] 24)).cell? ⟨w.heap.size + 1, 1, none⟩ = some (.int .i64 x.st) := by simp
  refine (delJob_any _ g cp rs ((w.alloc (.cells #[.slice ca cn cc, .slice (some ja) l.length jc, (.int .i64 now)] 43)).alloc (.cells #[(.int .i64 x.lv), (.int .i64 x.st)] 24)) _ 79 #[.pointer (some ⟨w.heap.size + 1, 0, none⟩)] (fun j => !blw j.l x) HR.out (by repeat (first | exact Ext.refl _ | apply Ext.plus | apply Ext.alloc | apply Ext.drew)) hgb hrl HK.out (fun _ _ => rfl) (fun W u j hx hu => seen1_any u j x _ W hu (hx.cell hc0) (hx.cell hc1))).mono ?_
  rintro e w3 ⟨k, rfl, hc, hR3⟩
  have HX := Lib.hid (hc.ext (show Ext w _ from (by repeat (first | exact Ext.refl _ | apply Ext.plus | apply Ext.alloc | apply Ext.drew))) (by simp at hgb ⊢; omega))
  have HX2 := Lib.hid (hc.ext (show Ext ((w.alloc (.cells #[.slice ca cn cc, .slice (some ja) l.length jc, (.int .i64 now)] 43)).alloc (.cells #[(.int .i64 x.lv), (.int .i64 x.st)] 24)) _ from (by repeat (first | exact Ext.refl _ | apply Ext.plus | apply Ext.alloc | apply Ext.drew))) (by simpa using hgb))
  have HR3 := Lib.hid (hR3.mono (show w.heap.size ≤ _ by simp; omega))
  clear hc hR3 hgb hc0 hc1 HR
  go_wp2
  go_ret
  refine ⟨g, k, cp, _, rfl, HX.out, HR3.out, ?_, fun r hr => ?_⟩
  · rw [← HM.out, List.filter_map]
    congr 1
    simp [Function.comp_def]
  · obtain ⟨h1, h2⟩ := HK.out r (List.mem_filter.1 hr).1
    exact ⟨h1, h2.ext rInt_stable HX2.out⟩
end Go.Proofs.Ytkhmdhdaldbbhaa
