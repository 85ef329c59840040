/- The draw of the law of chains. -/
import Derived.Test.YtocadhcggkbimaaDoorLU4
set_option maxRecDepth 100000
set_option linter.unusedVariables false
namespace Go.Proofs.YtocadhcggkbimaaDoor
open Go.RowKit Go.Fin1
set_option maxHeartbeats 1600000 in
theorem drawChain_any (v : Value) (l : List Int) (w : World) (h : SlR w 1 rU8 v l) (hl : l.length ≤ 1048576) :
    Calls Tryd.prog 12 #[v] w fun e w' => ∃ v' xs, e = .returned v' ∧ SlR w' 2 (rc Lab.cells) v' xs ∧ (∀ y ∈ xs, y.ok) ∧ Ext w w' := by
  have HS := Lib.hid h
  have H4 : Hid (I64 4) := Lib.hid (by unfold I64; omega)
  have H10 : Hid (I64 10) := Lib.hid (by unfold I64; omega)
  clear h
  go_enter Tryd.func12, Tryd.ntmps12
  go_wp2_with fail
  refine (l01Source_any v l _ (HS.out.ext rU8_stable (by repeat (first | exact Ext.refl _ | apply Ext.plus | apply Ext.alloc | apply Ext.drew))) hl).mono ?_
  rintro e w2 ⟨g, rfl, hg, hx, hs⟩
  have HG := Lib.hid hg
  have HX := Lib.hid hx
  have HA := Lib.hid hs
  clear hx hs hg
  go_wp2_with fail
  refine (srcChain_any g _ v l HA.out).mono ?_
  rintro e w3 ⟨v3, xs, rfl, hc, hs, hR, hok, hxl⟩
  obtain ⟨a3, c3, rfl⟩ := hR.shape
  have HC := Lib.hid hc
  have HA3 := Lib.hid hs
  have HR := Lib.hid hR
  have HOK := Lib.hid hok
  clear hc hs hR hok
  have HGS : Hid (g < w2.heap.size) := Lib.hid HA.out.old
  go_wp2_with fail
  refine (srcOne_any g 4 _ v l HA3.out H4.out).mono ?_
  rintro e w4 ⟨b, rfl, hc, hs⟩
  have HC4 := Lib.hid (HC.out.trans hc)
  have HA4 := Lib.hid hs
  have HR4 := Lib.hid (HR.out.chg hc (fun b hb => by have := (HR.out.blk b hb).1; have := HGS.out; simp; omega))
  clear hc hs HC HA3 HR
  cases b
  · go_wp2_with fail
    refine (srcOne_any g 10 _ v l HA4.out H10.out).mono ?_
    rintro e w5 ⟨b, rfl, hc, hs⟩
    have HX5 := Lib.hid ((HC4.out.trans hc).ext HX.out (by simpa using HG.out))
    have HR5 := Lib.hid (HR4.out.chg hc (fun b hb => by have := (HR4.out.blk b hb).1; have := HGS.out; simp; omega))
    clear hc hs
    cases b
    · go_wp2
      go_ret
      exact ⟨_, xs, rfl, row_labR HR5.out, HOK.out, HX5.out⟩
    · go_wp2
      go_ret
      exact ⟨_, [], rfl, row_labR (Row.nil _ 0 _ _ _), (fun y hy => by cases hy), HX5.out⟩
  · go_wp2_with fail
    refine (srcLabel_any g _ v l HA4.out).mono ?_
    rintro e w5 ⟨z, rfl, hzo, hc, hs⟩
    have HC5 := Lib.hid (HC4.out.trans hc)
    have HA5 := Lib.hid hs
    have HR5 := Lib.hid (HR4.out.chg hc (fun b hb => by have := (HR4.out.blk b hb).1; have := HGS.out; simp; omega))
    have HZ := Lib.hid hzo
    have hsz5 : w2.heap.size ≤ w5.heap.size := HC5.out.size
    clear hc hs hzo HC4 HA4 HR4
    go_upto_region 5 with (at_builtin; go_must (refine Row.appN (f := Lab.cells) el_LabelR rfl _ _ rfl w2.heap.size hsz5 _ xs rfl HR5.out z rfl _ ?_ rfl (fun _ => rfl) ?_ ?_ ?_ ?_); (simp); (simp [Value.oneCell']); (unfold maxLen; omega); omega; intro v' w8 hR8 hc8; have HR8 := Lib.hid hR8; have HC8 := Lib.hid hc8; clear hR8 hc8)
    have HC9 := Lib.hid (HC5.out.past HC8.out (fun b hb => (HR5.out.blk b hb).1))
    have HA9 := Lib.hid (HA5.out.chg HA.out HC8.out (fun b hb => (HR5.out.blk b hb).1))
    have HOK9 : Hid (∀ y ∈ xs ++ [z], y.ok) := Lib.hid (fun y hy => by
      rcases List.mem_append.1 hy with hy | hy
      · exact HOK.out y hy
      · obtain rfl := List.mem_singleton.1 hy
        exact HZ.out)
    obtain ⟨a8, c8, rfl⟩ := HR8.out.shape
    rw [show (xs ++ [z]).length = xs.length + 1 by simp] at HR8 ⊢
    clear HC5 HA5 HR5 HC8
    go_wp2_with fail
    refine (srcOne_any g 10 _ v l HA9.out H10.out).mono ?_
    rintro e w9 ⟨b, rfl, hc, hs⟩
    have HX9 := Lib.hid ((HC9.out.trans hc).ext HX.out (by simpa using HG.out))
    have HR9 := Lib.hid (HR8.out.chg hc (fun b hb => by have := (HR8.out.blk b hb).1; have := HGS.out; simp; omega))
    clear hc hs
    cases b
    · go_wp2
      go_ret
      exact ⟨_, _, rfl, row_labR HR9.out, HOK9.out, HX9.out⟩
    · go_wp2
      go_ret
      exact ⟨_, [], rfl, row_labR (Row.nil _ 0 _ _ _), (fun y hy => by cases hy), HX9.out⟩
end Go.Proofs.YtocadhcggkbimaaDoor
