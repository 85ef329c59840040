/- The draws of rows of spans, and of the laws' arguments. -/
import Derived.Test.YtkekfncgpbileaaT6
import Derived.Test.YtkekfncgpbileaaI6
import Derived.Test.YtkekfncgpbileaaQ3
import Derived.Test.YtkekfncgpbileaaT4
set_option maxRecDepth 100000
set_option linter.unusedVariables false
namespace Go
open Go.RowKit
section
variable {α : Type} {P : Program} {ops : Array Oper} {rest : List Oper} {op : Oper} {a : Act} {Q : Exit → Act → World → Prop}
/-- append of one element that was just laid, onto a list of ours, in a world of which nothing is said. -/
theorem Own.appN {t e : TypeId} {size bytes : Nat} {W : World} {cs : Array Value} {o : Ow α} (hlo : Local o) (hhe : Held o) (E : ElemInfo P t e size bytes) (hgd : op.guard = none) (s x : Operand)
    (ho : op.op = .call { callee := .builtin .append, args := #[s, x], argTypes := #[t, t] })
    (B : Nat) (hB : B ≤ W.heap.size) (v : Value) (xs : List α) (fp : List Nat) (hs : a.eval s = v) (hown : Own B W (oSl e size o) fp [v] xs)
    (b0 : Nat) (hb0 : b0 = W.heap.size) (hx : a.eval x = .slice (some ⟨b0, 0, none⟩) 1 1) (y : α) (fy : List Nat) (hy : Own B W o fy cs.toList y) (hcl : cs.size = size) (hap : ∀ b ∈ fp, b ∉ fy)
    (h1 : ∀ u ∈ cs.toList, u.oneCell' = true) (h63 : xs.length + 1 ≤ maxLen) (hbytes : (xs.length + 1) * bytes ≤ 140737488355328)
    (h : ∀ v' w' fp', Own B w' (oSl e size o) fp' [v'] (xs ++ [y]) → Chg (blkL v) W w' → wpList P ops Q rest (a.put op.dst v') w') : wpList P ops Q (op :: rest) a (W.alloc (.cells cs e)) := by
  subst hb0
  have hx1 : Ext W (W.alloc (.cells cs e)) := (Ext.refl _).alloc _
  refine Own.app1 hlo hhe E hgd s x ho B v xs fp hs (hown.ext (oSl_local hlo) (oSl_held hhe) hx1) ⟨W.heap.size, 0, none⟩ 1 hx y fy cs.toList (hy.ext hlo hhe hx1) (by simpa using hcl) hap (by rw [World.size_alloc]; omega) (fun j u hu => ?_) h1 h63 hbytes ?_
  · rw [Addr.add_lit, Nat.zero_add, World.cell?_alloc_new]
    simpa using hu
  · intro v' w' fp' hO hch _
    exact h v' w' fp' hO ((hx1.chg _).trans hch)
end
end Go
namespace Go.Proofs.Ytkekfncgpbileaa
open Go.RowKit Go.Fin1
theorem info_Rows : (Try.prog.info? 43).map (fun i => (i.zero, i.size, i.bytes)) = some (some (.slice none 0 0), 1, 24) := by kernel_rfl
theorem el_Rows : ElemInfo Try.prog 49 43 1 24 := by
  obtain ⟨i, hi, hz, hs, hb⟩ := info_parts info_Rows
  exact ⟨by kernel_rfl, ⟨i, _, hi, hz, hs, hb, rfl⟩, by decide⟩
abbrev oRows : Ow (List (List Spn)) := oSl 43 1 oSpanS
theorem oRows_local : Local oRows := oSl_local (oSl_local (oFlat_local _))
theorem oRows_held : Held oRows := oSl_held (oSl_held (oFlat_held _))
theorem oRows_r {w : World} {fp : List Nat} {v : Value} {l : List (List Spn)} (h : oRows w fp [v] l) (hok : ∀ x ∈ l, ∀ y ∈ x, y.ok) : SlR w 1 rSpnS v l := by
  obtain ⟨v', hv, hs⟩ := oSl_reads (r := rSl 2 (fun _ cs x => cs = x.cells)) (k := 1) (fun _ _ _ _ h => by
    obtain ⟨v', rfl, hs⟩ := oSl_reads (r := fun _ cs x => cs = x.cells) (k := 2) (fun _ _ _ _ ⟨_, hc⟩ => ⟨by rw [hc]; rfl, hc⟩) h
    exact ⟨rfl, v', rfl, hs⟩) h
  obtain rfl : v = v' := by simpa using hv
  exact slr_with hs fun cs x hx ⟨v', hv', hs'⟩ => ⟨v', hv', slr_with hs' fun cs y hy hc => ⟨hc, hok x hx y hy⟩⟩

set_option maxHeartbeats 3200000 in
theorem srcRows_any (g : Nat) (w : World) (cv : Value) (l : List Int) (h : SrcA w g cv l) :
    Calls Try.prog 76 #[.pointer (some ⟨g, 0, none⟩)] w fun e w' => ∃ v' xs fp, e = .returned v' ∧ Chg [g] w w' ∧ SrcA w' g cv l ∧ Own w.heap.size w' oRows fp [v'] xs ∧ (∀ x ∈ xs, ∀ y ∈ x, y.ok) ∧ xs.length ≤ 5 := by
  have HS := Lib.hid h
  have HG := Lib.hid h.old
  clear h
  have H4 : Hid (I64 4) := Lib.hid (by unfold I64; omega)
  go_enter Try.func76, Try.ntmps76
  go_wp2_with fail
  refine (srcN' g 4 _ cv l (HS.out.ext (by repeat (first | exact Ext.refl _ | apply Ext.plus | apply Ext.alloc | apply Ext.drew))) H4.out).mono ?_
  rintro e w2 ⟨n, rfl, hb, hc, hs⟩
  have HC := Lib.hid (((Ext.refl w).alloc _ |>.chg [g]).trans hc)
  have HA := Lib.hid hs
  have HR := Lib.hid ((Own.made (o := oSpanS) (W := w) (B := w.heap.size) (ty := 43) (K := 1) rfl (Nat.le_refl _)).chg (oSl_local oSpanS_local') (oSl_held oSpanS_held') hc (fun b hb => by have := HG.out; simp at hb; omega))
  have hn : n < 4 := by omega
  have hw1 : wrap64 (1 + (n : Int)) = 1 + (n : Int) := by unfold wrap64; omega
  clear hc hs hb
  go_wp2
  go_loopw [4, 3] (fun i o wr => ∃ k : Nat, ∃ xs : List (List Spn), ∃ fp, k ≤ 4 ∧ i = .int .i64 k ∧ Hid (Chg [g] w wr) ∧ Hid (SrcA wr g cv l) ∧ Hid (Own w.heap.size wr oRows fp [o] xs) ∧ Hid (∀ x ∈ xs, ∀ y ∈ x, y.ok) ∧ xs.length + k ≤ 4) (fun i _ _ => (intOf i).toNat)
  case atStart => exact ⟨n + 1, [], _, by omega, by push_cast; rw [Int.add_comm], HC, HA, HR, Lib.hid (fun x hx => by cases hx), by simp; omega⟩
  case round =>
    clear HC HA HR hn hw1
    obtain ⟨k, xs, fp, hk, rfl, HC, HA, HR, HK, hxl⟩ := hrel
    obtain ⟨a1, c1, rfl⟩ := HR.out.shape
    by_cases hlt : 0 < k
    · have hb1 : decide ((k : Int) > 0) = true := decide_eq_true (by omega)
      go_wp2_with fail
      refine (srcSpans_any g _ cv l HA.out).mono ?_
      rintro e w3 ⟨v3, ys, rfl, hc, hs, hR3, hok, hyl⟩
      have HC3 := Lib.hid (HC.out.trans hc)
      have HA3 := Lib.hid hs
      have HO3 := Lib.hid (HR.out.chg oRows_local oRows_held hc (fun b hb => by have := HG.out; simp at hb; omega))
      obtain ⟨a3, c3, rfl⟩ := hR3.shape
      obtain ⟨fy, hy⟩ := Row.own (f := Spn.cells) (K := 2) (fun _ => rfl) hR3
      have hst := oRows_held _ _ _ _ HR.out.1
      have HAP : Hid (∀ b ∈ fp, b ∉ fy) := Lib.hid (fun b hb hby => by have h1 := hst b hb; have h2 := hy.2.2 b hby; omega)
      have HY := Lib.hid (hy.mono HC.out.size)
      have HOK := Lib.hid hok
      clear hc hs hR3 hok hyl hy hst HA
      go_wp2_with (at_builtin; go_must (refine Own.appN oSpanS_local' oSpanS_held' el_Rows rfl _ _ rfl w.heap.size HC3.out.size _ xs fp rfl HO3.out _ rfl rfl ys fy HY.out rfl HAP.out ?_ ?_ ?_ ?_); (intro u hu; simp at hu; subst hu; rfl); (unfold maxLen; omega); omega; intro v' w4 fp' hO4 hc4; have HO4 := Lib.hid hO4; have HC4 := Lib.hid hc4; clear hO4 hc4)
      exact ⟨⟨k - 1, _, _, by omega, by go_num, Lib.hid (HC3.out.past HC4.out (fun b hb => HO3.out.2.2 b (HO3.out.blkL_in b hb))), Lib.hid (HA3.out.chg HS.out HC4.out (fun b hb => HO3.out.2.2 b (HO3.out.blkL_in b hb))), HO4, Lib.hid (fun x hx => by
        rcases List.mem_append.1 hx with hx | hx
        · exact HK.out x hx
        · obtain rfl := List.mem_singleton.1 hx
          exact HOK.out), by simp; omega⟩, by simp [intOf]; omega⟩
    · have hb1 : decide ((k : Int) > 0) = false := decide_eq_false (by omega)
      go_wp2
      go_ret
      exact ⟨_, xs, fp, rfl, HC.out, HA.out, HR.out, HK.out, by omega⟩
end Go.Proofs.Ytkekfncgpbileaa
