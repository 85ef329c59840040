/- The walks of PoolRight. -/
import Derived.Test.YtbmbanelodabgaaGreatDoorKZZ1
import Derived.Test.YtbmbanelodabgaaGreatDoorKQJ
import Derived.Test.YtbmbanelodabgaaGreatDoorKJE
import Derived.Test.YtbmbanelodabgaaGreatDoorKQA1
import Derived.Test.YtbmbanelodabgaaGreatDoorKBG
import Derived.Deep.Cut
set_option maxRecDepth 100000
set_option linter.unusedVariables false
namespace Go.Proofs.YtbmbanelodabgaaGreatDoor
open Go.RowKit Go.Fin1

def foldO {α β : Type} (f : β → α → Option β) (o : Option β) (l : List α) : Option β := l.foldl (fun o a => o.bind (f · a)) o
theorem foldO_none {α β : Type} (f : β → α → Option β) : ∀ l : List α, foldO f none l = none
  | [] => rfl
  | a :: l => foldO_none f l
theorem foldO_app {α β : Type} (f : β → α → Option β) (o : Option β) (l m : List α) : foldO f o (l ++ m) = foldO f (foldO f o l) m := by unfold foldO; rw [List.foldl_append]
theorem foldO_take {α β : Type} (f : β → α → Option β) (o : Option β) {l : List α} {k : Nat} (h : k < l.length) : foldO f o (l.take (k + 1)) = (foldO f o (l.take k)).bind (f · l[k]) := by
  rw [List.take_succ_eq_append_getElem h, foldO_app]; rfl
theorem foldO_stop {α β : Type} (f : β → α → Option β) (o : Option β) (l : List α) (k : Nat) (h : foldO f o (l.take k) = none) : foldO f o l = none := by
  rw [← List.take_append_drop k l, foldO_app, h, foldO_none]

/-- A node is taken for a label. -/
def step1 (cl : List (List Lab)) (x : Lab) (u : List Bool) (n : Int) : Option (List Bool) :=
  if (decide (n < cl.length) && hasL (cl.getD n.toNat []) x && !u.getD n.toNat true) = true then some (u.set n.toNat true) else none
/-- The nodes of a job are taken. -/
def stepJ (cl : List (List Lab)) (now : Int) (u : List Bool) (j : Jb) : Option (List Bool) :=
  if j.state = 2 then (if now < j.start ∨ j.start + j.long ≤ now then none else foldO (step1 cl j.l) (some u) j.nodes) else some u
abbrev u0 : List Bool := [false, false, false, false, false, false]
@[irreducible] def poolR (p : Pl) : Bool := clearR p.clear && jobsR p.jobs && isIn p.now 0 999900 && (foldO (stepJ p.clear p.now) (some u0) p.jobs).isSome
theorem poolR_no {p : Pl} (h : (clearR p.clear && jobsR p.jobs && isIn p.now 0 999900) = false) : poolR p = false := by unfold poolR; rw [h]; rfl
theorem poolR_yes {p : Pl} (h1 : clearR p.clear = true) (h2 : jobsR p.jobs = true) (h3 : isIn p.now 0 999900 = true) : poolR p = (foldO (stepJ p.clear p.now) (some u0) p.jobs).isSome := by unfold poolR; rw [h1, h2, h3]; rfl
theorem nodesUp_at {l : List Int} (h : nodesUp l = true) {i : Nat} (hi : i < l.length) : isIn l[i] 0 5 = true := by
  unfold nodesUp at h
  rw [List.all_eq_true] at h
  have := h i (List.mem_range.2 hi)
  unfold nodeAt at this
  rw [Bool.and_eq_true] at this
  simpa [hi] using this.1
/-- What a right job that runs has. -/
theorem jobR_run {j : Jb} (h : jobR j = true) (hs : j.state = 2) : (0 ≤ j.start ∧ j.start ≤ 1000000) ∧ (1 ≤ j.long ∧ j.long ≤ 20) ∧ nodesUp j.nodes = true ∧ j.nodes.length ≤ 6 := by
  unfold jobR at h
  rw [if_pos hs] at h
  simp only [Bool.and_eq_true, decide_eq_true_eq, isIn_iff] at h
  exact ⟨⟨by omega, by omega⟩, ⟨by omega, by omega⟩, h.2.2.2, by omega⟩
theorem jobR_not {j : Jb} (h : jobR j = true) (hs : ¬ j.state = 2) : j.nodes = [] := by
  unfold jobR at h
  rw [if_neg hs] at h
  simp only [Bool.and_eq_true, decide_eq_true_eq] at h
  exact List.eq_nil_of_length_eq_zero h.2.2
theorem jobsR_job {l : List Jb} (h : jobsR l = true) {i : Nat} (hi : i < l.length) : jobR l[i] = true := by
  have := jobsR_at h hi
  rw [jobAt_eq hi, Bool.and_eq_true] at this
  exact this.1

/-- Block g holds these booleans. -/
def BoxU (w : World) (g : Nat) (u : List Bool) : Prop := u.length = 6 ∧ ∃ ty, w.heap[g]? = some (.cells (u.map Value.bool).toArray ty (0, 0))
theorem BoxU.ext {w w' : World} {g : Nat} {u : List Bool} (h : BoxU w g u) (hx : Ext w w') : BoxU w' g u := by
  obtain ⟨hl, ty, h⟩ := h
  obtain ⟨X, rfl⟩ := hx
  exact ⟨hl, ty, by rw [World.heap_plus w X g (Array.getElem?_eq_some_iff.1 h).1]; exact h⟩
theorem BoxU.new (W : World) (ty : TypeId) : BoxU (W.alloc (.cells #[.bool false, .bool false, .bool false, .bool false, .bool false, .bool false] ty)) W.heap.size u0 := ⟨rfl, ty, heap_alloc_new W _⟩
theorem BoxU.new2 (w : World) (o : Obj) (X Y : More) (ty : TypeId) : BoxU ((((w.alloc o).plus X).plus Y).alloc (.cells #[.bool false, .bool false, .bool false, .bool false, .bool false, .bool false] ty)) (w.heap.size + 1 + X.n + Y.n) u0 := by
  have h := BoxU.new (((w.alloc o).plus X).plus Y) ty
  rw [World.size_plus, World.size_plus, World.size_alloc] at h
  exact h
theorem BoxU.at {w : World} {g : Nat} {u : List Bool} (h : BoxU w g u) : w.old g ∧ (∀ i, w.frozen? ⟨g, i, none⟩ = false) ∧ ∀ i, i < 6 → w.cell? ⟨g, i, none⟩ = some (.bool (u.getD i true)) := by
  obtain ⟨hl, ty, h⟩ := h
  refine ⟨(Array.getElem?_eq_some_iff.1 h).1, frozen_of_heap h, fun i hi => ?_⟩
  rw [cell_of_heap h]
  simp [show i < u.length by omega]
theorem BoxU.put {w : World} {g : Nat} {u : List Bool} (h : BoxU w g u) (i : Nat) (b : Bool) : BoxU (w.setCell ⟨g, i, none⟩ (.bool b)) g (u.set i b) := by
  obtain ⟨hl, ty, h⟩ := h
  refine ⟨by simpa using hl, ty, ?_⟩
  rw [setCell_heap h]
  simp [List.map_set]
theorem CellsAt.put {w : World} {b : Nat} {cs : List Value} (h : CellsAt w b cs) {g i : Nat} (hg : b ≠ g) (v : Value) : CellsAt (w.setCell ⟨g, i, none⟩ v) b cs := fun j u hu => by
  have := h j u hu
  simp only [World.cell?, World.setCell, Array.getElem?_modify, if_neg (Ne.symm hg)] at this ⊢
  exact this

theorem stepJ_not {cl : List (List Lab)} {now : Int} {u : List Bool} {j : Jb} (h : ¬ j.state = 2) : stepJ cl now u j = some u := by unfold stepJ; rw [if_neg h]
theorem stepJ_off {cl : List (List Lab)} {now : Int} {u : List Bool} {j : Jb} (h : j.state = 2) (h2 : now < j.start ∨ j.start + j.long ≤ now) : stepJ cl now u j = none := by unfold stepJ; rw [if_pos h, if_pos h2]
theorem stepJ_on {cl : List (List Lab)} {now : Int} {u : List Bool} {j : Jb} (h : j.state = 2) (h2 : ¬ (now < j.start ∨ j.start + j.long ≤ now)) : stepJ cl now u j = foldO (step1 cl j.l) (some u) j.nodes := by unfold stepJ; rw [if_pos h, if_neg h2]
theorem step1_far {cl : List (List Lab)} {x : Lab} {u : List Bool} {q : Nat} (h : cl.length ≤ q) : step1 cl x u q = none := by
  unfold step1
  rw [if_neg]
  simp; omega
theorem step1_at {cl : List (List Lab)} {x : Lab} {u : List Bool} {q : Nat} (h : q < cl.length) : step1 cl x u q = if (hasL cl[q] x && !u.getD q true) = true then some (u.set q true) else none := by
  unfold step1
  simp [h]

theorem CellsAt.old {w : World} {b : Nat} {cs : List Value} (h : CellsAt w b cs) {u : Value} (hu : cs[0]? = some u) : w.old b := World.block_lt_of_cell? w _ (h 0 u hu)
theorem CellsAt.new1 (w : World) (o : Obj) (X : More) (cs : List Value) (ty : TypeId) : CellsAt (((w.alloc o).plus X).alloc (.cells cs.toArray ty)) (w.heap.size + 1 + X.n) cs := fun i u hu => by
  have : (((w.alloc o).plus X)).heap.size = w.heap.size + 1 + X.n := by rw [World.size_plus, World.size_alloc]
  rw [← this, World.cell?_alloc_new]; simpa using hu
set_option maxHeartbeats 3200000 in
theorem implPoolRight_yes (cl : List (List Lab)) (l : List Jb) (now : Int) (a : Option Addr) (c : Nat) (b : Option Addr) (d : Nat) (w : World) (h1 : SlR w 1 rLabS (.slice a cl.length c) cl) (h2 : SlR w 9 rJob (.slice b l.length d) l)
    (q1 : clearR cl = true) (q2 : jobsR l = true) (q3 : isIn now 0 999900 = true) :
    Calls Tryz.prog 76 #[.agg #[.slice a cl.length c, .slice b l.length d, (.int .i64 now)]] w fun e w' => e = .returned (.bool (foldO (stepJ cl now) (some u0) l).isSome) ∧ Ext w w' := by
  obtain ⟨_, hlc, hcm⟩ := slr_len h2
  obtain ⟨_, hlc1, hcm1⟩ := slr_len h1
  have hlm : l.length ≤ 9223372036854775807 := by unfold maxLen at hcm; omega
  have hlm1 : cl.length ≤ 9223372036854775807 := by unfold maxLen at hcm1; omega
  clear hcm hlc hcm1 hlc1
  have HC := tH h1
  have HJ := tH h2
  clear h1 h2
  have hnow := isIn_iff.1 q3
  go_enter Tryz.func76, Tryz.ntmps76
  go_wp2_with fail
  refine (clearRight_any _ cl _ (HC.out.ext rLabS_stable xE)).mono ?_
  rintro e _ ⟨rfl, ⟨X1, rfl⟩⟩
  rw [q1]
  go_wp2_with fail
  refine (implJobsRight_any _ l _ (HJ.out.ext rJob_stable xE)).mono ?_
  rintro e _ ⟨rfl, ⟨X2, rfl⟩⟩
  rw [q2]
  go_wp2_with (go_at_call 113; refine (isNow_any _ _).mono ?_; rintro e _ ⟨rfl, rfl⟩; rw [q3])
  have HQ2 := tH q2
  clear q1 q2 q3
  go_loopw [28, 5, 7] (fun i _ _ wr => ∃ k : Nat, ∃ u : List Bool, k ≤ l.length ∧ i = .int .i64 k ∧ Ext (w.alloc (.cells #[.slice a cl.length c, .slice b l.length d, (.int .i64 now)] 41)) wr ∧ Hid (foldO (stepJ cl now) (some u0) (l.take k) = some u) ∧ Hid (BoxU wr (w.heap.size + 1 + X1.n + X2.n) u)) (fun i _ _ _ => l.length - (intOf i).toNat)
  case atStart =>
    exact ⟨0, u0, Nat.zero_le _, rfl, xE, tH rfl, tH (BoxU.new2 _ _ _ _ _)⟩
  case round =>
    obtain ⟨k, u, hk, rfl, ⟨X, rfl⟩, HF, HU⟩ := hrel
    by_cases hlt : k < l.length
    · obtain ⟨bj, offj, rfl⟩ := slr_some HJ.out hlt
      obtain ⟨ho, an, cn, hok, hsn, c0, c1, c2, c3, c4, c5, c6, c7, c8⟩ := job_at HJ.out hlt
      have HN := tH hsn
      clear hsn
      have HT := tH (foldO_take (stepJ cl now) (some u0) hlt)
      by_cases hs : l[k].state = 2
      · have hb : (l[k].state == 2) = true := by simp [hs]
        obtain ⟨⟨hs1, hs2⟩, ⟨hg1, hg2⟩, hup, hn6⟩ := jobR_run (jobsR_job HQ2.out hlt) hs
        have HSt := tH hs
        clear hs
        have hold := HU.out.at.1
        have hog : w.heap.size + 1 + X1.n + X2.n < w.heap.size + 1 + X.n := by
          have := hold
          unfold World.old at this
          rw [World.size_plus, World.size_alloc] at this
          omega
        by_cases ht : now < l[k].start ∨ l[k].start + l[k].long ≤ now
        · have HE := tH (foldO_stop (stepJ cl now) (some u0) l (k + 1) (by rw [HT.out, HF.out]; exact stepJ_off HSt.out ht))
          by_cases ht1 : now < l[k].start
          · go_wp2
            go_ret
            exact ⟨ret_bool (by rw [HE.out]; rfl), xE⟩
          · have ht2 : l[k].start + l[k].long ≤ now := by omega
            go_wp2
            go_ret
            exact ⟨ret_bool (by rw [HE.out]; rfl), xE⟩
        · have HE := tH (by rw [HT.out, HF.out]; exact stepJ_on HSt.out ht : foldO (stepJ cl now) (some u0) (l.take (k + 1)) = foldO (step1 cl l[k].l) (some u) l[k].nodes)
          have ht1 : ¬ now < l[k].start := by omega
          have ht2 : ¬ l[k].start + l[k].long ≤ now := by omega
          go_wp2
          go_loopw [53, 7] (fun i _ wr => ∃ m : Nat, ∃ u' : List Bool, m ≤ l[k].nodes.length ∧ i = .int .i64 m ∧ Ext (w.alloc (.cells #[.slice a cl.length c, .slice (some ⟨bj, offj, none⟩) l.length d, (.int .i64 now)] 41)) wr ∧ Hid (foldO (step1 cl l[k].l) (some u) (l[k].nodes.take m) = some u') ∧ Hid (BoxU wr (w.heap.size + 1 + X1.n + X2.n) u') ∧ Hid (CellsAt wr (w.heap.size + 1 + X.n) (l[k].cells (.slice an l[k].nodes.length cn)))) (fun i _ _ => l[k].nodes.length - (intOf i).toNat)
          case atStart => 
            exact ⟨0, u, Nat.zero_le _, rfl, xE, tH rfl, tH (HU.out.ext xE), tH (CellsAt.new1 _ _ _ _ _)⟩
          case round =>
            obtain ⟨m, u', hm, rfl, ⟨X', rfl⟩, HF', HU', HA⟩ := hrel
            by_cases hlt2 : m < l[k].nodes.length
            · obtain ⟨bn, offn, rfl⟩ := slr_some HN.out hlt2
              obtain ⟨hon, hokn, hn0⟩ := int_at HN.out hlt2
              have hnn := isIn_iff.1 (nodesUp_at hup hlt2)
              have HS1 := tH (foldO_take (step1 cl l[k].l) (some u) hlt2)
              obtain ⟨q, hq⟩ := Int.eq_ofNat_of_zero_le hnn.1
              have hq6 : q < 6 := by omega
              rw [hq] at hn0 HS1
              clear hokn hnn
              obtain ⟨hoh, hfz, hcu⟩ := HU'.out.at
              have hcq := hcu q hq6
              clear hcu
              have ca0 := HA.out 0 _ rfl
              have ca1 := HA.out 1 _ rfl
              have hoA := CellsAt.old (u := .int .i64 l[k].l.lv) HA.out rfl
              go_upto_region 13 with fail
              have HX : step1 cl l[k].l u' q = none → Hid (foldO (stepJ cl now) (some u0) l = none) := fun h => tH (foldO_stop _ _ _ (k + 1) (by rw [HE.out]; exact foldO_stop _ _ _ (m + 1) (by rw [HS1.out, HF'.out]; exact h)))
              by_cases hqc : cl.length ≤ q
              · replace HX := HX (step1_far hqc)
                (refine wp_region_x 21 (by kernel_rfl) (by kernel_rfl) (by kernel_rfl) ?_; (iterate 21 (apply XReg.step; (case h => (intro w' hw'; obtain ⟨X', rfl⟩ := hw'; go_wp2_with (fail); exact ⟨rfl, xE⟩)); (case hv => kernel_rfl))); refine XReg.doneN (fun X => ?_))
                go_wp2
                go_ret
                exact ⟨ret_bool (by rw [HX.out]; rfl), xE⟩
              · have hql : q < cl.length := by omega
                have hst := tH (step1_at (x := l[k].l) (u := u') hql)
                obtain ⟨ba, offa, rfl⟩ := slr_some HC.out hql
                obtain ⟨hor, vx, hsx, hcr⟩ := sl_at HC.out hql
                obtain ⟨ax, cx, rfl⟩ := hsx.len
                have HR := tH hsx
                clear hsx
                cases hh : hasL cl[q] l[k].l
                · replace HX := HX (by rw [hst.out, hh]; rfl)
                  (refine wp_region_x 21 (by kernel_rfl) (by kernel_rfl) (by kernel_rfl) ?_; (iterate 21 (apply XReg.step; (case h => (intro w' hw'; obtain ⟨X', rfl⟩ := hw'; go_wp2_with ((go_at_call 78; refine (containsLab_any _ cl[q] l[k].l _ (HR.out.ext rLab_stable xE)).mono ?_; rintro e _ ⟨rfl, Y, rfl⟩)); exact ⟨rfl, xE⟩)); (case hv => kernel_rfl))); refine XReg.doneN (fun X => ?_))
                  go_wp2
                  go_ret
                  exact ⟨ret_bool (by rw [HX.out]; rfl), xE⟩
                cases hu : u'.getD q true
                all_goals rw [hu] at hcq
                all_goals (refine wp_region_x 21 (by kernel_rfl) (by kernel_rfl) (by kernel_rfl) ?_; (iterate 21 (apply XReg.step; (case h => (intro w' hw'; obtain ⟨X', rfl⟩ := hw'; go_wp2_with ((go_at_call 78; refine (containsLab_any _ cl[q] l[k].l _ (HR.out.ext rLab_stable xE)).mono ?_; rintro e _ ⟨rfl, Y, rfl⟩)); exact ⟨rfl, xE⟩)); (case hv => kernel_rfl))); refine XReg.doneN (fun X => ?_))
                all_goals go_wp2
                · exact ⟨⟨m + 1, u'.set q true, by omega, by go_num, .plus (.setCell xE (by simp only [World.size_alloc]; omega) _) _, tH (by rw [HS1.out, HF'.out]; exact hst.out.trans (by rw [hh, hu]; rfl)), tH ((BoxU.put HU'.out q true).ext xE), tH ((CellsAt.put (g := w.heap.size + 1 + X1.n + X2.n) (i := q) HA.out (by omega) (.bool true)).ext xE)⟩, by simp [intOf]; omega⟩
                · replace HX := HX (by rw [hst.out, hh, hu]; rfl)
                  go_ret
                  exact ⟨ret_bool (by rw [HX.out]; rfl), xE⟩
            · obtain rfl : m = l[k].nodes.length := by omega
              go_wp2
              exact ⟨⟨k + 1, u', by omega, by go_num, xE, tH (by rw [HE.out, ← HF'.out, List.take_length]), tH (HU'.out.ext xE)⟩, by simp [intOf]; omega⟩
      · have hb : (l[k].state == 2) = false := by simp [hs]
        go_wp2
        exact ⟨⟨k + 1, u, by omega, by go_num, xE, tH (by rw [HT.out, HF.out]; exact stepJ_not hs), tH (HU.out.ext xE)⟩, by simp [intOf]; omega⟩
    · go_wp2
      go_ret
      obtain rfl : k = l.length := by omega
      exact ⟨ret_bool (by rw [← List.take_length (l := l), HF.out]; rfl), xE⟩

set_option maxHeartbeats 3200000 in
theorem implPoolRight_any (p : Pl) (v : Value) (w : World) (h : ePool w v p) :
    Calls Tryz.prog 76 #[v] w fun e w' => e = .returned (.bool (poolR p)) ∧ Ext w w' := by
  obtain ⟨a, c, b, d, rfl, h0, h1, h2⟩ := h
  cases q1 : clearR p.clear <;> cases q2 : jobsR p.jobs <;> cases q3 : isIn p.now 0 999900
  all_goals first
    | (rw [poolR_yes q1 q2 q3]
       exact implPoolRight_yes p.clear p.jobs p.now a c b d w h1 h2 q1 q2 q3)
    | (have HN := tH (poolR_no (p := p) (by rw [q1, q2, q3]; rfl))
       have HC := tH h1
       have HJ := tH h2
       clear h0 h1 h2
       go_enter Tryz.func76, Tryz.ntmps76
       unfold Pl.val
       go_wp2_with (first | (go_at_call 111; refine (clearRight_any _ p.clear _ (HC.out.ext rLabS_stable xE)).mono ?_; rintro e _ ⟨rfl, ⟨X1, rfl⟩⟩; rw [q1]) | (go_at_call 112; refine (implJobsRight_any _ p.jobs _ (HJ.out.ext rJob_stable xE)).mono ?_; rintro e _ ⟨rfl, ⟨X2, rfl⟩⟩; rw [q2]) | (go_at_call 113; refine (isNow_any _ _).mono ?_; rintro e _ ⟨rfl, rfl⟩; rw [q3]))
       go_ret
       exact ⟨ret_bool HN.out.symm, xE⟩)
end Go.Proofs.YtbmbanelodabgaaGreatDoor

set_option maxRecDepth 100000
set_option linter.unusedVariables false
namespace Go.Proofs.YtbmbanelodabgaaGreatDoor
open Go.RowKit Go.Fin1

theorem info_Bool : (Tryz.prog.info? 4).map (fun i => (i.zero, i.size, i.bytes)) = some (some (.bool false), 1, 1) := by kernel_rfl

section
variable {P : Program} {ops : Array Oper} {rest : List Oper} {op : Oper} {a : Act} {Q : Exit → Act → World → Prop}
theorem make_u {t e : TypeId} {W : World} {i : TypeInfo} (hu : P.underlying t = some (.slice e)) (hi : P.info? e = some i) (hz : i.zero = some (.bool false)) (hs : i.size = 1) (hby : i.bytes = 1) (hgd : op.guard = none) (l c : Operand) (hop : op.op = Op.makeSlice t l c) (w0 : World) (hext : Ext w0 W)
    (hl : a.eval l = .int .i64 6) (hc : a.eval c = .int .i64 6)
    (h : ∀ X g, BoxU (w0.plus X) g u0 → w0.heap.size ≤ g → wpList P ops Q rest (a.put op.dst (.slice (some ⟨g, 0, none⟩) 6 6)) (w0.plus X)) : wpList P ops Q (op :: rest) a W := by
  refine wpList_make_full W hgd l c t hop w0.heap.size e i _ 1 hu hi hz hs .i64 .i64 6 6 6 hl hc rfl rfl (by rw [hby]; decide) (by decide) hext.below.size ?_
  intro w' hown hg
  obtain ⟨X, rfl⟩ := hext.grown hg (fun k hk => by cases hk)
  obtain ⟨_, h2⟩ := hown
  rcases h2 with ⟨h2, _⟩ | ⟨g, cap, cur, hv, hbg, hgg, hn, hcap, hsz, hcur⟩
  · cases h2
  · simp at hv
    obtain ⟨rfl, rfl⟩ := hv
    refine h X _ ⟨rfl, e, ?_⟩ hbg
    rw [hgg]
    have : cur = (u0.map Value.bool).toArray := by
      apply Array.toList_inj.1
      rw [← List.take_of_length_le (l := cur.toList) (i := 6) (by simp [hsz]), hcur]
      first | kernel_rfl | simp [madeCells, Value.cells]
    rw [this]
end

set_option maxHeartbeats 3200000 in
theorem specPoolRight_yes (cl : List (List Lab)) (l : List Jb) (now : Int) (a : Option Addr) (c : Nat) (b : Option Addr) (d : Nat) (w : World) (h1 : SlR w 1 rLabS (.slice a cl.length c) cl) (h2 : SlR w 9 rJob (.slice b l.length d) l)
    (q1 : clearR cl = true) (q2 : jobsR l = true) (q3 : isIn now 0 999900 = true) :
    Calls Tryz.prog 58 #[.agg #[.slice a cl.length c, .slice b l.length d, (.int .i64 now)]] w fun e w' => e = .returned (.bool (foldO (stepJ cl now) (some u0) l).isSome) ∧ Ext w w' := by
  obtain ⟨_, hlc, hcm⟩ := slr_len h2
  obtain ⟨_, hlc1, hcm1⟩ := slr_len h1
  have hlm : l.length ≤ 9223372036854775807 := by unfold maxLen at hcm; omega
  have hlm1 : cl.length ≤ 9223372036854775807 := by unfold maxLen at hcm1; omega
  clear hcm hlc hcm1 hlc1
  have HC := tH h1
  have HJ := tH h2
  clear h1 h2
  have hnow := isIn_iff.1 q3
  go_enter Tryz.func58, Tryz.ntmps58
  go_wp2_with fail
  refine (l05Clear_any _ cl _ (HC.out.ext rLabS_stable xE)).mono ?_
  rintro e _ ⟨rfl, ⟨X1, rfl⟩⟩
  rw [q1]
  go_wp2_with fail
  refine (specJobsRight_any _ l _ (HJ.out.ext rJob_stable xE)).mono ?_
  rintro e _ ⟨rfl, ⟨X2, rfl⟩⟩
  rw [q2]
  obtain ⟨ib, hib, hzb, hsb, hbb⟩ := info_parts info_Bool
  go_wp2_with (first | (go_at_call 88; refine (l03Now_any _ _).mono ?_; rintro e _ ⟨rfl, rfl⟩; rw [q3]) | (at_make; refine make_u Tryz.underlying118 hib hzb hsb hbb rfl _ _ rfl (w.alloc (.cells #[.slice a cl.length c, .slice b l.length d, (.int .i64 now)] 41)) xE rfl rfl ?_; intro X3 g hBU hBg; have HBU := tH hBU; have HBg := tH hBg; clear hBU hBg))
  have HQ2 := tH q2
  have hBg := HBg.out
  rw [World.size_alloc] at hBg
  clear q1 q2 q3 hib hzb hsb hbb HBg
  go_loopw [4, 5, 6, 7] (fun i _ _ _ wr => ∃ k : Nat, ∃ u : List Bool, k ≤ l.length ∧ i = .int .i64 k ∧ Ext (w.alloc (.cells #[.slice a cl.length c, .slice b l.length d, (.int .i64 now)] 41)) wr ∧ Hid (foldO (stepJ cl now) (some u0) (l.take k) = some u) ∧ Hid (BoxU wr g u)) (fun i _ _ _ _ => l.length - (intOf i).toNat)
  case atStart =>
    exact ⟨0, u0, Nat.zero_le _, rfl, xE, tH rfl, HBU⟩
  case round =>
    clear HBU
    obtain ⟨k, u, hk, rfl, ⟨X, rfl⟩, HF, HU⟩ := hrel
    by_cases hlt : k < l.length
    · obtain ⟨bj, offj, rfl⟩ := slr_some HJ.out hlt
      obtain ⟨ho, an, cn, hok, hsn, c0, c1, c2, c3, c4, c5, c6, c7, c8⟩ := job_at HJ.out hlt
      have HN := tH hsn
      clear hsn
      have HT := tH (foldO_take (stepJ cl now) (some u0) hlt)
      have hold := HU.out.at.1
      have hog : g < w.heap.size + 1 + X.n := by
        have := hold
        unfold World.old at this
        rw [World.size_plus, World.size_alloc] at this
        omega
      by_cases hs : l[k].state = 2
      · have hb : (l[k].state == 2) = true := by simp [hs]
        obtain ⟨⟨hs1, hs2⟩, ⟨hg1, hg2⟩, hup, hn6⟩ := jobR_run (jobsR_job HQ2.out hlt) hs
        have HSt := tH hs
        clear hs
        by_cases ht : now < l[k].start ∨ l[k].start + l[k].long ≤ now
        · have HE := tH (foldO_stop (stepJ cl now) (some u0) l (k + 1) (by rw [HT.out, HF.out]; exact stepJ_off HSt.out ht))
          by_cases ht1 : now < l[k].start
          · go_wp2
            go_ret
            exact ⟨ret_bool (by rw [HE.out]; rfl), xE⟩
          · have ht2 : l[k].start + l[k].long ≤ now := by omega
            go_wp2
            go_ret
            exact ⟨ret_bool (by rw [HE.out]; rfl), xE⟩
        · have HE := tH (by rw [HT.out, HF.out]; exact stepJ_on HSt.out ht : foldO (stepJ cl now) (some u0) (l.take (k + 1)) = foldO (step1 cl l[k].l) (some u) l[k].nodes)
          have ht1 : ¬ now < l[k].start := by omega
          have ht2 : ¬ l[k].start + l[k].long ≤ now := by omega
          go_wp2
          go_loopw [6, 7] (fun i _ wr => ∃ m : Nat, ∃ u' : List Bool, m ≤ l[k].nodes.length ∧ i = .int .i64 m ∧ Ext (w.alloc (.cells #[.slice a cl.length c, .slice (some ⟨bj, offj, none⟩) l.length d, (.int .i64 now)] 41)) wr ∧ Hid (foldO (step1 cl l[k].l) (some u) (l[k].nodes.take m) = some u') ∧ Hid (BoxU wr g u') ∧ Hid (CellsAt wr (w.heap.size + 1 + X.n) (l[k].cells (.slice an l[k].nodes.length cn)))) (fun i _ _ => l[k].nodes.length - (intOf i).toNat)
          case atStart => 
            exact ⟨0, u, Nat.zero_le _, rfl, xE, tH rfl, tH (HU.out.ext xE), tH (CellsAt.new1 _ _ _ _ _)⟩
          case round =>
            obtain ⟨m, u', hm, rfl, ⟨X', rfl⟩, HF', HU', HA⟩ := hrel
            have ca8 := HA.out 8 _ rfl
            have hoA := CellsAt.old (u := .int .i64 l[k].l.lv) HA.out rfl
            have hlm2 : l[k].nodes.length ≤ 9223372036854775807 := by omega
            by_cases hlt2 : m < l[k].nodes.length
            · obtain ⟨bn, offn, rfl⟩ := slr_some HN.out hlt2
              obtain ⟨hon, hokn, hn0⟩ := int_at HN.out hlt2
              have hnn := isIn_iff.1 (nodesUp_at hup hlt2)
              have HS1 := tH (foldO_take (step1 cl l[k].l) (some u) hlt2)
              obtain ⟨q, hq⟩ := Int.eq_ofNat_of_zero_le hnn.1
              have hq6 : q < 6 := by omega
              rw [hq] at hn0 HS1
              clear hokn hnn
              obtain ⟨hoh, hfz, hcu⟩ := HU'.out.at
              have hcq := hcu q hq6
              clear hcu
              have ca0 := HA.out 0 _ rfl
              have ca1 := HA.out 1 _ rfl
              go_upto_region 14 with fail
              have HX : step1 cl l[k].l u' q = none → Hid (foldO (stepJ cl now) (some u0) l = none) := fun h => tH (foldO_stop _ _ _ (k + 1) (by rw [HE.out]; exact foldO_stop _ _ _ (m + 1) (by rw [HS1.out, HF'.out]; exact h)))
              by_cases hqc : cl.length ≤ q
              · replace HX := HX (step1_far hqc)
                (refine wp_region_x 22 (by kernel_rfl) (by kernel_rfl) (by kernel_rfl) ?_; (iterate 22 (apply XReg.step; (case h => (intro w' hw'; obtain ⟨X', rfl⟩ := hw'; go_wp2_with (fail); exact ⟨rfl, xE⟩)); (case hv => kernel_rfl))); refine XReg.doneN (fun X => ?_))
                go_wp2
                go_ret
                exact ⟨ret_bool (by rw [HX.out]; rfl), xE⟩
              · have hql : q < cl.length := by omega
                have hst := tH (step1_at (x := l[k].l) (u := u') hql)
                obtain ⟨ba, offa, rfl⟩ := slr_some HC.out hql
                obtain ⟨hor, vx, hsx, hcr⟩ := sl_at HC.out hql
                obtain ⟨ax, cx, rfl⟩ := hsx.len
                have HR := tH hsx
                clear hsx
                cases hh : hasL cl[q] l[k].l
                · replace HX := HX (by rw [hst.out, hh]; rfl)
                  (refine wp_region_x 22 (by kernel_rfl) (by kernel_rfl) (by kernel_rfl) ?_; (iterate 22 (apply XReg.step; (case h => (intro w' hw'; obtain ⟨X', rfl⟩ := hw'; go_wp2_with ((go_at_call 60; refine (l05Cleared_any _ cl[q] l[k].l _ (HR.out.ext rLab_stable xE)).mono ?_; rintro e _ ⟨rfl, Y, rfl⟩)); exact ⟨rfl, xE⟩)); (case hv => kernel_rfl))); refine XReg.doneN (fun X => ?_))
                  go_wp2
                  go_ret
                  exact ⟨ret_bool (by rw [HX.out]; rfl), xE⟩
                cases hu : u'.getD q true
                all_goals rw [hu] at hcq
                all_goals (refine wp_region_x 22 (by kernel_rfl) (by kernel_rfl) (by kernel_rfl) ?_; (iterate 22 (apply XReg.step; (case h => (intro w' hw'; obtain ⟨X', rfl⟩ := hw'; go_wp2_with ((go_at_call 60; refine (l05Cleared_any _ cl[q] l[k].l _ (HR.out.ext rLab_stable xE)).mono ?_; rintro e _ ⟨rfl, Y, rfl⟩)); exact ⟨rfl, xE⟩)); (case hv => kernel_rfl))); refine XReg.doneN (fun X => ?_))
                all_goals go_wp2
                · exact ⟨⟨m + 1, u'.set q true, by omega, by go_num, .plus (.setCell xE (by simp only [World.size_alloc]; omega) _) _, tH (by rw [HS1.out, HF'.out]; exact hst.out.trans (by rw [hh, hu]; rfl)), tH ((BoxU.put HU'.out q true).ext xE), tH ((CellsAt.put (g := g) (i := q) HA.out (by omega) (.bool true)).ext xE)⟩, by simp [intOf]; omega⟩
                · replace HX := HX (by rw [hst.out, hh, hu]; rfl)
                  go_ret
                  exact ⟨ret_bool (by rw [HX.out]; rfl), xE⟩
            · obtain rfl : m = l[k].nodes.length := by omega
              go_wp2
              exact ⟨⟨k + 1, u', by omega, by go_num, xE, tH (by rw [HE.out, ← HF'.out, List.take_length]), tH (HU'.out.ext xE)⟩, by simp [intOf]; omega⟩
      · have hb : (l[k].state == 2) = false := by simp [hs]
        have hnil := jobR_not (jobsR_job HQ2.out hlt) hs
        have hz : ¬ 0 < l[k].nodes.length := by rw [hnil]; simp
        clear hnil
        go_wp2
        go_loopw [6, 7] (fun i _ wr => i = .int .i64 0 ∧ Ext (w.alloc (.cells #[.slice a cl.length c, .slice (some ⟨bj, offj, none⟩) l.length d, (.int .i64 now)] 41)) wr ∧ Hid (BoxU wr g u) ∧ Hid (CellsAt wr (w.heap.size + 1 + X.n) (l[k].cells (.slice an l[k].nodes.length cn)))) (fun i _ _ => 0)
        case atStart => 
          exact ⟨rfl, xE, tH (HU.out.ext xE), tH (CellsAt.new1 _ _ _ _ _)⟩
        case round =>
          obtain ⟨rfl, ⟨X', rfl⟩, HU', HA⟩ := hrel
          have ca8 := HA.out 8 _ rfl
          have hoA := CellsAt.old (u := .int .i64 l[k].l.lv) HA.out rfl
          go_wp2
          exact ⟨⟨k + 1, u, by omega, by go_num, xE, tH (by rw [HT.out, HF.out]; exact stepJ_not hs), tH (HU'.out.ext xE)⟩, by simp [intOf]; omega⟩
    · go_wp2
      go_ret
      obtain rfl : k = l.length := by omega
      exact ⟨ret_bool (by rw [← List.take_length (l := l), HF.out]; rfl), xE⟩

set_option maxHeartbeats 3200000 in
theorem specPoolRight_any (p : Pl) (v : Value) (w : World) (h : ePool w v p) :
    Calls Tryz.prog 58 #[v] w fun e w' => e = .returned (.bool (poolR p)) ∧ Ext w w' := by
  obtain ⟨a, c, b, d, rfl, h0, h1, h2⟩ := h
  cases q1 : clearR p.clear <;> cases q2 : jobsR p.jobs <;> cases q3 : isIn p.now 0 999900
  all_goals first
    | (rw [poolR_yes q1 q2 q3]
       exact specPoolRight_yes p.clear p.jobs p.now a c b d w h1 h2 q1 q2 q3)
    | (have HN := tH (poolR_no (p := p) (by rw [q1, q2, q3]; rfl))
       have HC := tH h1
       have HJ := tH h2
       clear h0 h1 h2
       go_enter Tryz.func58, Tryz.ntmps58
       unfold Pl.val
       go_wp2_with (first | (go_at_call 29; refine (l05Clear_any _ p.clear _ (HC.out.ext rLabS_stable xE)).mono ?_; rintro e _ ⟨rfl, ⟨X1, rfl⟩⟩; rw [q1]) | (go_at_call 87; refine (specJobsRight_any _ p.jobs _ (HJ.out.ext rJob_stable xE)).mono ?_; rintro e _ ⟨rfl, ⟨X2, rfl⟩⟩; rw [q2]) | (go_at_call 88; refine (l03Now_any _ _).mono ?_; rintro e _ ⟨rfl, rfl⟩; rw [q3]))
       go_ret
       exact ⟨ret_bool HN.out.symm, xE⟩)
end Go.Proofs.YtbmbanelodabgaaGreatDoor

set_option maxRecDepth 100000
set_option linter.unusedVariables false
namespace Go.Proofs.YtbmbanelodabgaaGreatDoor
open Go.RowKit Go.Fin1

end Go.Proofs.YtbmbanelodabgaaGreatDoor

set_option maxRecDepth 100000
set_option linter.unusedVariables false
namespace Go.Proofs.YtbmbanelodabgaaGreatDoor
open Go.RowKit Go.Fin1
theorem jobR_nodes {j : Jb} (h : jobR j = true) : j.nodes.length ≤ 6 := by
  by_cases hs : j.state = 2
  · exact (jobR_run h hs).2.2.2
  · rw [jobR_not h hs]; simp
theorem poolR_jobs {p : Pl} (h : poolR p = true) : jobsR p.jobs = true ∧ isIn p.now 0 999900 = true := by
  unfold poolR at h
  simp only [Bool.and_eq_true] at h
  exact ⟨h.1.1.2, h.1.2⟩
theorem jobsR_mem {l : List Jb} (h : jobsR l = true) {j : Jb} (hj : j ∈ l) : jobR j = true := by
  obtain ⟨i, hi, rfl⟩ := List.mem_iff_getElem.1 hj
  exact jobsR_job h hi
theorem foldO_mem {α β : Type} {f : β → α → Option β} : ∀ {l : List α} {u : β}, (foldO f (some u) l).isSome = true → ∀ a ∈ l, ∃ u1 u2, f u1 a = some u2
  | [], u, _, a, h => by cases h
  | x :: l, u, h, a, ha => by
    have e : foldO f (some u) (x :: l) = foldO f (f u x) l := rfl
    rw [e] at h
    cases hx : f u x with
    | none => rw [hx, foldO_none] at h; cases h
    | some u2 =>
      rw [hx] at h
      rcases List.mem_cons.1 ha with rfl | ha
      · exact ⟨u, u2, hx⟩
      · exact foldO_mem h a ha
theorem nodesUp_pair {l : List Int} (h : nodesUp l = true) : l.Pairwise (· < ·) ∧ ∀ n ∈ l, 0 ≤ n := by
  have hat : ∀ i, i < l.length → nodeAt l i = true := fun i hi => by
    unfold nodesUp at h
    rw [List.all_eq_true] at h
    exact h i (List.mem_range.2 hi)
  have hg : ∀ (j : Nat) (hj : j < l.length), l.getD j 0 = l[j] := fun j hj => by simp [List.getD, hj]
  have hs : ∀ i (hi : i + 1 < l.length), l[i] < l[i + 1] := fun i hi => by
    have h1 := hat (i + 1) hi
    unfold nodeAt at h1
    rw [hg (i + 1) hi, Nat.add_sub_cancel, hg i (by omega)] at h1
    simp at h1
    exact h1.2
  have hlt : ∀ (d i : Nat) (hd : i + d + 1 < l.length), l[i] < l[i + d + 1] := fun d => by
    induction d with
    | zero => exact fun i hd => hs i hd
    | succ d ih => exact fun i hd => Int.lt_trans (ih i (by omega)) (hs (i + d + 1) (by omega))
  refine ⟨List.pairwise_iff_getElem.2 fun i j hi hj hij => ?_, fun n hn => ?_⟩
  · have h1 := hlt (j - i - 1) i (by omega)
    have e : i + (j - i - 1) + 1 = j := by omega
    simp only [e] at h1
    exact h1
  · obtain ⟨i, hi, rfl⟩ := List.mem_iff_getElem.1 hn
    have h1 := hat i hi
    unfold nodeAt at h1
    rw [hg i hi, Bool.and_eq_true] at h1
    have := isIn_iff.1 h1.1
    omega
end Go.Proofs.YtbmbanelodabgaaGreatDoor
