/- The reference's sorted list of jobs: an insertion sort. -/
import Derived.Test.YtfmjnncgpfkejaaGreatVB
import Derived.Test.YtfmjnncgpfkejaaGreatC2
import Derived.Test.YtfmjnncgpfkejaaGreatJ8
import Derived.Test.YtfmjnncgpfkejaaGreatRW
import Derived.Test.YtfmjnncgpfkejaaGreatE5
set_option maxRecDepth 100000
set_option linter.unusedVariables false
namespace Go.Proofs.YtfmjnncgpfkejaaGreat
open Go.RowKit Go.Fin1
theorem info_JobV : (Tryz.prog.info? 64).map (fun i => (i.zero, i.size, i.bytes)) = some (some (.agg #[(.int .i64 0), (.int .i64 0), (.int .i64 0), (.int .i64 0), (.int .i64 0), (.int .i64 0), (.int .i64 0), (.int .i64 0), .slice none 0 0]), 9, 88) := by kernel_rfl
theorem el_JobV : ElemInfo Tryz.prog 30 64 9 88 := by
  obtain ⟨i, hi, hz, hs, hb⟩ := info_parts info_JobV
  exact ⟨Tryz.underlying30, ⟨i, _, hi, hz, hs, hb, rfl⟩, by decide⟩
/-- A row of jobs of ours, whose nodes lie in blocks of whole numbers. -/
structure RowJ (B : Nat) (w : World) (v : Value) (rs : List RJ) : Prop where
  row : Row B w 64 9 RJ.cells v rs
  nd : ∀ r ∈ rs, r.1.ok ∧ (∀ x ∈ r.1.nodes, I64 x) ∧ Row 0 w 2 1 intCell (RJ.nv r) r.1.nodes
theorem nd_chg {w w' : World} {v : Value} {xs : List Int} {S : List Nat} (h : Row 0 w 2 1 intCell v xs) (hx : Chg S w w') (hS : ∀ b ∈ S, ∃ cur, w.heap[b]? = some (.cells cur 64 (0, 0))) : Row 0 w' 2 1 intCell v xs := h.chg hx fun b hb hm => by
  obtain ⟨c1, h1⟩ := h.type b hb
  obtain ⟨c2, h2⟩ := hS b hm
  rw [h1] at h2
  simp at h2
theorem RowJ.ext {B : Nat} {w w' : World} {v : Value} {rs : List RJ} (h : RowJ B w v rs) (hx : Ext w w') : RowJ B w' v rs := ⟨h.row.ext hx, fun r hr => by
  obtain ⟨h1, h2, h3⟩ := h.nd r hr
  exact ⟨h1, h2, h3.ext hx⟩⟩
theorem RowJ.chg {B : Nat} {w w' : World} {v : Value} {rs : List RJ} {S : List Nat} (h : RowJ B w v rs) (hx : Chg S w w') (hv : ∀ b ∈ blkL v, b ∉ S) (hS : ∀ b ∈ S, ∃ cur, w.heap[b]? = some (.cells cur 64 (0, 0))) : RowJ B w' v rs := ⟨h.row.chg hx hv, fun r hr => by
  obtain ⟨h1, h2, h3⟩ := h.nd r hr
  exact ⟨h1, h2, nd_chg h3 hx hS⟩⟩
theorem RowJ.rc {B : Nat} {w : World} {v : Value} {rs : List RJ} (h : RowJ B w v rs) : SlR w 9 (fun _ cs r => cs = RJ.cells r) v rs := by
  obtain ⟨fp, hO⟩ := Row.own (f := RJ.cells) (K := 9) (fun _ => rfl) h.row
  exact oFl_reads (f := RJ.cells) (fun _ => rfl) hO.1
theorem slr_preG {α : Type} {K : Nat} {r : World → List Value → α → Prop} {w : World} {a : Option Addr} {c k : Nat} {xs : List α} (h : SlR w K r (.slice a xs.length c) xs) (hk : k ≤ xs.length) : SlR w K r (.slice a k c) (xs.take k) := by
  obtain ⟨a', cap, hv, h1, h2, h3⟩ := h
  obtain ⟨rfl, rfl⟩ : a = a' ∧ c = cap := by simpa using hv
  refine ⟨a, c, by rw [List.length_take, Nat.min_eq_left hk], by rw [List.length_take]; omega, h2, fun i hi => ?_⟩
  rw [List.length_take] at hi
  obtain ⟨b, off, cs, q1, q2, q3, q4⟩ := h3 i (by omega)
  exact ⟨b, off, cs, q1, q2, q3, by rw [List.getElem_take]; exact q4⟩
theorem row_cell {α : Type} {B : Nat} {w : World} {ty K : Nat} {f : α → List Value} {g n cap : Nat} {xs : List α} (h : Row B w ty K f (.slice (some ⟨g, 0, none⟩) n cap) xs) {j : Nat} {u : Value} (hu : (xs.flatMap f)[j]? = some u) : w.cell? ⟨g, j, none⟩ = some u := by
  rcases h.2 with ⟨hv, _⟩ | ⟨g', cap', cur, hv, hb, hg, h1, h2, h3, h4⟩
  · cases hv
  cases hv
  rw [cell_of_heap hg]
  rw [← h4, List.getElem?_take] at hu
  split at hu
  · simpa using hu
  · cases hu
theorem row_some {α : Type} {B : Nat} {w : World} {ty K : Nat} {f : α → List Value} {v : Value} {xs : List α} (h : Row B w ty K f v xs) (h0 : 0 < xs.length) : ∃ g cap, v = .slice (some ⟨g, 0, none⟩) xs.length cap := by
  rcases h.2 with ⟨_, h1⟩ | ⟨g, cap, cur, rfl, _⟩
  · omega
  · exact ⟨g, cap, rfl⟩
theorem flatMap_drop {α : Type} {f : α → List Value} {K : Nat} (hf : ∀ x, (f x).length = K) : ∀ (xs : List α) (m j : Nat), ((xs.drop m).flatMap f)[j]? = (xs.flatMap f)[m * K + j]?
  | xs, 0, j => by simp
  | [], m + 1, j => by simp
  | x :: xs, m + 1, j => by
    rw [List.drop_succ_cons, flatMap_drop hf xs m j, List.flatMap_cons, List.getElem?_append_right (by rw [hf, Nat.add_mul, Nat.one_mul]; omega), hf]
    congr 1
    rw [Nat.add_mul, Nat.one_mul]; omega
theorem rj_at {w : World} {b off n cap : Nat} {xs : List RJ} (h : SlR w 9 (fun _ cs r => cs = RJ.cells r) (.slice (some ⟨b, off, none⟩) n cap) xs) {i : Nat} (hi : i < xs.length) :
    w.old b ∧ w.cell? ⟨b, off + i * 9, none⟩ = some (.int .i64 xs[i].1.l.lv) ∧ w.cell? ⟨b, off + i * 9 + 1, none⟩ = some (.int .i64 xs[i].1.l.st) ∧ w.cell? ⟨b, off + i * 9 + 2, none⟩ = some (.int .i64 xs[i].1.id) ∧
      w.cell? ⟨b, off + i * 9 + 3, none⟩ = some (.int .i64 xs[i].1.need) ∧ w.cell? ⟨b, off + i * 9 + 4, none⟩ = some (.int .i64 xs[i].1.long) ∧ w.cell? ⟨b, off + i * 9 + 5, none⟩ = some (.int .i64 xs[i].1.prio) ∧ w.cell? ⟨b, off + i * 9 + 6, none⟩ = some (.int .i64 xs[i].1.state) ∧ w.cell? ⟨b, off + i * 9 + 7, none⟩ = some (.int .i64 xs[i].1.start) ∧
      w.cell? ⟨b, off + i * 9 + 8, none⟩ = some (RJ.nv xs[i]) := by
  obtain ⟨cs, _, hc, rfl⟩ := slr_cells h hi
  have h0 := hc 0 _ rfl
  exact ⟨World.old_of_cell h0, h0, hc 1 _ rfl, hc 2 _ rfl, hc 3 _ rfl, hc 4 _ rfl, hc 5 _ rfl, hc 6 _ rfl, hc 7 _ rfl, hc 8 _ rfl⟩
theorem foldJ_lenV : ∀ (l acc : List Jb), (l.foldl insJ acc).length = acc.length + l.length
  | [], acc => by simp
  | j :: l, acc => by rw [List.foldl_cons, foldJ_lenV l, insJ_len, List.length_cons]; omega
theorem sortedJ_lenV (l : List Jb) : (sortedJ l).length = l.length := by unfold sortedJ; rw [foldJ_lenV]; simp
theorem meas_up {N m : Nat} (h : m < N) : N + 1 - (intOf (.int .i64 ((m : Int) + 1))).toNat < N + 1 - (intOf (.int .i64 (m : Int))).toNat := by simp [intOf]; omega
set_option maxHeartbeats 3200000 in
theorem l04Sorted_any (v : Value) (l : List Jb) (w : World) (h : SlR w 9 rJob v l) (hl : l.length ≤ 1000) (hnl : ∀ j ∈ l, j.nodes.length ≤ 1048576) :
    Calls Tryz.prog 47 #[v] w fun e w' => ∃ v' rs, e = .returned v' ∧ Ext w w' ∧ RowJ w.heap.size w' v' rs ∧ rs.map Prod.fst = sortedJ l := by
  obtain ⟨a0, c0, rfl⟩ := h.len
  have HS := Lib.hid h
  have HNL := Lib.hid hnl
  clear h hnl
  go_enter Tryz.func47, Tryz.ntmps47
  go_wp2
  go_loopw [4, 3] (fun i o wr => ∃ n : Nat, ∃ rs : List RJ, ∃ ob oc : Nat, o = .slice (some ⟨ob, 0, none⟩) rs.length oc ∧ n ≤ l.length ∧ i = .int .i64 n ∧ Ext w wr ∧ Hid (RowJ w.heap.size wr o rs) ∧ Hid (rs.map Prod.fst = sortedJ (l.take n))) (fun i _ _ => l.length - (intOf i).toNat)
  case atStart => exact ⟨0, [], _, _, rfl, Nat.zero_le _, rfl, (by repeat (first | exact Ext.refl _ | apply Ext.plus | apply Ext.alloc | apply Ext.drew)), Lib.hid ⟨Row.made _ _ _ _, fun r hr => by cases hr⟩, Lib.hid rfl⟩
  case round =>
    obtain ⟨n, rs, ob, oc, rfl, hn, rfl, hE, HR, HM⟩ := hrel
    have HE := Lib.hid hE
    clear hE
    by_cases hlt : n < l.length
    · obtain ⟨b, off, rfl⟩ := slr_some HS.out hlt
      have hrl : rs.length = (sortedJ (l.take n)).length := by rw [← HM.out]; simp
      have HRL := Lib.hid hrl
      clear hrl
      go_wp2
      go_loopw [5] (fun k wr2 => ∃ m : Nat, m ≤ insK (sortedJ (l.take n)) l[n] ∧ k = .int .i64 m ∧ Ext wr wr2) (fun k _ => rs.length + 1 - (intOf k).toNat)
      case atStart => exact ⟨0, Nat.zero_le _, rfl, (by repeat (first | exact Ext.refl _ | apply Ext.plus | apply Ext.alloc | apply Ext.drew))⟩
      case round =>
        obtain ⟨m, hm, rfl, ⟨Y, rfl⟩⟩ := hrel
        by_cases hmk : m < insK (sortedJ (l.take n)) l[n]
        · obtain ⟨hml, hah⟩ := insK_at hmk
          have hmr : m < rs.length := by have := HRL.out; omega
          have hrm : rs[m].1 = (sortedJ (l.take n))[m] := by
            have : (rs.map Prod.fst)[m]'(by simpa using hmr) = (sortedJ (l.take n))[m] := List.getElem_of_eq HM.out _
            simpa using this
          rw [← hrm] at hah
          have HMK := Lib.hid hmk
          have HHM := Lib.hid hm
          clear hrm hml hmk hm
          obtain ⟨hoo, c0', c1', c2', c3', c4', c5', c6', c7', c8'⟩ := rj_at HR.out.rc hmr
          obtain ⟨hol, na, nc, hok, hnn, d0', d1', d2', d3', d4', d5', d6', d7', d8'⟩ := job_at (HS.out.ext rJob_stable HE.out) hlt
          have HAH := Lib.hid (fun w => (by have := l04Ahead_any rs[m].1 l[n] (RJ.nv rs[m]) (.slice na l[n].nodes.length nc) w; rw [hah] at this; unfold Jb.val RJ.nv at this; exact this : Calls Tryz.prog 79 #[.agg #[(.int .i64 rs[m].1.l.lv), (.int .i64 rs[m].1.l.st), (.int .i64 rs[m].1.id), (.int .i64 rs[m].1.need), (.int .i64 rs[m].1.long), (.int .i64 rs[m].1.prio), (.int .i64 rs[m].1.state), (.int .i64 rs[m].1.start), .slice rs[m].2.1 rs[m].1.nodes.length rs[m].2.2], .agg #[(.int .i64 l[n].l.lv), (.int .i64 l[n].l.st), (.int .i64 l[n].id), (.int .i64 l[n].need), (.int .i64 l[n].long), (.int .i64 l[n].prio), (.int .i64 l[n].state), (.int .i64 l[n].start), .slice na l[n].nodes.length nc]] w fun e w' => e = .returned (.bool true) ∧ Ext w w'))
          unfold RJ.nv at c8'
          simp only [Nat.zero_add] at c0' c1' c2' c3' c4' c5' c6' c7' c8'
          have hd : decide ((m : Int) < (rs.length : Int)) = true := decide_eq_true (by omega)
          have hd2 : decide (m < rs.length) = true := decide_eq_true hmr
          clear hah hnn hok
          generalize rs[m] = rq at c0' c1' c2' c3' c4' c5' c6' c7' c8' HAH
          generalize hjq : l[n] = jq at d0' d1' d2' d3' d4' d5' d6' d7' d8' HAH
          have HJQ := Lib.hid hjq
          clear hjq
          go_upto_region 6 with fail
          (refine wp_region_x 15 (by kernel_rfl) (by kernel_rfl) (by kernel_rfl) ?_; (iterate 15 (apply XReg.step; (case h => (intro w' hw'; obtain ⟨X', rfl⟩ := hw'; go_wp2_with ((go_at_call 79; refine (HAH.out _).mono ?_; rintro e _ ⟨rfl, X, rfl⟩)); exact ⟨rfl, (by repeat (first | exact Ext.refl _ | apply Ext.plus | apply Ext.alloc | apply Ext.drew))⟩)); (case hv => kernel_rfl))); refine XReg.doneN (fun X => ?_))
          clear HAH c0' c1' c2' c3' c4' c5' c6' c7' c8' d0' d1' d2' d3' d4' d5' d6' d7' d8' hoo hol hd hd2
          have hm5 : m < 1000 := by
            have h1 := HRL.out
            have h2 : (sortedJ (l.take n)).length = (l.take n).length := sortedJ_lenV _
            rw [List.length_take] at h2
            omega
          have hwm : wrap64 ((m : Int) + 1) = (m : Int) + 1 := by unfold wrap64; omega
          have HMR := Lib.hid hmr
          clear hm5
          clear hmr
          go_wp2
          exact ⟨⟨m + 1, by rw [← HJQ.out]; exact HMK.out, by go_num, (by repeat (first | exact Ext.refl _ | apply Ext.plus | apply Ext.alloc | apply Ext.drew))⟩, by rw [hwm]; exact meas_up HMR.out⟩
        · obtain rfl : m = insK (sortedJ (l.take n)) l[n] := by omega
          generalize hK : insK (sortedJ (l.take n)) l[n] = m at hm hmk ⊢
          have HK := Lib.hid hK
          by_cases hml : m < rs.length
          · have hmr := hml
            have hah : aheadJ rs[m].1 l[n] = false := by
              have h1 := insK_stop (l := sortedJ (l.take n)) (j := l[n]) (by rw [hK]; have := HRL.out; omega)
              have : (rs.map Prod.fst)[m]'(by simpa using hml) = (sortedJ (l.take n))[m]'(by have := HRL.out; omega) := List.getElem_of_eq HM.out _
              simp only [hK] at h1
              rw [← this] at h1
              simpa using h1
            clear hK hmk hm hml
            obtain ⟨hoo, c0', c1', c2', c3', c4', c5', c6', c7', c8'⟩ := rj_at HR.out.rc hmr
            obtain ⟨hol, na, nc, hok, hnn, d0', d1', d2', d3', d4', d5', d6', d7', d8'⟩ := job_at (HS.out.ext rJob_stable HE.out) hlt
            have HAH := Lib.hid (fun w => (by have := l04Ahead_any rs[m].1 l[n] (RJ.nv rs[m]) (.slice na l[n].nodes.length nc) w; rw [hah] at this; unfold Jb.val RJ.nv at this; exact this : Calls Tryz.prog 79 #[.agg #[(.int .i64 rs[m].1.l.lv), (.int .i64 rs[m].1.l.st), (.int .i64 rs[m].1.id), (.int .i64 rs[m].1.need), (.int .i64 rs[m].1.long), (.int .i64 rs[m].1.prio), (.int .i64 rs[m].1.state), (.int .i64 rs[m].1.start), .slice rs[m].2.1 rs[m].1.nodes.length rs[m].2.2], .agg #[(.int .i64 l[n].l.lv), (.int .i64 l[n].l.st), (.int .i64 l[n].id), (.int .i64 l[n].need), (.int .i64 l[n].long), (.int .i64 l[n].prio), (.int .i64 l[n].state), (.int .i64 l[n].start), .slice na l[n].nodes.length nc]] w fun e w' => e = .returned (.bool false) ∧ Ext w w'))
            unfold RJ.nv at c8'
            simp only [Nat.zero_add] at c0' c1' c2' c3' c4' c5' c6' c7' c8'
            have hd : decide ((m : Int) < (rs.length : Int)) = true := decide_eq_true (by omega)
            have hd2 : decide (m < rs.length) = true := decide_eq_true hmr
            clear hah hnn hok
            go_upto_region 6 with fail
            (refine wp_region_x 15 (by kernel_rfl) (by kernel_rfl) (by kernel_rfl) ?_; (iterate 15 (apply XReg.step; (case h => (intro w' hw'; obtain ⟨X', rfl⟩ := hw'; go_wp2_with ((go_at_call 79; refine (HAH.out _).mono ?_; rintro e _ ⟨rfl, X, rfl⟩)); exact ⟨rfl, (by repeat (first | exact Ext.refl _ | apply Ext.plus | apply Ext.alloc | apply Ext.drew))⟩)); (case hv => kernel_rfl))); refine XReg.doneN (fun X => ?_))
            clear HAH c0' c1' c2' c3' c4' c5' c6' c7' c8' d0' d1' d2' d3' d4' d5' d6' d7' d8' hoo hol hd hd2
            have hmr2 : m ≤ rs.length := Nat.le_of_lt hmr
            go_upto_region 8 with fail
            refine gen_world (fun W hW => ?_)
            have hEW : Ext wr W := by rw [hW]; exact (by repeat (first | exact Ext.refl _ | apply Ext.plus | apply Ext.alloc | apply Ext.drew))
            have HEW := Lib.hid hEW
            have HRW := Lib.hid (HR.out.ext hEW)
            have hcap : m ≤ oc := by
              obtain ⟨-, h2, -⟩ := slr_len HR.out.rc
              omega
            have HPR := Lib.hid (slr_preG HRW.out.rc (k := m) hmr2)
            have hm1 : (rs.take m).length = m := by rw [List.length_take]; omega
            have hm2 : m ≤ 1000 := by
              have h1 := HRL.out
              have h2 : (sortedJ (l.take n)).length = (l.take n).length := sortedJ_lenV _
              rw [List.length_take] at h2
              omega
            have HM1 := Lib.hid hm1
            have HMR := Lib.hid hmr2
            clear hW hEW hm1 hmr2
            go_upto_region 9 with (at_builtin; go_must (refine Row.appV (f := RJ.cells) el_JobV rfl _ _ rfl W (by repeat (first | exact Ext.refl _ | apply Ext.plus | apply Ext.alloc | apply Ext.drew)) _ [] rfl (Row.made _ _ _ _) (.slice (some ⟨ob, 0, none⟩) m oc) (rs.take m) rfl (fun _ => rfl) (HPR.out.ext (rc_stable _) (by repeat (first | exact Ext.refl _ | apply Ext.plus | apply Ext.alloc | apply Ext.drew))) RJ.one ?_ ?_ ?_); (rw [HM1.out]; unfold maxLen; simp; omega); (rw [HM1.out]; simp; omega); intro v6 X6 h6; rw [List.nil_append] at h6; have H6 := Lib.hid h6; clear h6)
            refine gen_world (fun W6 hW => ?_)
            have HE6 : Hid (Ext W W6) := Lib.hid (by rw [hW]; exact (by repeat (first | exact Ext.refl _ | apply Ext.plus | apply Ext.alloc | apply Ext.drew)))
            rw [← hW] at H6
            clear hW
            obtain ⟨x6, y6, rfl⟩ := H6.out.shape
            rw [HM1.out] at H6 ⊢
            obtain ⟨hol, na, nc, hok, hnn, d0', d1', d2', d3', d4', d5', d6', d7', d8'⟩ := job_at (HS.out.ext rJob_stable ((HE.out.trans HEW.out).trans HE6.out)) hlt
            have HOK := Lib.hid hok
            have HNN := Lib.hid hnn
            clear hok hnn hcap X6
            go_wp2_with fail
            refine (l04Copy_any l[n] _ _ (HNN.out.ext rInt_stable (by repeat (first | exact Ext.refl _ | apply Ext.plus | apply Ext.alloc | apply Ext.drew))) (HNL.out _ (List.getElem_mem hlt))).mono ?_
            rintro e _ ⟨v7, fp7, rfl, ⟨X7, rfl⟩, hO7⟩
            obtain ⟨u7, k7, rfl⟩ := hO7.shape
            have H7 := Lib.hid (H6.out.ext ((Ext.refl W6).plus X7))
            have HO7 := Lib.hid (Own.rowF (f := intCell) (K := 1) (ty := 2) (fun _ => rfl) hO7)
            have HE7 := Lib.hid (HE6.out.trans ((Ext.refl W6).plus X7))
            clear hO7 H6 HE6 d0' d1' d2' d3' d4' d5' d6' d7' d8' hol
            unfold Jb.val
            generalize W6.plus X7 = W7 at H7 HO7 HE7 ⊢
            clear X7
            go_upto_region 10 with (at_builtin; go_must (refine Row.appN (f := RJ.cells) el_JobV rfl _ _ rfl W.heap.size HE7.out.below.size (.slice x6 m y6) (rs.take m) rfl H7.out (l[n], (u7, k7)) rfl _ ?_ rfl (fun _ => rfl) ?_ ?_ ?_ ?_); (simp); (intro u hu; exact RJ.one (l[n], (u7, k7)) u hu); (rw [HM1.out]; unfold maxLen; omega); (rw [HM1.out]; omega); intro v8 w8 hR8 hc8; have HR8 := Lib.hid hR8; have HC8 := Lib.hid hc8; clear hR8 hc8)
            obtain ⟨x8, y8, rfl⟩ := HR8.out.shape
            have hl8 : (rs.take m ++ [(l[n], u7, k7)]).length = m + 1 := by rw [List.length_append, HM1.out]; rfl
            rw [hl8] at HR8 ⊢
            have hob : ob < W.heap.size := (HRW.out.row.blk ob (by simp [blkL])).2
            have HRO := Lib.hid (((HRW.out.ext HE7.out)).chg HC8.out (fun q hq hm => by
              have h1 := (H7.out.blk q hm).1
              simp [blkL] at hq
              omega) H7.out.type)
            have HE8 := Lib.hid (HC8.out.ext HE7.out (fun q hq => (H7.out.blk q hq).1))
            have HN8 := Lib.hid (nd_chg (HO7.out.mono (Nat.zero_le _)) HC8.out H7.out.type)
            have hdl : rs.length - m = (rs.drop m).length := by rw [List.length_drop]
            have HDL := Lib.hid hdl
            have hrs : rs.length ≤ 1000 := by
              have h1 := HRL.out
              have h2 : (sortedJ (l.take n)).length = (l.take n).length := sortedJ_lenV _
              rw [List.length_take] at h2
              omega
            have hoc : rs.length ≤ oc := by
              obtain ⟨-, h2, -⟩ := slr_len HR.out.rc
              omega
            have hmr3 := HMR.out
            have HSZ8 : Hid (W.heap.size ≤ w8.heap.size) := Lib.hid HE8.out.below.size
            have HNEW := Lib.hid (fun (j : Nat) (u : Value) (hu : ((rs.drop m).flatMap RJ.cells)[j]? = some u) => row_cell HRO.out.row (by rw [← flatMap_drop (f := RJ.cells) (K := 9) (fun _ => rfl)]; exact hu))
            clear hl8 hob hdl H7 HC8 HO7
            have hb1 : (rs.take m ++ [(l[n], u7, k7)]).length + (rs.drop m).length ≤ 1001 := by
              rw [List.length_append, HM1.out, ← HDL.out]; simp; omega
            have HL9 : Hid ((rs.take m ++ [(l[n], u7, k7)] ++ rs.drop m).length = rs.length + 1) := Lib.hid (by rw [List.length_append, List.length_append, HM1.out, ← HDL.out]; simp; omega)
            have HB1 := Lib.hid hb1
            have hcap2 : m ≤ oc := by omega
            have HOC := Lib.hid hoc
            clear hb1 hoc
            by_cases hce : oc = m
            · go_wp2_with (at_builtin; go_must (refine Row.appC (f := RJ.cells) el_JobV rfl _ _ rfl W.heap.size HSZ8.out (.slice x8 (m + 1) y8) (rs.take m ++ [(l[n], u7, k7)]) rfl HR8.out ⟨ob, 0, none⟩ (rs.length - m) 0 (rs.drop m) rfl HDL.out (fun _ => rfl) ?_ ?_ ?_ ?_ ?_); (intro j u hu; rw [List.drop_of_length_le (by have := HOC.out; omega)] at hu; simp at hu); (intro u hu; obtain ⟨x, _, hx⟩ := List.mem_flatMap.1 hu; exact RJ.one x u hx); (have := HB1.out; unfold maxLen; omega); (have := HB1.out; omega); intro v9 w9 hR9 hc9; obtain ⟨g9, k9, hv9⟩ := row_some hR9 (by rw [HL9.out]; exact Nat.succ_pos _); rw [HL9.out] at hv9; subst hv9; have HR9 := Lib.hid hR9; have HC9 := Lib.hid hc9; clear hR9 hc9)
              refine ⟨⟨n + 1, rs.take m ++ [(l[n], u7, k7)] ++ rs.drop m, g9, k9, by rw [HL9.out], by omega, by go_num, ?_, Lib.hid ⟨?_, ?_⟩, Lib.hid ?_⟩, by simp [intOf]; omega⟩
              · exact HC9.out.ext ((HE.out.trans HEW.out).trans HE8.out) (fun q hq => by have h1 := (HR8.out.blk q hq).1; have h2 := HE.out.below.size; have h3 := HEW.out.below.size; omega)
              · try rw [HL9.out]
                exact HR9.out.mono (Nat.le_trans HE.out.below.size HEW.out.below.size)
              · intro r hr
                rw [List.mem_append, List.mem_append, List.mem_singleton] at hr
                rcases hr with (hr | rfl) | hr
                · obtain ⟨q1, q2, q3⟩ := HRO.out.nd r (List.mem_of_mem_take hr)
                  exact ⟨q1, q2, nd_chg q3 HC9.out HR8.out.type⟩
                · refine ⟨HOK.out, fun x hx => ?_, nd_chg HN8.out HC9.out HR8.out.type⟩
                  obtain ⟨cs, hcs⟩ := slr_all HNN.out x hx
                  exact hcs.2
                · obtain ⟨q1, q2, q3⟩ := HRO.out.nd r (List.mem_of_mem_drop hr)
                  exact ⟨q1, q2, nd_chg q3 HC9.out HR8.out.type⟩
              · rw [sortedJ_step hlt, List.map_append, List.map_append, List.map_take, List.map_drop, HM.out]
                unfold insJ
                rw [HK.out]; rfl
            have hce2 : ¬ m = oc := fun e => hce e.symm
            go_wp2_with (at_builtin; go_must (refine Row.appC (f := RJ.cells) el_JobV rfl _ _ rfl W.heap.size HSZ8.out (.slice x8 (m + 1) y8) (rs.take m ++ [(l[n], u7, k7)]) rfl HR8.out ⟨ob, m * 9, none⟩ (rs.length - m) (oc - m) (rs.drop m) rfl HDL.out (fun _ => rfl) ?_ ?_ ?_ ?_ ?_); (intro j u hu; rw [Addr.add_lit]; exact HNEW.out j u hu); (intro u hu; obtain ⟨x, _, hx⟩ := List.mem_flatMap.1 hu; exact RJ.one x u hx); (have := HB1.out; unfold maxLen; omega); (have := HB1.out; omega); intro v9 w9 hR9 hc9; obtain ⟨g9, k9, hv9⟩ := row_some hR9 (by rw [HL9.out]; exact Nat.succ_pos _); rw [HL9.out] at hv9; subst hv9; have HR9 := Lib.hid hR9; have HC9 := Lib.hid hc9; clear hR9 hc9)
            refine ⟨⟨n + 1, rs.take m ++ [(l[n], u7, k7)] ++ rs.drop m, g9, k9, by rw [HL9.out], by omega, by go_num, ?_, Lib.hid ⟨?_, ?_⟩, Lib.hid ?_⟩, by simp [intOf]; omega⟩
            · exact HC9.out.ext ((HE.out.trans HEW.out).trans HE8.out) (fun q hq => by have h1 := (HR8.out.blk q hq).1; have h2 := HE.out.below.size; have h3 := HEW.out.below.size; omega)
            · try rw [HL9.out]
              exact HR9.out.mono (Nat.le_trans HE.out.below.size HEW.out.below.size)
            · intro r hr
              rw [List.mem_append, List.mem_append, List.mem_singleton] at hr
              rcases hr with (hr | rfl) | hr
              · obtain ⟨q1, q2, q3⟩ := HRO.out.nd r (List.mem_of_mem_take hr)
                exact ⟨q1, q2, nd_chg q3 HC9.out HR8.out.type⟩
              · refine ⟨HOK.out, fun x hx => ?_, nd_chg HN8.out HC9.out HR8.out.type⟩
                obtain ⟨cs, hcs⟩ := slr_all HNN.out x hx
                exact hcs.2
              · obtain ⟨q1, q2, q3⟩ := HRO.out.nd r (List.mem_of_mem_drop hr)
                exact ⟨q1, q2, nd_chg q3 HC9.out HR8.out.type⟩
            · rw [sortedJ_step hlt, List.map_append, List.map_append, List.map_take, List.map_drop, HM.out]
              unfold insJ
              rw [HK.out]; rfl
          · have hd : decide ((m : Int) < (rs.length : Int)) = false := decide_eq_false (by omega)
            have hd2 : decide (m < rs.length) = false := decide_eq_false hml
            clear hK hmk hm hml
            go_upto_region 6 with fail
            (refine wp_region_x 15 (by kernel_rfl) (by kernel_rfl) (by kernel_rfl) ?_; (iterate 15 (apply XReg.step; (case h => (intro w' hw'; obtain ⟨X', rfl⟩ := hw'; go_wp2_with (fail); exact ⟨rfl, (by repeat (first | exact Ext.refl _ | apply Ext.plus | apply Ext.alloc | apply Ext.drew))⟩)); (case hv => kernel_rfl))); refine XReg.doneN (fun X => ?_))
            clear hd hd2
            have hmr2 : m ≤ rs.length := by
              have := insK_le (sortedJ (l.take n)) l[n]
              have := HK.out
              have := HRL.out
              omega
            go_upto_region 8 with fail
            refine gen_world (fun W hW => ?_)
            have hEW : Ext wr W := by rw [hW]; exact (by repeat (first | exact Ext.refl _ | apply Ext.plus | apply Ext.alloc | apply Ext.drew))
            have HEW := Lib.hid hEW
            have HRW := Lib.hid (HR.out.ext hEW)
            have hcap : m ≤ oc := by
              obtain ⟨-, h2, -⟩ := slr_len HR.out.rc
              omega
            have HPR := Lib.hid (slr_preG HRW.out.rc (k := m) hmr2)
            have hm1 : (rs.take m).length = m := by rw [List.length_take]; omega
            have hm2 : m ≤ 1000 := by
              have h1 := HRL.out
              have h2 : (sortedJ (l.take n)).length = (l.take n).length := sortedJ_lenV _
              rw [List.length_take] at h2
              omega
            have HM1 := Lib.hid hm1
            have HMR := Lib.hid hmr2
            clear hW hEW hm1 hmr2
            go_upto_region 9 with (at_builtin; go_must (refine Row.appV (f := RJ.cells) el_JobV rfl _ _ rfl W (by repeat (first | exact Ext.refl _ | apply Ext.plus | apply Ext.alloc | apply Ext.drew)) _ [] rfl (Row.made _ _ _ _) (.slice (some ⟨ob, 0, none⟩) m oc) (rs.take m) rfl (fun _ => rfl) (HPR.out.ext (rc_stable _) (by repeat (first | exact Ext.refl _ | apply Ext.plus | apply Ext.alloc | apply Ext.drew))) RJ.one ?_ ?_ ?_); (rw [HM1.out]; unfold maxLen; simp; omega); (rw [HM1.out]; simp; omega); intro v6 X6 h6; rw [List.nil_append] at h6; have H6 := Lib.hid h6; clear h6)
            refine gen_world (fun W6 hW => ?_)
            have HE6 : Hid (Ext W W6) := Lib.hid (by rw [hW]; exact (by repeat (first | exact Ext.refl _ | apply Ext.plus | apply Ext.alloc | apply Ext.drew)))
            rw [← hW] at H6
            clear hW
            obtain ⟨x6, y6, rfl⟩ := H6.out.shape
            rw [HM1.out] at H6 ⊢
            obtain ⟨hol, na, nc, hok, hnn, d0', d1', d2', d3', d4', d5', d6', d7', d8'⟩ := job_at (HS.out.ext rJob_stable ((HE.out.trans HEW.out).trans HE6.out)) hlt
            have HOK := Lib.hid hok
            have HNN := Lib.hid hnn
            clear hok hnn hcap X6
            go_wp2_with fail
            refine (l04Copy_any l[n] _ _ (HNN.out.ext rInt_stable (by repeat (first | exact Ext.refl _ | apply Ext.plus | apply Ext.alloc | apply Ext.drew))) (HNL.out _ (List.getElem_mem hlt))).mono ?_
            rintro e _ ⟨v7, fp7, rfl, ⟨X7, rfl⟩, hO7⟩
            obtain ⟨u7, k7, rfl⟩ := hO7.shape
            have H7 := Lib.hid (H6.out.ext ((Ext.refl W6).plus X7))
            have HO7 := Lib.hid (Own.rowF (f := intCell) (K := 1) (ty := 2) (fun _ => rfl) hO7)
            have HE7 := Lib.hid (HE6.out.trans ((Ext.refl W6).plus X7))
            clear hO7 H6 HE6 d0' d1' d2' d3' d4' d5' d6' d7' d8' hol
            unfold Jb.val
            generalize W6.plus X7 = W7 at H7 HO7 HE7 ⊢
            clear X7
            go_upto_region 10 with (at_builtin; go_must (refine Row.appN (f := RJ.cells) el_JobV rfl _ _ rfl W.heap.size HE7.out.below.size (.slice x6 m y6) (rs.take m) rfl H7.out (l[n], (u7, k7)) rfl _ ?_ rfl (fun _ => rfl) ?_ ?_ ?_ ?_); (simp); (intro u hu; exact RJ.one (l[n], (u7, k7)) u hu); (rw [HM1.out]; unfold maxLen; omega); (rw [HM1.out]; omega); intro v8 w8 hR8 hc8; have HR8 := Lib.hid hR8; have HC8 := Lib.hid hc8; clear hR8 hc8)
            obtain ⟨x8, y8, rfl⟩ := HR8.out.shape
            have hl8 : (rs.take m ++ [(l[n], u7, k7)]).length = m + 1 := by rw [List.length_append, HM1.out]; rfl
            rw [hl8] at HR8 ⊢
            have hob : ob < W.heap.size := (HRW.out.row.blk ob (by simp [blkL])).2
            have HRO := Lib.hid (((HRW.out.ext HE7.out)).chg HC8.out (fun q hq hm => by
              have h1 := (H7.out.blk q hm).1
              simp [blkL] at hq
              omega) H7.out.type)
            have HE8 := Lib.hid (HC8.out.ext HE7.out (fun q hq => (H7.out.blk q hq).1))
            have HN8 := Lib.hid (nd_chg (HO7.out.mono (Nat.zero_le _)) HC8.out H7.out.type)
            have hdl : rs.length - m = (rs.drop m).length := by rw [List.length_drop]
            have HDL := Lib.hid hdl
            have hrs : rs.length ≤ 1000 := by
              have h1 := HRL.out
              have h2 : (sortedJ (l.take n)).length = (l.take n).length := sortedJ_lenV _
              rw [List.length_take] at h2
              omega
            have hoc : rs.length ≤ oc := by
              obtain ⟨-, h2, -⟩ := slr_len HR.out.rc
              omega
            have hmr3 := HMR.out
            have HSZ8 : Hid (W.heap.size ≤ w8.heap.size) := Lib.hid HE8.out.below.size
            have HNEW := Lib.hid (fun (j : Nat) (u : Value) (hu : ((rs.drop m).flatMap RJ.cells)[j]? = some u) => row_cell HRO.out.row (by rw [← flatMap_drop (f := RJ.cells) (K := 9) (fun _ => rfl)]; exact hu))
            clear hl8 hob hdl H7 HC8 HO7
            have hb1 : (rs.take m ++ [(l[n], u7, k7)]).length + (rs.drop m).length ≤ 1001 := by
              rw [List.length_append, HM1.out, ← HDL.out]; simp; omega
            have HL9 : Hid ((rs.take m ++ [(l[n], u7, k7)] ++ rs.drop m).length = rs.length + 1) := Lib.hid (by rw [List.length_append, List.length_append, HM1.out, ← HDL.out]; simp; omega)
            have HB1 := Lib.hid hb1
            have hcap2 : m ≤ oc := by omega
            have HOC := Lib.hid hoc
            clear hb1 hoc
            by_cases hce : oc = m
            · go_wp2_with (at_builtin; go_must (refine Row.appC (f := RJ.cells) el_JobV rfl _ _ rfl W.heap.size HSZ8.out (.slice x8 (m + 1) y8) (rs.take m ++ [(l[n], u7, k7)]) rfl HR8.out ⟨ob, 0, none⟩ (rs.length - m) 0 (rs.drop m) rfl HDL.out (fun _ => rfl) ?_ ?_ ?_ ?_ ?_); (intro j u hu; rw [List.drop_of_length_le (by have := HOC.out; omega)] at hu; simp at hu); (intro u hu; obtain ⟨x, _, hx⟩ := List.mem_flatMap.1 hu; exact RJ.one x u hx); (have := HB1.out; unfold maxLen; omega); (have := HB1.out; omega); intro v9 w9 hR9 hc9; obtain ⟨g9, k9, hv9⟩ := row_some hR9 (by rw [HL9.out]; exact Nat.succ_pos _); rw [HL9.out] at hv9; subst hv9; have HR9 := Lib.hid hR9; have HC9 := Lib.hid hc9; clear hR9 hc9)
              refine ⟨⟨n + 1, rs.take m ++ [(l[n], u7, k7)] ++ rs.drop m, g9, k9, by rw [HL9.out], by omega, by go_num, ?_, Lib.hid ⟨?_, ?_⟩, Lib.hid ?_⟩, by simp [intOf]; omega⟩
              · exact HC9.out.ext ((HE.out.trans HEW.out).trans HE8.out) (fun q hq => by have h1 := (HR8.out.blk q hq).1; have h2 := HE.out.below.size; have h3 := HEW.out.below.size; omega)
              · try rw [HL9.out]
                exact HR9.out.mono (Nat.le_trans HE.out.below.size HEW.out.below.size)
              · intro r hr
                rw [List.mem_append, List.mem_append, List.mem_singleton] at hr
                rcases hr with (hr | rfl) | hr
                · obtain ⟨q1, q2, q3⟩ := HRO.out.nd r (List.mem_of_mem_take hr)
                  exact ⟨q1, q2, nd_chg q3 HC9.out HR8.out.type⟩
                · refine ⟨HOK.out, fun x hx => ?_, nd_chg HN8.out HC9.out HR8.out.type⟩
                  obtain ⟨cs, hcs⟩ := slr_all HNN.out x hx
                  exact hcs.2
                · obtain ⟨q1, q2, q3⟩ := HRO.out.nd r (List.mem_of_mem_drop hr)
                  exact ⟨q1, q2, nd_chg q3 HC9.out HR8.out.type⟩
              · rw [sortedJ_step hlt, List.map_append, List.map_append, List.map_take, List.map_drop, HM.out]
                unfold insJ
                rw [HK.out]; rfl
            have hce2 : ¬ m = oc := fun e => hce e.symm
            go_wp2_with (at_builtin; go_must (refine Row.appC (f := RJ.cells) el_JobV rfl _ _ rfl W.heap.size HSZ8.out (.slice x8 (m + 1) y8) (rs.take m ++ [(l[n], u7, k7)]) rfl HR8.out ⟨ob, m * 9, none⟩ (rs.length - m) (oc - m) (rs.drop m) rfl HDL.out (fun _ => rfl) ?_ ?_ ?_ ?_ ?_); (intro j u hu; rw [Addr.add_lit]; exact HNEW.out j u hu); (intro u hu; obtain ⟨x, _, hx⟩ := List.mem_flatMap.1 hu; exact RJ.one x u hx); (have := HB1.out; unfold maxLen; omega); (have := HB1.out; omega); intro v9 w9 hR9 hc9; obtain ⟨g9, k9, hv9⟩ := row_some hR9 (by rw [HL9.out]; exact Nat.succ_pos _); rw [HL9.out] at hv9; subst hv9; have HR9 := Lib.hid hR9; have HC9 := Lib.hid hc9; clear hR9 hc9)
            refine ⟨⟨n + 1, rs.take m ++ [(l[n], u7, k7)] ++ rs.drop m, g9, k9, by rw [HL9.out], by omega, by go_num, ?_, Lib.hid ⟨?_, ?_⟩, Lib.hid ?_⟩, by simp [intOf]; omega⟩
            · exact HC9.out.ext ((HE.out.trans HEW.out).trans HE8.out) (fun q hq => by have h1 := (HR8.out.blk q hq).1; have h2 := HE.out.below.size; have h3 := HEW.out.below.size; omega)
            · try rw [HL9.out]
              exact HR9.out.mono (Nat.le_trans HE.out.below.size HEW.out.below.size)
            · intro r hr
              rw [List.mem_append, List.mem_append, List.mem_singleton] at hr
              rcases hr with (hr | rfl) | hr
              · obtain ⟨q1, q2, q3⟩ := HRO.out.nd r (List.mem_of_mem_take hr)
                exact ⟨q1, q2, nd_chg q3 HC9.out HR8.out.type⟩
              · refine ⟨HOK.out, fun x hx => ?_, nd_chg HN8.out HC9.out HR8.out.type⟩
                obtain ⟨cs, hcs⟩ := slr_all HNN.out x hx
                exact hcs.2
              · obtain ⟨q1, q2, q3⟩ := HRO.out.nd r (List.mem_of_mem_drop hr)
                exact ⟨q1, q2, nd_chg q3 HC9.out HR8.out.type⟩
            · rw [sortedJ_step hlt, List.map_append, List.map_append, List.map_take, List.map_drop, HM.out]
              unfold insJ
              rw [HK.out]; rfl
    · have hnl : n = l.length := by omega
      go_wp2
      go_ret
      exact ⟨_, rs, rfl, HE.out.trans (by repeat (first | exact Ext.refl _ | apply Ext.plus | apply Ext.alloc | apply Ext.drew)), HR.out.ext (by repeat (first | exact Ext.refl _ | apply Ext.plus | apply Ext.alloc | apply Ext.drew)), by rw [HM.out, hnl, List.take_length]⟩
end Go.Proofs.YtfmjnncgpfkejaaGreat
