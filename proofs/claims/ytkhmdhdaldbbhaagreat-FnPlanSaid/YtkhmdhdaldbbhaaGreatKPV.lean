/- FnPlan: its two inner blocks, each a theorem of its own (the block is taken out of the function's code by its number). -/
import Derived.Test.YtkhmdhdaldbbhaaGreatKPQ
import Derived.Test.YtkhmdhdaldbbhaaGreatKJE
import Derived.Deep.CutBlock
set_option maxRecDepth 100000
set_option linter.unusedVariables false
namespace Go.Proofs.YtkhmdhdaldbbhaaGreat
open Go.RowKit Go.Fin1
def kSlt9 (S : List Slt) : XReg.Kind := fun v u => ∃ a c, v = .slice a S.length c ∧ SlR u 5 rSlt v S
theorem kSlt9_good {S : List Slt} {w : World} {v : Value} (h : SlR w 5 rSlt v S) : XReg.GoodK (kSlt9 S) := by
  obtain ⟨a, c, rfl⟩ := h.len
  exact ⟨fun _ _ _ hx ⟨a, c, h1, h2⟩ => ⟨a, c, h1, h2.ext rSlt_stable9 hx⟩, _, w, a, c, rfl, h⟩
theorem ePool_jobsP {w : World} {p : Pl} {a b : Option Addr} {c d : Nat} (h : ePool w (.agg #[.slice a p.clear.length c, .slice b p.jobs.length d, (.int .i64 p.now)]) p) : SlR w 9 rJob (.slice b p.jobs.length d) p.jobs ∧ SlR w 1 rLabS (.slice a p.clear.length c) p.clear := by
  obtain ⟨a', c', b', d', hv, _, h1, h2⟩ := h
  unfold Pl.val at hv
  simp at hv
  obtain ⟨⟨rfl, rfl⟩, rfl, rfl⟩ := hv
  exact ⟨h2, h1⟩
theorem lab_ok9 {x : Lab} (h : labR x = true) : x.ok := by
  unfold labR at h
  rw [Bool.and_eq_true, isIn_iff, isIn_iff] at h
  unfold Lab.ok I64; omega
theorem planP_sz (p : Pl) : (planP p).length ≤ 100 ∧ ∀ s ∈ planP p, s.ok ∧ s.nodes.length ≤ 8 := by
  cases q : poolR p
  · have e : planP p = [] := by unfold planP; rw [if_neg (by rw [q]; simp)]
    rw [e]
    exact ⟨by simp, fun s hs => by cases hs⟩
  · have hp := poolR_of q
    obtain ⟨T, rows, hI⟩ := plan_facts hp.nw hp.cl hp.js (fun j hj => ⟨jobsR_mem hp.js hj, hp.run j hj⟩)
    have e : planP p = T.map (fun t => t.2.1) := by unfold planP; rw [if_pos q]; exact hI.out
    have hT1 : ∀ t ∈ T, t.1 ∈ p.jobs := fun t ht => (sortedJ_perm _).mem_iff.1 (hI.js.subset (List.mem_map.2 ⟨t, ht, rfl⟩))
    have hlen : T.length ≤ 96 := by
      have h1 := hI.js.length_le
      rw [List.length_map, (sortedJ_perm p.jobs).length_eq] at h1
      have := jobsR_len hp.js
      omega
    refine ⟨by rw [e, List.length_map]; omega, fun s hs => ?_⟩
    rw [e] at hs
    obtain ⟨t, ht, rfl⟩ := List.mem_map.1 hs
    have hf := hI.pf t ht
    have hj := jobsR_mem hp.js (hT1 t ht)
    have hr := (jobR_parts hj).1
    have hc := (clearR_len6 hp.cl).2
    have hn := hf.need
    have hsr := hf.sr
    refine ⟨⟨by rw [hf.l]; exact lab_ok9 hr.1, by rw [hf.id]; have := hr.2.1; unfold I64; omega, by unfold I64; omega, fun n hn => by have := (hf.at_ n hn).1; unfold I64; omega⟩, by have := hr.2.2.1; omega⟩
theorem slt_can (S : List Slt) (h1 : S.length ≤ 100) (h2 : ∀ s ∈ S, s.ok ∧ s.nodes.length ≤ 8) : ∃ v w, SlR w 5 rSlt v S := by
  obtain ⟨w, a, c, fp, _, hO⟩ := own_can (ty := 35) (K := 5) (o := oSlt) oSlt_local oSlt_held (xs := S) (fun s hs => by
    intro w
    obtain ⟨w', fy, cs, hx, hO, hl⟩ := canO_sl (ty := 2) (K := 1) (o := oFlat intCell) (oFlat_local _) (oFlat_held _) (xs := s.nodes) (fun y _ => canO_flat (fun _ => rfl) y) (by have := (h2 s hs).2; unfold maxLen; omega) w
    obtain ⟨u, rfl⟩ : ∃ u, cs = [u] := by
      match cs, hl with
      | [u], _ => exact ⟨u, rfl⟩
    exact ⟨w', fy, s.cells u, hx, ⟨⟨u, rfl, hO.1⟩, hO.2⟩, rfl⟩) (by unfold maxLen; omega) default
  exact ⟨_, w, oSltS_r9 hO.1 fun s hs => (h2 s hs).1⟩
/-- The block of that number in a function's code. -/
def blkAt (n : Nat) : Code → Option Code
  | .seq a b => match blkAt n a with
    | some c => some c
    | none => blkAt n b
  | .cond _ a b => match blkAt n a with
    | some c => some c
    | none => blkAt n b
  | .block i c => match Nat.decEq i n with
    | .isTrue _ => some (.block i c)
    | .isFalse _ => blkAt n c
  | .loop c => blkAt n c
  | _ => none
def blkOf (f : Func) (n : Nat) : Code := match f.body with
  | some c => match blkAt n c with
    | some b => b
    | none => .skip
  | none => .skip
theorem kJobO_can {L : List Jb} (hn : ∀ j ∈ L, j.nodes.length ≤ 1048576) (x : Lab) (id : Int) : XReg.GoodK (kJobO (jobOf L x id)) := by
  obtain ⟨_, _, _, h⟩ := oIntS_new default (jobOf L x id).nodes (by have := jobOf_len hn x id; unfold maxLen; omega)
  exact kJobO_good h
set_option maxHeartbeats 12800000 in
theorem planL2 (K : Act → World → Prop) (Q : Exit → Act → World → Prop) (wc : World) (p : Pl) (N k : Nat) (nd : List Int) (J : Jb) (bP bL oL lc nc cc bJ : Nat) (ca na : Option Addr) (x0 x1 x2 x5 x9 x10 x11 x12 x13 x14 x15 x16 x17 x18 x19 x20 x21 x22 x23 x24 x25 x26 x27 x28 x29 x30 x31 x32 x33 x34 x35 x36 x37 x38 x39 x40 x41 x42 x43 x44 x45 x46 x47 x48 x49 x50 x51 x52 x53 x54 x55 x56 x57 x58 x59 x60 x61 x62 x63 x64 x65 x66 x67 x68 x69 x70 x71 x72 x73 x74 x75 x76 x77 x78 x79 x80 x81 x82 x83 x84 x85 x86 x87 x88 x89 x90 x91 x92 x93 x94 x95 x96 x97 x98 x99 x100 x101 x102 x103 x104 x105 x106 x107 x108 x109 x110 x111 x112 x113 x114 x115 x116 x117 x118 x119 x120 x121 x122 x123 x124 x125 x126 x127 x128 x129 x130 x131 x132 x133 x134 x135 x136 x137 x138 x139 x140 x141 x142 x143 x144 x145 x146 x147 x148 x149 x150 x151 x152 x153 x154 x155 x156 x157 x158 x159 x160 x161 x162 x163 x164 x165 x166 x167 x168 x169 x170 x171 x172 x173 x174 x175 x176 x177 x178 x179 x180 x181 x182 x183 x184 x185 x186 x187 x188 x189 x190 x191 x192 x193 x194 x195 x196 x197 x198 x199 x200 x201 x202 x203 x204 x205 x206 x207 x208 x209 x210 : Value)
    (hkl : k < N) (hN : N ≤ 100) (p0 : wc.cell? ⟨bP, 0, none⟩ = some (.slice ca p.clear.length cc)) (po : wc.old bP) (l4' : wc.cell? ⟨bL, oL + k * 5 + 4, none⟩ = some (.slice na nd.length nc)) (loo' : wc.old bL)
    (j0 : wc.cell? ⟨bJ, 0, none⟩ = some (.int .i64 J.l.lv)) (j1 : wc.cell? ⟨bJ, 1, none⟩ = some (.int .i64 J.l.st)) (jo : wc.old bJ) (HN8 : Hid (SlR wc 1 rInt (.slice na nd.length nc) nd)) (HC8 : Hid (SlR wc 1 rLabS (.slice ca p.clear.length cc) p.clear))
    (HAt : Hid (∀ n ∈ nd, (0 ≤ n ∧ n < p.clear.length) ∧ hasL (p.clear.getD n.toNat []) J.l = true)) (HB : Hid (PlB p)) (hnl : nd.length ≤ 8)
    (hK : ∀ (u2 u8 u9 u10 u11 u83 u84 u85 u86 u87 u88 u89 u90 u91 u92 u93 u94 u95 u96 u97 u98 u99 u100 u101 u102 u103 u104 u105 u106 u107 u108 u109 u110 u111 u112 u113 u114 u115 u116 u117 u118 u119 u120 u121 u122 : Value) (w' : World), Ext wc w' → K { tmps := #[x0, x1, u2, .pointer (some ⟨bP, 0, none⟩), .slice (some ⟨bL, oL, none⟩) N lc, x5, (.int .i64 (k : Int)), .pointer (some ⟨bJ, 0, none⟩), u8, u9, u10, u11, x12, x13, x14, x15, x16, x17, x18, x19, x20, x21, x22, x23, x24, x25, x26, x27, x28, x29, x30, x31, x32, x33, x34, x35, x36, x37, x38, x39, x40, x41, x42, x43, x44, x45, x46, x47, x48, x49, x50, x51, x52, x53, x54, x55, x56, x57, x58, x59, x60, x61, x62, x63, x64, x65, x66, x67, x68, x69, x70, x71, x72, x73, x74, x75, x76, x77, x78, x79, x80, x81, x82, u83, u84, u85, u86, u87, u88, u89, u90, u91, u92, u93, u94, u95, u96, u97, u98, u99, u100, u101, u102, u103, u104, u105, u106, u107, u108, u109, u110, u111, u112, u113, u114, u115, u116, u117, u118, u119, u120, u121, u122, x123, x124, x125, x126, x127, x128, x129, x130, x131, x132, x133, x134, x135, x136, x137, x138, x139, x140, x141, x142, x143, x144, x145, x146, x147, x148, x149, x150, x151, x152, x153, x154, x155, x156, x157, x158, x159, x160, x161, x162, x163, x164, x165, x166, x167, x168, x169, x170, x171, x172, x173, x174, x175, x176, x177, x178, x179, x180, x181, x182, x183, x184, x185, x186, x187, x188, x189, x190, x191, x192, x193, x194, x195, x196, x197, x198, x199, x200, x201, x202, x203, x204, x205, x206, x207, x208, x209, x210], defers := [] } w') :
    (blkOf Tryz.f3 2).wp Tryz.prog (Exit.then K Q) { tmps := #[x0, x1, x2, .pointer (some ⟨bP, 0, none⟩), .slice (some ⟨bL, oL, none⟩) N lc, x5, (.int .i64 (k : Int)), .pointer (some ⟨bJ, 0, none⟩), (.int .i64 0), x9, x10, x11, x12, x13, x14, x15, x16, x17, x18, x19, x20, x21, x22, x23, x24, x25, x26, x27, x28, x29, x30, x31, x32, x33, x34, x35, x36, x37, x38, x39, x40, x41, x42, x43, x44, x45, x46, x47, x48, x49, x50, x51, x52, x53, x54, x55, x56, x57, x58, x59, x60, x61, x62, x63, x64, x65, x66, x67, x68, x69, x70, x71, x72, x73, x74, x75, x76, x77, x78, x79, x80, x81, x82, x83, x84, x85, x86, x87, x88, x89, x90, x91, x92, x93, x94, x95, x96, x97, x98, x99, x100, x101, x102, x103, x104, x105, x106, x107, x108, x109, x110, x111, x112, x113, x114, x115, x116, x117, x118, x119, x120, x121, x122, x123, x124, x125, x126, x127, x128, x129, x130, x131, x132, x133, x134, x135, x136, x137, x138, x139, x140, x141, x142, x143, x144, x145, x146, x147, x148, x149, x150, x151, x152, x153, x154, x155, x156, x157, x158, x159, x160, x161, x162, x163, x164, x165, x166, x167, x168, x169, x170, x171, x172, x173, x174, x175, x176, x177, x178, x179, x180, x181, x182, x183, x184, x185, x186, x187, x188, x189, x190, x191, x192, x193, x194, x195, x196, x197, x198, x199, x200, x201, x202, x203, x204, x205, x206, x207, x208, x209, x210], defers := [] } wc := by
  have HKK := Lib.hid hK
  clear hK
  have hkl9 : k < 100 := by omega
  conv in (blkOf _ _) => whnf
  go_wp2_with fail
  go_loopw [8] (fun i wr2 => ∃ m : Nat, m ≤ nd.length ∧ i = (.int .i64 (m : Int)) ∧ Hid (Ext wc wr2)) (fun i _ => nd.length - (intOf i).toNat)
  case atStart => exact ⟨0, Nat.zero_le _, rfl, Lib.hid xt⟩
  case round =>
    obtain ⟨m, hm, rfl, HE2⟩ := hrel
    obtain ⟨X2, rfl⟩ := HE2.out
    by_cases hml : m < nd.length
    case neg =>
      have hmb : decide ((m : Int) < (nd.length : Int)) = false := decide_eq_false (by omega)
      go_wp2_with fail
      exact HKK.out _ _ _ _ _ _ _ _ _ _ _ _ _ _ _ _ _ _ _ _ _ _ _ _ _ _ _ _ _ _ _ _ _ _ _ _ _ _ _ _ _ _ _ _ _ _ HE2.out
    have hmb : decide ((m : Int) < (nd.length : Int)) = true := decide_eq_true (by omega)
    obtain ⟨bN, oN, rfl⟩ := slr_some HN8.out hml
    obtain ⟨no, -, n0⟩ := int_at HN8.out hml
    obtain ⟨⟨hq0, hq1⟩, hql⟩ := HAt.out _ (List.getElem_mem hml)
    obtain ⟨nn, hnn⟩ : ∃ nn : Nat, nd[m] = (nn : Int) := ⟨nd[m].toNat, by omega⟩
    rw [hnn] at n0 hq1 hql
    have hnl2 : nn < p.clear.length := by omega
    obtain ⟨bC, oC, rfl⟩ := slr_some HC8.out hnl2
    obtain ⟨co, vx, hvx, c0⟩ := sl_at HC8.out hnl2
    obtain ⟨xa, xc, rfl⟩ := hvx.len
    have HVX := Lib.hid hvx
    have HQL := Lib.hid (show hasL p.clear[nn] J.l = true by
      rw [Int.toNat_natCast] at hql
      simpa [List.getD, hnl2] using hql)
    have hrl : p.clear[nn].length ≤ 8 := (HB.out.c2 _ (List.getElem_mem hnl2)).2
    clear hnn hq0 hq1 hql hvx
    generalize p.clear[nn] = row at HVX HQL hrl c0 ⊢
    go_upto_region 19 with fail
    (refine wp_region_x 13 (by kernel_rfl) (by kernel_rfl) (by kernel_rfl) ?_; (iterate 13 (apply XReg.step; (case h => (intro w' hw'; obtain ⟨X', rfl⟩ := hw'; go_wp2_with (fail); exact ⟨rfl, xt⟩)); (case hv => kernel_rfl))); refine XReg.doneN (fun X => ?_))
    go_wp2_with fail
    go_loopw [11, 9] (fun i f wr3 => ∃ q : Nat, q ≤ row.length ∧ i = (.int .i64 (q : Int)) ∧ f = .bool ((row.take q).any (fun y => sameL y J.l)) ∧ Hid (Ext wc wr3)) (fun i _ _ => row.length - (intOf i).toNat)
    case atStart => exact ⟨0, Nat.zero_le _, rfl, rfl, Lib.hid xt⟩
    case round =>
      obtain ⟨q, hq, rfl, rfl, HE3⟩ := hrel
      obtain ⟨X3, rfl⟩ := HE3.out
      by_cases hqb : q < row.length
      case neg =>
        have hqd : decide ((q : Int) < (row.length : Int)) = false := decide_eq_false (by omega)
        have hany : (row.take q).any (fun y => sameL y J.l) = true := by
          rw [List.take_of_length_le (by omega)]
          have := HQL.out
          unfold hasL at this; exact this
        rw [hany]
        clear hany
        have hmw : wrap64 ((m : Int) + 1) = (m : Int) + 1 := by unfold wrap64; omega
        go_wp2
        exact ⟨⟨m + 1, by omega, by go_num, Lib.hid xt⟩, by simp [intOf]; omega⟩
      have hqd : decide ((q : Int) < (row.length : Int)) = true := decide_eq_true (by omega)
      have hqw : wrap64 ((q : Int) + 1) = (q : Int) + 1 := by unfold wrap64; omega
      have hst : (row.take (q + 1)).any (fun y => sameL y J.l) = ((row.take q).any (fun y => sameL y J.l) || sameL row[q] J.l) := by
        rw [List.take_succ_eq_append_getElem hqb, List.any_append]; simp
      have HST := Lib.hid hst
      clear hst
      obtain ⟨bR, oR, rfl⟩ := slr_some HVX.out hqb
      obtain ⟨ro, -, r0, r1⟩ := lab_at HVX.out hqb
      cases hf : (row.take q).any (fun y => sameL y J.l)
      · cases hsq : sameL ⟨row[q].lv, row[q].st⟩ ⟨J.l.lv, J.l.st⟩
        · go_upto_region 23 with fail
          (refine wp_region_x 11 (by kernel_rfl) (by kernel_rfl) (by kernel_rfl) ?_; (iterate 11 (apply XReg.step; (case h => (intro w' hw'; obtain ⟨X', rfl⟩ := hw'; go_wp2_with (fail); exact ⟨rfl, xt⟩)); (case hv => kernel_rfl))); refine XReg.doneN (fun X => ?_))
          go_wp2
          exact ⟨⟨q + 1, by omega, by go_num, by rw [HST.out, hf, show sameL row[q] J.l = false from hsq]; rfl, Lib.hid xt⟩, by simp [intOf]; omega⟩
        · go_upto_region 23 with fail
          (refine wp_region_x 11 (by kernel_rfl) (by kernel_rfl) (by kernel_rfl) ?_; (iterate 11 (apply XReg.step; (case h => (intro w' hw'; obtain ⟨X', rfl⟩ := hw'; go_wp2_with (fail); exact ⟨rfl, xt⟩)); (case hv => kernel_rfl))); refine XReg.doneN (fun X => ?_))
          go_wp2
          exact ⟨⟨q + 1, by omega, by go_num, by rw [HST.out, hf, show sameL row[q] J.l = true from hsq]; rfl, Lib.hid xt⟩, by simp [intOf]; omega⟩
      · go_upto_region 23 with fail
        (refine wp_region_x 11 (by kernel_rfl) (by kernel_rfl) (by kernel_rfl) ?_; (iterate 11 (apply XReg.step; (case h => (intro w' hw'; obtain ⟨X', rfl⟩ := hw'; go_wp2_with (fail); exact ⟨rfl, xt⟩)); (case hv => kernel_rfl))); refine XReg.doneN (fun X => ?_))
        go_wp2
        exact ⟨⟨q + 1, by omega, by go_num, by rw [HST.out, hf]; rfl, Lib.hid xt⟩, by simp [intOf]; omega⟩
set_option maxHeartbeats 12800000 in
theorem planL4 (R : Exit → Act → World → Prop) (wy : World) (p : Pl) (S : List Slt) (k : Nat) (J : Jb) (bP bL oL lc nc jc bJ : Nat) (ja na : Option Addr) (x0 x1 x2 x5 x8 x9 x10 x11 x13 x14 x15 x16 x17 x18 x19 x20 x21 x22 x23 x24 x25 x26 x27 x28 x29 x30 x31 x32 x33 x34 x35 x36 x37 x38 x39 x40 x41 x42 x43 x44 x45 x46 x47 x48 x49 x50 x51 x52 x53 x54 x55 x56 x57 x58 x59 x60 x61 x62 x63 x64 x65 x66 x67 x68 x69 x70 x71 x72 x73 x74 x75 x76 x77 x78 x79 x80 x81 x82 x83 x84 x85 x86 x87 x88 x89 x90 x91 x92 x93 x94 x95 x96 x97 x98 x99 x100 x101 x102 x103 x104 x105 x106 x107 x108 x109 x110 x111 x112 x113 x114 x115 x116 x117 x118 x119 x120 x121 x122 x123 x124 x125 x126 x127 x128 x129 x130 x131 x132 x133 x134 x135 x136 x137 x138 x139 x140 x141 x142 x143 x144 x145 x146 x147 x148 x149 x150 x151 x152 x153 x154 x155 x156 x157 x158 x159 x160 x161 x162 x163 x164 x165 x166 x167 x168 x169 x170 x171 x172 x173 x174 x175 x176 x177 x178 x179 x180 x181 x182 x183 x184 x185 x186 x187 x188 x189 x190 x191 x192 x193 x194 x195 x196 x197 x198 x199 x200 x201 x202 x203 x204 x205 x206 x207 x208 x209 x210 : Value)
    (hkl : k < S.length) (HLen : Hid (S.length ≤ 100)) (p1 : wy.cell? ⟨bP, 1, none⟩ = some (.slice ja p.jobs.length jc)) (po : wy.old bP) (y3 : wy.cell? ⟨bL, oL + k * 5 + 3, none⟩ = some (.int .i64 S[k].start)) (y4 : wy.cell? ⟨bL, oL + k * 5 + 4, none⟩ = some (.slice na S[k].nodes.length nc)) (yo : wy.old bL)
    (j4 : wy.cell? ⟨bJ, 4, none⟩ = some (.int .i64 J.long)) (jo : wy.old bJ) (HS9 : Hid (SlR wy 5 rSlt (.slice (some ⟨bL, oL, none⟩) S.length lc) S)) (HJ9 : Hid (SlR wy 9 rJob (.slice ja p.jobs.length jc) p.jobs)) (HJN : Hid (∀ j ∈ p.jobs, j.nodes.length ≤ 1048576))
    (HN9 : Hid (SlR wy 1 rInt (.slice na S[k].nodes.length nc) S[k].nodes)) (HL : Hid (PlanLaw p S)) (HZ9 : Hid (S.length ≤ 100 ∧ ∀ s ∈ S, s.ok ∧ s.nodes.length ≤ 8)) (HJb : Hid ((1 ≤ J.long ∧ J.long ≤ 20) ∧ (0 ≤ S[k].start ∧ S[k].start ≤ 1000000)))
    (HAp : Hid (∀ (q : Nat) (hq : q < S.length), q < k → S[q].start < S[k].start + J.long → S[k].start < S[q].start + (jobOf p.jobs S[q].l S[q].id).long → ∀ n ∈ S[k].nodes, n ∉ S[q].nodes))
    (hK : ∀ (u2 u12 u13 u14 u15 u16 u123 u124 u125 u126 u127 u128 u129 u130 u131 u132 u133 u134 u135 u136 u137 u138 u139 u140 u141 u142 u143 u144 u145 u146 u147 u148 u149 u150 u151 u152 u153 u154 u155 u156 u157 u158 u159 u160 u161 u162 u163 u164 u165 u166 u167 u168 u169 u170 u171 u172 u173 u174 u175 u176 u177 u178 u179 u180 u181 u182 u183 u184 u185 u186 u187 u188 u189 u190 u191 u192 u193 u194 u195 u196 u197 u198 u199 u200 u201 u202 u203 u204 u205 u206 u207 u208 u209 u210 : Value) (w' : World), Ext wy w' → R .normal { tmps := #[x0, x1, u2, .pointer (some ⟨bP, 0, none⟩), .slice (some ⟨bL, oL, none⟩) S.length lc, x5, (.int .i64 (k : Int)), .pointer (some ⟨bJ, 0, none⟩), x8, x9, x10, x11, u12, u13, u14, u15, u16, x17, x18, x19, x20, x21, x22, x23, x24, x25, x26, x27, x28, x29, x30, x31, x32, x33, x34, x35, x36, x37, x38, x39, x40, x41, x42, x43, x44, x45, x46, x47, x48, x49, x50, x51, x52, x53, x54, x55, x56, x57, x58, x59, x60, x61, x62, x63, x64, x65, x66, x67, x68, x69, x70, x71, x72, x73, x74, x75, x76, x77, x78, x79, x80, x81, x82, x83, x84, x85, x86, x87, x88, x89, x90, x91, x92, x93, x94, x95, x96, x97, x98, x99, x100, x101, x102, x103, x104, x105, x106, x107, x108, x109, x110, x111, x112, x113, x114, x115, x116, x117, x118, x119, x120, x121, x122, u123, u124, u125, u126, u127, u128, u129, u130, u131, u132, u133, u134, u135, u136, u137, u138, u139, u140, u141, u142, u143, u144, u145, u146, u147, u148, u149, u150, u151, u152, u153, u154, u155, u156, u157, u158, u159, u160, u161, u162, u163, u164, u165, u166, u167, u168, u169, u170, u171, u172, u173, u174, u175, u176, u177, u178, u179, u180, u181, u182, u183, u184, u185, u186, u187, u188, u189, u190, u191, u192, u193, u194, u195, u196, u197, u198, u199, u200, u201, u202, u203, u204, u205, u206, u207, u208, u209, u210], defers := [] } w') :
    (blkOf Tryz.f3 6).wp Tryz.prog R { tmps := #[x0, x1, x2, .pointer (some ⟨bP, 0, none⟩), .slice (some ⟨bL, oL, none⟩) S.length lc, x5, (.int .i64 (k : Int)), .pointer (some ⟨bJ, 0, none⟩), x8, x9, x10, x11, (.int .i64 0), x13, x14, x15, x16, x17, x18, x19, x20, x21, x22, x23, x24, x25, x26, x27, x28, x29, x30, x31, x32, x33, x34, x35, x36, x37, x38, x39, x40, x41, x42, x43, x44, x45, x46, x47, x48, x49, x50, x51, x52, x53, x54, x55, x56, x57, x58, x59, x60, x61, x62, x63, x64, x65, x66, x67, x68, x69, x70, x71, x72, x73, x74, x75, x76, x77, x78, x79, x80, x81, x82, x83, x84, x85, x86, x87, x88, x89, x90, x91, x92, x93, x94, x95, x96, x97, x98, x99, x100, x101, x102, x103, x104, x105, x106, x107, x108, x109, x110, x111, x112, x113, x114, x115, x116, x117, x118, x119, x120, x121, x122, x123, x124, x125, x126, x127, x128, x129, x130, x131, x132, x133, x134, x135, x136, x137, x138, x139, x140, x141, x142, x143, x144, x145, x146, x147, x148, x149, x150, x151, x152, x153, x154, x155, x156, x157, x158, x159, x160, x161, x162, x163, x164, x165, x166, x167, x168, x169, x170, x171, x172, x173, x174, x175, x176, x177, x178, x179, x180, x181, x182, x183, x184, x185, x186, x187, x188, x189, x190, x191, x192, x193, x194, x195, x196, x197, x198, x199, x200, x201, x202, x203, x204, x205, x206, x207, x208, x209, x210], defers := [] } wy := by
  have HKK := Lib.hid hK
  clear hK
  have hkl9 : k < 100 := by have := HLen.out; omega
  have hnl : S[k].nodes.length ≤ 8 := (HZ9.out.2 _ (List.getElem_mem hkl)).2
  conv in (blkOf _ _) => whnf
  go_wp2_with fail
  go_loopw [12] (fun i wr4 => ∃ n : Nat, n ≤ k ∧ i = (.int .i64 (n : Int)) ∧ Hid (Ext wy wr4)) (fun i _ => k - (intOf i).toNat)
  case atStart => exact ⟨0, Nat.zero_le _, rfl, Lib.hid (Ext.refl _)⟩
  case round =>
    obtain ⟨n, hn, rfl, HF⟩ := hrel
    obtain ⟨XF, rfl⟩ := HF.out
    by_cases hnk : n < k
    case neg =>
      have hnb : decide ((n : Int) < (k : Int)) = false := decide_eq_false (by omega)
      go_wp2_with fail
      exact HKK.out _ _ _ _ _ _ _ _ _ _ _ _ _ _ _ _ _ _ _ _ _ _ _ _ _ _ _ _ _ _ _ _ _ _ _ _ _ _ _ _ _ _ _ _ _ _ _ _ _ _ _ _ _ _ _ _ _ _ _ _ _ _ _ _ _ _ _ _ _ _ _ _ _ _ _ _ _ _ _ _ _ _ _ _ _ _ _ _ _ _ _ _ _ _ _ HF.out
    have hnb : decide ((n : Int) < (k : Int)) = true := decide_eq_true (by omega)
    have hnw : wrap64 ((n : Int) + 1) = (n : Int) + 1 := by unfold wrap64; omega
    have hnS : n < S.length := by omega
    generalize hW : wy.plus XF = Wn
    have hexn : Ext wy Wn := by rw [← hW]; exact xt
    have HEn := Lib.hid hexn
    have HSn := Lib.hid (HS9.out.ext rSlt_stable9 hexn)
    have HJB := Lib.hid (HJ9.out.ext rJob_stable hexn)
    clear hW hexn
    obtain ⟨soo, nb, nbc, -, hsn, s0, s1, s2, s3, s4⟩ := slt_at9 HSn.out hnS
    have HSN := Lib.hid hsn
    clear hsn
    have q1 := HEn.out.cell p1
    have qo : Wn.old bP := World.old_of_cell q1
    have HKJ := Lib.hid (kJobO_can HJN.out S[n].l S[n].id)
    -- region REG: the job of the slot IX, in a box: from the world named W on
    go_upto_region 29 with fail
    (refine wp_region_y 14 [(fun u _ => u = (.pointer (some ⟨bP, 1, none⟩))), (fun u _ => u = (.slice ja p.jobs.length jc)), (fun u _ => u = (.slice (some ⟨bL, oL, none⟩) S.length lc)), (fun u _ => u = (.int .i64 (n : Int))), (fun u _ => u = (.pointer (some ⟨bL, oL + n * 5, none⟩))), (fun u _ => u = (.pointer (some ⟨bL, oL + n * 5, none⟩))), (fun u _ => u = (.agg #[(.int .i64 (S[n]).l.lv), (.int .i64 (S[n]).l.st)])), (fun u _ => u = (.slice (some ⟨bL, oL, none⟩) S.length lc)), (fun u _ => u = (.int .i64 (n : Int))), (fun u _ => u = (.pointer (some ⟨bL, oL + n * 5, none⟩))), (fun u _ => u = (.pointer (some ⟨bL, oL + n * 5 + 2, none⟩))), (fun u _ => u = (.int .i64 (S[n]).id)), kJobO (jobOf p.jobs S[n].l S[n].id), kBox (Wn).heap.size [(.int .i64 0), (.int .i64 0), (.int .i64 0), (.int .i64 0), (.int .i64 0), (.int .i64 0), (.int .i64 0), (.int .i64 0), .slice none 0 0] 37] (by kernel_rfl) (by kernel_rfl) (by kernel_rfl) rfl ?_ (by (repeat' (first | exact trivial | exact XReg.GoodK.same _ default | refine And.intro ?_ ?_)); all_goals (first | exact HKJ.out | exact kBox_good _ _ _)))
    (apply YReg.val (.pointer (some ⟨bP, 1, none⟩)); (case h => (intro w' hw' hF'; obtain ⟨X', rfl⟩ := hw'; have HF' := Lib.hid hF'; clear hF'; go_wp2_with (fail); exact ⟨rfl, xt⟩)); (case hv => kernel_rfl))
    (apply YReg.val (.slice ja p.jobs.length jc); (case h => (intro w' hw' hF'; obtain ⟨X', rfl⟩ := hw'; have HF' := Lib.hid hF'; clear hF'; go_wp2_with (fail); exact ⟨rfl, xt⟩)); (case hv => kernel_rfl))
    (apply YReg.val (.slice (some ⟨bL, oL, none⟩) S.length lc); (case h => (intro w' hw' hF'; obtain ⟨X', rfl⟩ := hw'; have HF' := Lib.hid hF'; clear hF'; go_wp2_with (fail); exact ⟨rfl, xt⟩)); (case hv => kernel_rfl))
    (apply YReg.val (.int .i64 (n : Int)); (case h => (intro w' hw' hF'; obtain ⟨X', rfl⟩ := hw'; have HF' := Lib.hid hF'; clear hF'; go_wp2_with (fail); exact ⟨rfl, xt⟩)); (case hv => kernel_rfl))
    (apply YReg.val (.pointer (some ⟨bL, oL + n * 5, none⟩)); (case h => (intro w' hw' hF'; obtain ⟨X', rfl⟩ := hw'; have HF' := Lib.hid hF'; clear hF'; go_wp2_with (fail); exact ⟨rfl, xt⟩)); (case hv => kernel_rfl))
    (apply YReg.val (.pointer (some ⟨bL, oL + n * 5, none⟩)); (case h => (intro w' hw' hF'; obtain ⟨X', rfl⟩ := hw'; have HF' := Lib.hid hF'; clear hF'; go_wp2_with (fail); exact ⟨rfl, xt⟩)); (case hv => kernel_rfl))
    (apply YReg.val (.agg #[(.int .i64 (S[n]).l.lv), (.int .i64 (S[n]).l.st)]); (case h => (intro w' hw' hF'; obtain ⟨X', rfl⟩ := hw'; have HF' := Lib.hid hF'; clear hF'; go_wp2_with (fail); exact ⟨rfl, xt⟩)); (case hv => kernel_rfl))
    (apply YReg.val (.slice (some ⟨bL, oL, none⟩) S.length lc); (case h => (intro w' hw' hF'; obtain ⟨X', rfl⟩ := hw'; have HF' := Lib.hid hF'; clear hF'; go_wp2_with (fail); exact ⟨rfl, xt⟩)); (case hv => kernel_rfl))
    (apply YReg.val (.int .i64 (n : Int)); (case h => (intro w' hw' hF'; obtain ⟨X', rfl⟩ := hw'; have HF' := Lib.hid hF'; clear hF'; go_wp2_with (fail); exact ⟨rfl, xt⟩)); (case hv => kernel_rfl))
    (apply YReg.val (.pointer (some ⟨bL, oL + n * 5, none⟩)); (case h => (intro w' hw' hF'; obtain ⟨X', rfl⟩ := hw'; have HF' := Lib.hid hF'; clear hF'; go_wp2_with (fail); exact ⟨rfl, xt⟩)); (case hv => kernel_rfl))
    (apply YReg.val (.pointer (some ⟨bL, oL + n * 5 + 2, none⟩)); (case h => (intro w' hw' hF'; obtain ⟨X', rfl⟩ := hw'; have HF' := Lib.hid hF'; clear hF'; go_wp2_with (fail); exact ⟨rfl, xt⟩)); (case hv => kernel_rfl))
    (apply YReg.val (.int .i64 (S[n]).id); (case h => (intro w' hw' hF'; obtain ⟨X', rfl⟩ := hw'; have HF' := Lib.hid hF'; clear hF'; go_wp2_with (fail); exact ⟨rfl, xt⟩)); (case hv => kernel_rfl))
    refine YReg.kind (fun w' hw' hF' => ?_) (fun v1 w1 hK => ?_)
    · obtain ⟨X', rfl⟩ := hw'
      clear hF'
      go_wp2_with fail
      refine (specJobOf_any _ p.jobs (S[n]).l (S[n]).id _ (HJB.out.ext rJob_stable xt) HJN.out).mono ?_
      rintro e _ ⟨nv9, fp9, rfl, ⟨X9, rfl⟩, hO⟩
      obtain ⟨a9, c9, rfl⟩ := hO.shape
      have H9 := Lib.hid (kJobO_in hO.1)
      clear hO
      unfold Jb.val at H9 ⊢
      go_wp2
      exact ⟨xt, H9.out⟩
    obtain ⟨va9, vc9, f9, rfl, -⟩ := hK
    clear w1
    unfold Jb.val
    refine YReg.kind (fun w' hw' hF' => ?_) (fun v1 w1 hK => ?_)
    · obtain ⟨X', rfl⟩ := hw'
      clear hF'
      go_wp2_with fail
      refine ⟨xt, _, rfl, ?_, ?_⟩
      · first | omega | (simp only [World.size_plus, World.size_alloc]; omega)
      · have h := heap_alloc_new ((Wn).plus X') (.cells (List.toArray [(.int .i64 0), (.int .i64 0), (.int .i64 0), (.int .i64 0), (.int .i64 0), (.int .i64 0), (.int .i64 0), (.int .i64 0), .slice none 0 0]) 37)
        simp only [World.size_plus] at h
        exact h
    obtain ⟨bO, rfl, hgB, hgh⟩ := hK
    have HGB := Lib.hid hgB
    clear hgB hgh w1
    refine YReg.done1 (fun X hF => ?_)
    obtain ⟨hgB, hbx⟩ := kBox_g (hF 13 (kBox (Wn).heap.size [(.int .i64 0), (.int .i64 0), (.int .i64 0), (.int .i64 0), (.int .i64 0), (.int .i64 0), (.int .i64 0), (.int .i64 0), .slice none 0 0] 37, .pointer (some ⟨bO, 0, none⟩)) (by kernel_rfl))
    clear hF
    generalize hWX : (Wn).plus X = WX at hbx ⊢
    have hexX : Ext Wn WX := by rw [← hWX]; exact xt
    have hb9 : Blk WX bO [(.int .i64 0), (.int .i64 0), (.int .i64 0), (.int .i64 0), (.int .i64 0), (.int .i64 0), (.int .i64 0), (.int .i64 0), .slice none 0 0] 37 := hbx
    have e0 : WX.cell? ⟨bO, 0, none⟩ = some (.int .i64 0) := hb9.cell 0
    have e1 : WX.cell? ⟨bO, 1, none⟩ = some (.int .i64 0) := hb9.cell 1
    have e2 : WX.cell? ⟨bO, 2, none⟩ = some (.int .i64 0) := hb9.cell 2
    have e3 : WX.cell? ⟨bO, 3, none⟩ = some (.int .i64 0) := hb9.cell 3
    have e4 : WX.cell? ⟨bO, 4, none⟩ = some (.int .i64 0) := hb9.cell 4
    have e5 : WX.cell? ⟨bO, 5, none⟩ = some (.int .i64 0) := hb9.cell 5
    have e6 : WX.cell? ⟨bO, 6, none⟩ = some (.int .i64 0) := hb9.cell 6
    have e7 : WX.cell? ⟨bO, 7, none⟩ = some (.int .i64 0) := hb9.cell 7
    have e8 : WX.cell? ⟨bO, 8, none⟩ = some (.slice none 0 0) := hb9.cell 8
    have eo := hb9.old
    have ef := hb9.fz
    have HB9 := Lib.hid hb9
    have HEX := Lib.hid hexX
    have HGB := Lib.hid hgB
    clear hbx hb9 hexX hgB hWX
    go_upto_region 30 with fail
    refine gen_world (fun Wo hW => ?_)
    have HEJ := Lib.hid (show Ext Wn Wo by rw [hW]; exact (set9_chg _ _ _ _ _ _ _ _ _ _ _).ext HEX.out (by have := HGB.out; simpa using this))
    have HBO := Lib.hid (show Blk Wo bO (Jb.cells (jobOf p.jobs S[n].l S[n].id) (.slice va9 (Jb.nodes (jobOf p.jobs S[n].l S[n].id)).length vc9)) 37 by rw [hW]; exact ((((((((HB9.out.set 0 _).set 1 _).set 2 _).set 3 _).set 4 _).set 5 _).set 6 _).set 7 _).set 8 _)
    clear hW e0 e1 e2 e3 e4 e5 e6 e7 e8 eo ef HB9 HEX HGB
    have hap := HAp.out n hnS hnk
    have hjn := HL.out.job n hnS
    have hjk := HJb.out
    have HEo := Lib.hid (HEn.out.trans HEJ.out)
    have HSo := Lib.hid (HSn.out.ext rSlt_stable9 HEJ.out)
    have HNo := Lib.hid (HN9.out.ext rInt_stable HEo.out)
    have HMo := Lib.hid (HSN.out.ext rInt_stable HEJ.out)
    have t0 := HEJ.out.cell s0
    have t1 := HEJ.out.cell s1
    have t2 := HEJ.out.cell s2
    have t3 := HEJ.out.cell s3
    have t4 := HEJ.out.cell s4
    have k3 := HEo.out.cell y3
    have k4 := HEo.out.cell y4
    have ko : Wo.old bL := World.old_of_cell k3
    have jl := HEo.out.cell j4
    have jlo : Wo.old bJ := World.old_of_cell jl
    clear s0 s1 s2 s3 s4 soo q1 qo HEJ HSn HSN HJB HKJ HEn
    generalize jobOf p.jobs S[n].l S[n].id = O at HBO hap hjn ⊢
    have o4 : Wo.cell? ⟨bO, 4, none⟩ = some (.int .i64 O.long) := HBO.out.cell 4
    have oo := HBO.out.old
    have hO1 : 1 ≤ O.long ∧ O.long ≤ 20 := hjn.1
    have hO2 : 0 ≤ S[n].start ∧ S[n].start ≤ 1000000 := hjn.2
    have hJ1 : 1 ≤ J.long ∧ J.long ≤ 20 := hjk.1
    have hJ2 : 0 ≤ S[k].start ∧ S[k].start ≤ 1000000 := hjk.2
    have HAP := Lib.hid hap
    have hmn : S[n].nodes.length ≤ 8 := (HZ9.out.2 _ (List.getElem_mem hnS)).2
    clear hap hjn hjk
    go_cut [14] from 141 to 170 (fun s14 wx => ∃ mt : Bool, s14 = .bool mt ∧ Hid (mt = true → S[n].start < S[k].start + J.long ∧ S[k].start < S[n].start + O.long) ∧ Hid (Ext Wo wx))
    case first =>
      cases q1 : decide (S[n].start < S[k].start + J.long)
      · (refine wp_region_x 31 (by kernel_rfl) (by kernel_rfl) (by kernel_rfl) ?_; (iterate 31 (apply XReg.step; (case h => (intro w' hw'; obtain ⟨X', rfl⟩ := hw'; go_wp2_with (fail); exact ⟨rfl, xt⟩)); (case hv => kernel_rfl))); refine XReg.doneN (fun X => ?_))
        go_wp2_with fail
        go_meet
        exact ⟨false, rfl, Lib.hid (fun h => by cases h), Lib.hid xt⟩
      · have HQ1 := Lib.hid (of_decide_eq_true q1)
        cases q2 : decide (S[k].start < S[n].start + O.long)
        · (refine wp_region_x 31 (by kernel_rfl) (by kernel_rfl) (by kernel_rfl) ?_; (iterate 31 (apply XReg.step; (case h => (intro w' hw'; obtain ⟨X', rfl⟩ := hw'; go_wp2_with (fail); exact ⟨rfl, xt⟩)); (case hv => kernel_rfl))); refine XReg.doneN (fun X => ?_))
          go_wp2_with fail
          go_meet
          exact ⟨false, rfl, Lib.hid (fun h => by cases h), Lib.hid xt⟩
        · have HQ2 := Lib.hid (of_decide_eq_true q2)
          (refine wp_region_x 31 (by kernel_rfl) (by kernel_rfl) (by kernel_rfl) ?_; (iterate 31 (apply XReg.step; (case h => (intro w' hw'; obtain ⟨X', rfl⟩ := hw'; go_wp2_with (fail); exact ⟨rfl, xt⟩)); (case hv => kernel_rfl))); refine XReg.doneN (fun X => ?_))
          go_wp2_with fail
          go_meet
          exact ⟨true, rfl, Lib.hid (fun _ => ⟨HQ1.out, HQ2.out⟩), Lib.hid xt⟩
    case rest =>
      obtain ⟨mt, rfl, HMT, HEz⟩ := hcut
      generalize hwz : wc = wz at HEz ⊢
      have HEW := Lib.hid (HEo.out.trans HEz.out)
      have HNz := Lib.hid (HNo.out.ext rInt_stable HEz.out)
      have HMz := Lib.hid (HMo.out.ext rInt_stable HEz.out)
      have z4 := HEz.out.cell t4
      have z5 := HEz.out.cell k4
      have zo : wz.old bL := World.old_of_cell z4
      clear hwz t0 t1 t2 t3 t4 k3 k4 ko jl jlo o4 oo hO1 hO2 hJ1 hJ2 HSo HNo HMo HBO HEz
      go_wp2
      go_loopw [15] (fun i wr5 => ∃ a : Nat, a ≤ S[k].nodes.length ∧ i = (.int .i64 (a : Int)) ∧ Hid (Ext wz wr5)) (fun i _ => S[k].nodes.length - (intOf i).toNat)
      case atStart => exact ⟨0, Nat.zero_le _, rfl, Lib.hid (Ext.refl _)⟩
      case round =>
        obtain ⟨a, hal, rfl, HG5⟩ := hrel
        obtain ⟨X5, rfl⟩ := HG5.out
        by_cases hak : a < S[k].nodes.length
        case neg =>
          have hab : decide ((a : Int) < (S[k].nodes.length : Int)) = false := decide_eq_false (by omega)
          go_wp2
          exact ⟨⟨n + 1, by omega, by go_num, Lib.hid (HEW.out.trans xt)⟩, by simp [intOf]; omega⟩
        have hab : decide ((a : Int) < (S[k].nodes.length : Int)) = true := decide_eq_true (by omega)
        cases mt
        case false =>
          go_wp2
          exact ⟨⟨n + 1, by omega, by go_num, Lib.hid (HEW.out.trans xt)⟩, by simp [intOf]; omega⟩
        have haw : wrap64 ((a : Int) + 1) = (a : Int) + 1 := by unfold wrap64; omega
        obtain ⟨bA, oA, rfl⟩ := slr_some HNz.out hak
        obtain ⟨ao, -, a0⟩ := int_at HNz.out hak
        have HNI := Lib.hid (HAP.out (HMT.out rfl).1 (HMT.out rfl).2 _ (List.getElem_mem hak))
        go_wp2_with fail
        go_loopw [16] (fun i wr6 => ∃ b : Nat, b ≤ S[n].nodes.length ∧ i = (.int .i64 (b : Int)) ∧ Hid (Ext wz wr6)) (fun i _ => S[n].nodes.length - (intOf i).toNat)
        case atStart => exact ⟨0, Nat.zero_le _, rfl, Lib.hid xt⟩
        case round =>
          obtain ⟨b, hbl, rfl, HG6⟩ := hrel
          obtain ⟨X6, rfl⟩ := HG6.out
          by_cases hbn : b < S[n].nodes.length
          case neg =>
            have hbb : decide ((b : Int) < (S[n].nodes.length : Int)) = false := decide_eq_false (by omega)
            go_wp2
            exact ⟨⟨a + 1, by omega, by go_num, Lib.hid xt⟩, by simp [intOf]; omega⟩
          have hbb : decide ((b : Int) < (S[n].nodes.length : Int)) = true := decide_eq_true (by omega)
          have hbw : wrap64 ((b : Int) + 1) = (b : Int) + 1 := by unfold wrap64; omega
          obtain ⟨bB, oB, rfl⟩ := slr_some HMz.out hbn
          obtain ⟨bo, -, b0⟩ := int_at HMz.out hbn
          have hne2 : (S[k].nodes[a] == S[n].nodes[b]) = false := by
            rw [beq_eq_false_iff_ne]
            intro h
            exact HNI.out (by rw [h]; exact List.getElem_mem hbn)
          go_upto_region 37 with fail
          (refine wp_region_x 17 (by kernel_rfl) (by kernel_rfl) (by kernel_rfl) ?_; (iterate 17 (apply XReg.step; (case h => (intro w' hw'; obtain ⟨X', rfl⟩ := hw'; go_wp2_with (fail); exact ⟨rfl, xt⟩)); (case hv => kernel_rfl))); refine XReg.doneN (fun X => ?_))
          go_wp2
          exact ⟨⟨b + 1, by omega, by go_num, Lib.hid xt⟩, by simp [intOf]; omega⟩
end Go.Proofs.YtkhmdhdaldbbhaaGreat
