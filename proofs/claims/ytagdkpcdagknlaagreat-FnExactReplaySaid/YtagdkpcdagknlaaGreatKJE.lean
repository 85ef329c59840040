/- The walks of indexOf, copyJob and of what the reference has in their place. -/
import Derived.Test.YtagdkpcdagknlaaGreatKQJ
import Derived.Test.YtagdkpcdagknlaaGreatKEE
set_option maxRecDepth 100000
set_option linter.unusedVariables false
namespace Go.Proofs.YtagdkpcdagknlaaGreat
open Go.RowKit Go.Fin1

/-- Is this the job with that label and number? -/
def isJb (x : Lab) (id : Int) (j : Jb) : Bool := sameL j.l x && decide (j.id = id)
/-- Where it lies, -1 for nowhere. -/
abbrev posJ (l : List Jb) (x : Lab) (id : Int) : Int := findI (isJb x id) l

set_option maxHeartbeats 800000 in
theorem indexFuncJb_any (fn : Nat) (cap : Array Value) (p : Jb → Bool) (v : Value) (l : List Jb) (w : World) (h : SlR w 9 rJob v l)
    (hcf : ∀ args w, (callFunc fn args).run Tryz.prog w = .ok (.enter fn args) w) (Hf : ∀ W u x, Ext w W → eJob W u x → Calls Tryz.prog fn (#[u] ++ cap) W fun e w' => e = .returned (.bool (p x)) ∧ Ext W w') :
    Calls Tryz.prog 145 #[v, .func (.func fn) #[] cap] w fun e w' =>
      e = .returned ((.int .i64 (findI p l))) ∧ Ext w w' := by
  obtain ⟨a, cap', rfl⟩ := h.len
  obtain ⟨_, hlc, hcm⟩ := slr_len h
  have hlm : l.length ≤ 9223372036854775807 := by unfold maxLen at hcm; omega
  clear hcm hlc
  have HS := Lib.hid h
  have HF := Lib.hid Hf
  clear h Hf
  go_enter Tryz.func145, Tryz.ntmps145
  go_wp2
  go_loopw [8, 5] (fun i _ wr => ∃ k : Nat, k ≤ l.length ∧ i = .int .i64 k ∧ Ext w wr ∧ Hid (∀ j (hj : j < l.length), j < k → p l[j] = false)) (fun i _ _ => l.length - (intOf i).toNat)
  case atStart =>
    exact ⟨0, Nat.zero_le _, rfl, Ext.refl _, Lib.hid (fun j _ h => absurd h (Nat.not_lt_zero _))⟩
  case round =>
    obtain ⟨k, hk, rfl, ⟨X, rfl⟩, HH⟩ := hrel
    by_cases hlt : k < l.length
    · obtain ⟨b, off, rfl⟩ := slr_some HS.out hlt
      obtain ⟨ho, an, cn, hok, hsn, c0, c1, c2, c3, c4, c5, c6, c7, c8⟩ := job_at HS.out hlt
      have HV : Hid (eJob w (l[k].val (.slice an l[k].nodes.length cn)) l[k]) := Lib.hid ⟨an, cn, rfl, hok, hsn⟩
      clear hsn
      have HRV : Hid (eJob (w.plus X) (l[k].val (.slice an l[k].nodes.length cn)) l[k]) := Lib.hid (HV.out.ext trivial ((Ext.refl w).plus X))
      clear HV
      go_wp2_with fail
      refine (HF.out _ _ l[k] (Ext.refl w |>.plus X) HRV.out).mono ?_
      rintro e _ ⟨rfl, Y, rfl⟩
      cases hp : p l[k]
      · go_wp2
        exact ⟨⟨k + 1, by omega, by go_num, xt, Lib.hid (fun j hj hjk => by
          by_cases e : j < k
          · exact HH.out j hj e
          · obtain rfl : j = k := by omega
            exact hp)⟩, by simp [intOf]; omega⟩
      · go_wp2
        go_ret
        exact ⟨ret_int (findI_at hlt HH.out hp).symm, xt⟩
    · go_wp2
      go_ret
      exact ⟨ret_int (findI_none (fun j hj => HH.out j hj (by omega))).symm, xt⟩

set_option maxHeartbeats 800000 in
theorem indexOf1_any (u : Value) (j : Jb) (x : Lab) (id : Int) (b c : Nat) (w : World) (hj : eJob w u j) (h0 : w.cell? ⟨b, 0, none⟩ = some (.int .i64 x.lv)) (h1 : w.cell? ⟨b, 1, none⟩ = some (.int .i64 x.st)) (h2 : w.cell? ⟨c, 0, none⟩ = some (.int .i64 id)) :
    Calls Tryz.prog 146 #[u, .pointer (some ⟨b, 0, none⟩), .pointer (some ⟨c, 0, none⟩)] w fun e w' => e = .returned (.bool (isJb x id j)) ∧ Ext w w' := by
  obtain ⟨a, cp, rfl, hok, hs⟩ := hj
  have ho := World.old_of_cell h0
  have ho2 := World.old_of_cell h2
  clear hs
  unfold isJb
  cases hL : sameL ⟨j.l.lv, j.l.st⟩ ⟨x.lv, x.st⟩
  · go_enter Tryz.func146, Tryz.ntmps146
    unfold Jb.val
    go_wp2
    go_ret
    exact ⟨ret_bool (by rfl), xt⟩
  · cases hI : (j.id == id)
    all_goals go_enter Tryz.func146, Tryz.ntmps146
    all_goals unfold Jb.val
    all_goals go_wp2
    all_goals go_ret
    · exact ⟨ret_bool (by rw [decide_eq_false (by simpa using hI)]; rfl), xt⟩
    · exact ⟨ret_bool (by rw [decide_eq_true (by simpa using hI)]; rfl), xt⟩

set_option maxHeartbeats 800000 in
theorem indexOf_any (v : Value) (l : List Jb) (x : Lab) (id : Int) (w : World) (h : SlR w 9 rJob v l) :
    Calls Tryz.prog 86 #[v, .agg #[(.int .i64 x.lv), (.int .i64 x.st)], (.int .i64 id)] w fun e w' => e = .returned (.int .i64 (posJ l x id)) ∧ Ext w w' := by
  have HS := Lib.hid h
  clear h
  have hh := hmf
  go_enter Tryz.func86, Tryz.ntmps86
  go_wp2_with fail
  refine (indexFuncJb_any _ _ (isJb x id) v l _ (HS.out.ext rJob_stable xt) (fun _ _ => rfl) ?_).mono ?_
  · rintro W u j ⟨X, rfl⟩ hj
    exact indexOf1_any u j x id _ _ _ hj (by simp [go_sem]) (by simp [go_sem]) (by simp [go_sem])
  · rintro e _ ⟨rfl, X, rfl⟩
    go_wp2
    go_ret
    exact ⟨rfl, xt⟩

set_option maxHeartbeats 1600000 in
theorem l04At_any (v : Value) (l : List Jb) (x : Lab) (id : Int) (w : World) (h : SlR w 9 rJob v l) :
    Calls Tryz.prog 70 #[v, .agg #[(.int .i64 x.lv), (.int .i64 x.st)], (.int .i64 id)] w fun e w' => e = .returned (.int .i64 (posJ l x id)) ∧ Ext w w' := by
  obtain ⟨a, cap, rfl⟩ := h.len
  obtain ⟨_, hlc, hcm⟩ := slr_len h
  have hlm : l.length ≤ 9223372036854775807 := by unfold maxLen at hcm; omega
  clear hcm hlc
  have HS := Lib.hid h
  clear h
  go_enter Tryz.func70, Tryz.ntmps70
  go_wp2
  go_loopw [7] (fun i wr => ∃ k : Nat, k ≤ l.length ∧ i = .int .i64 k ∧ Ext (w.alloc (.cells #[(.int .i64 x.lv), (.int .i64 x.st)] 32)) wr ∧ Hid (∀ (j : Nat) (hj : j < l.length), j < k → isJb x id l[j] = false)) (fun i _ => l.length - (intOf i).toNat)
  case atStart => exact ⟨0, Nat.zero_le _, rfl, xt, Lib.hid (fun j _ h => absurd h (Nat.not_lt_zero _))⟩
  case round =>
    obtain ⟨k, hk, rfl, ⟨X, rfl⟩, HH⟩ := hrel
    by_cases hlt : k < l.length
    · obtain ⟨b, off, rfl⟩ := slr_some HS.out hlt
      obtain ⟨ho, an, cn, hok, hsn, c0, c1, c2, c3, c4, c5, c6, c7, c8⟩ := job_at HS.out hlt
      have HV : Hid (eJob w (l[k].val (.slice an l[k].nodes.length cn)) l[k]) := Lib.hid ⟨an, cn, rfl, hok, hsn⟩
      clear hsn
      go_upto_region 4 with fail
      cases hL : sameL ⟨l[k].l.lv, l[k].l.st⟩ ⟨x.lv, x.st⟩
      · have hN : isJb x id l[k] = false := by unfold isJb; rw [show sameL l[k].l x = false from hL]; rfl
        (refine wp_region_x 16 (by kernel_rfl) (by kernel_rfl) (by kernel_rfl) ?_; (iterate 16 (apply XReg.step; (case h => (intro w' hw'; obtain ⟨X', rfl⟩ := hw'; go_wp2_with (fail); exact ⟨rfl, xt⟩)); (case hv => kernel_rfl))); refine XReg.doneN (fun X => ?_))
        go_wp2
        exact ⟨⟨k + 1, by omega, by go_num, xt, Lib.hid (fun j hj hjk => by
          by_cases e : j < k
          · exact HH.out j hj e
          · obtain rfl : j = k := by omega
            exact hN)⟩, by simp [intOf]; omega⟩
      cases hI : (l[k].id == id)
      · have hN : isJb x id l[k] = false := by unfold isJb; rw [show sameL l[k].l x = true from hL, decide_eq_false (by simpa using hI)]; rfl
        (refine wp_region_x 16 (by kernel_rfl) (by kernel_rfl) (by kernel_rfl) ?_; (iterate 16 (apply XReg.step; (case h => (intro w' hw'; obtain ⟨X', rfl⟩ := hw'; go_wp2_with (fail); exact ⟨rfl, xt⟩)); (case hv => kernel_rfl))); refine XReg.doneN (fun X => ?_))
        go_wp2
        exact ⟨⟨k + 1, by omega, by go_num, xt, Lib.hid (fun j hj hjk => by
          by_cases e : j < k
          · exact HH.out j hj e
          · obtain rfl : j = k := by omega
            exact hN)⟩, by simp [intOf]; omega⟩
      · have hY : isJb x id l[k] = true := by unfold isJb; rw [show sameL l[k].l x = true from hL, decide_eq_true (by simpa using hI)]; rfl
        have HF := Lib.hid (findI_at hlt HH.out hY)
        clear hY
        (refine wp_region_x 16 (by kernel_rfl) (by kernel_rfl) (by kernel_rfl) ?_; (iterate 16 (apply XReg.step; (case h => (intro w' hw'; obtain ⟨X', rfl⟩ := hw'; go_wp2_with (fail); exact ⟨rfl, xt⟩)); (case hv => kernel_rfl))); refine XReg.doneN (fun X => ?_))
        go_wp2
        go_ret
        exact ⟨ret_int HF.out.symm, xt⟩
    · go_wp2
      go_ret
      exact ⟨ret_int (findI_none (fun j hj => HH.out j hj (by omega))).symm, xt⟩

theorem rInt_rc {w : World} {v : Value} {l : List Int} (h : SlR w 1 rInt v l) : SlR w 1 (rc intCell) v l := slr_with h fun _ _ _ hr => hr.1

set_option maxHeartbeats 800000 in
theorem copyJob_any (j : Jb) (nv : Value) (w : World) (h : SlR w 1 rInt nv j.nodes) (hl : j.nodes.length ≤ 1048576) :
    Calls Tryz.prog 102 #[j.val nv] w fun e w' => ∃ v' fp, e = .returned (j.val v') ∧ Ext w w' ∧ Own w.heap.size w' oIntS fp [v'] j.nodes := by
  obtain ⟨⟨lv, st⟩, id, need, long, prio, state, start, nodes⟩ := j
  obtain ⟨a, cp, rfl⟩ := h.len
  have HS := Lib.hid h
  clear h
  unfold Jb.val
  simp only at hl HS ⊢
  go_enter Tryz.func102, Tryz.ntmps102
  go_wp2_with fail
  refine (cloneInt_any _ nodes _ (rInt_rc (HS.out.ext rInt_stable xt)) hl).mono ?_
  rintro e _ ⟨v', rfl, ⟨Y, rfl⟩, hR⟩
  obtain ⟨fp, hO⟩ := Row.own (f := intCell) (K := 1) (fun _ => rfl) hR
  obtain ⟨a', c', rfl⟩ := hO.shape
  have HO := Lib.hid hO
  clear hO hR
  go_wp2
  exact bodyPost_ret (v := .agg #[(.int .i64 lv), (.int .i64 st), (.int .i64 id), (.int .i64 need), (.int .i64 long), (.int .i64 prio), (.int .i64 state), (.int .i64 start), .slice a' nodes.length c']) (by simp [results, Tryz.results102, go_sem]) rfl ⟨_, _, rfl, xt, (HO.out.swap oIntS_local (Nat.le_refl _) (by simp)).mono (by simp; omega)⟩

set_option maxHeartbeats 800000 in
theorem l04Copy_any (j : Jb) (nv : Value) (w : World) (h : SlR w 1 rInt nv j.nodes) (hl : j.nodes.length ≤ 1048576) :
    Calls Tryz.prog 72 #[j.val nv] w fun e w' => ∃ v' fp, e = .returned (j.val v') ∧ Ext w w' ∧ Own w.heap.size w' oIntS fp [v'] j.nodes := by
  obtain ⟨⟨lv, st⟩, id, need, long, prio, state, start, nodes⟩ := j
  obtain ⟨a, cp, rfl⟩ := h.len
  have HS := Lib.hid h
  have hi := Lib.hid (slr_ints h)
  clear h
  unfold Jb.val
  simp only at hl HS hi ⊢
  go_enter Tryz.func72, Tryz.ntmps72
  go_wp2_with (at_builtin; go_must (refine Row.appV (f := intCell) el_Int rfl _ _ rfl ((w.alloc (.cells #[(.int .i64 lv), (.int .i64 st), (.int .i64 id), (.int .i64 need), (.int .i64 long), (.int .i64 prio), (.int .i64 state), (.int .i64 start), .slice a nodes.length cp] 37)).alloc (.cells #[(.int .i64 0), (.int .i64 0), (.int .i64 0), (.int .i64 0), (.int .i64 0), (.int .i64 0), (.int .i64 0), (.int .i64 0), .slice none 0 0] 37)) xt _ [] rfl ?_ _ nodes rfl (fun _ => rfl) (rInt_rc (HS.out.ext rInt_stable xt)) ?_ ?_ ?_ ?_); (exact Row.madeA _ _ _ _ _ _); (intro x u hu; simp [intCell] at hu; subst hu; rfl); (unfold maxLen; simp; omega); (simp; omega); intro v' X' hown'; rw [List.nil_append] at hown'; obtain ⟨fp, hO⟩ := Row.own (f := intCell) (K := 1) (fun _ => rfl) hown'; obtain ⟨a', c', hv⟩ := hO.shape; subst hv; have HO := Lib.hid hO; clear hO hown')
  exact bodyPost_ret (v := .agg #[(.int .i64 lv), (.int .i64 st), (.int .i64 id), (.int .i64 need), (.int .i64 long), (.int .i64 prio), (.int .i64 state), (.int .i64 start), .slice a' nodes.length c']) (by simp [results, Tryz.results72, go_sem]) rfl ⟨_, _, rfl, xt, (HO.out.swap oIntS_local (by simp) (by simp)).mono (by simp; omega)⟩
end Go.Proofs.YtagdkpcdagknlaaGreat

set_option maxRecDepth 100000
set_option linter.unusedVariables false
namespace Go.Proofs.YtagdkpcdagknlaaGreat
open Go.RowKit Go.Fin1

theorem findI_cases {α : Type} (p : α → Bool) (l : List α) : findI p l = -1 ∨ ∃ (k : Nat) (h : k < l.length), findI p l = k ∧ p l[k] = true := by
  unfold findI
  cases h : l.any p
  · exact .inl rfl
  · obtain ⟨x, hx, hp⟩ := List.any_eq_true.1 h
    have hlt : l.findIdx p < l.length := List.findIdx_lt_length.2 ⟨x, hx, hp⟩
    exact .inr ⟨l.findIdx p, hlt, rfl, List.findIdx_getElem⟩

end Go.Proofs.YtagdkpcdagknlaaGreat

set_option maxRecDepth 100000
set_option linter.unusedVariables false
namespace Go.Proofs.YtagdkpcdagknlaaGreat
open Go.RowKit Go.Fin1

def mkJb (k : Nat) (j : Jb) : Jb := ⟨⟨k, ((k + 1 : Nat) : Int)⟩, ((k + 2 : Nat) : Int), ((k + 3 : Nat) : Int), ((k + 4 : Nat) : Int), ((k + 5 : Nat) : Int), ((k + 6 : Nat) : Int), ((k + 7 : Nat) : Int), mkInts (k + 8) j.nodes⟩
def wJb (j : Jb) : Nat := 8 + wL (fun _ : Int => 1) j.nodes
abbrev mkJbs : Nat → List Jb → List Jb := mkL mkJb wJb
theorem wJb_le {l : List Jb} (h : szL Jb.sz l ≤ 1048576) : wL wJb l ≤ 16 * 1048576 := by
  have key : ∀ l : List Jb, wL wJb l = 8 * l.length + (l.map Jb.sz).sum := fun l => by
    induction l with
    | nil => rfl
    | cons x l ih =>
      rw [wL_cons, ih, List.map_cons, List.sum_cons, List.length_cons]
      unfold wJb Jb.sz
      rw [wL_const]; omega
  unfold szL at h
  rw [key]; omega

set_option maxHeartbeats 1600000 in
theorem markJobS_any (v : Value) (l : List Jb) (k0 : Nat) (fp : List Nat) (w : World) (h : oSl 37 9 oJob w fp [v] l) (hn : fp.Nodup) (hb : k0 + wL wJb l ≤ 4611686018427387904) :
    Calls Tryz.prog 121 #[v, (.int .i64 (k0 : Int))] w fun e w' => e = .returned (.int .i64 ((k0 + wL wJb l : Nat) : Int)) ∧ Chg fp w w' ∧ oSl 37 9 oJob w' fp [v] (mkJbs k0 l) := by
  obtain ⟨a, cap, rfl, hcm, hlc⟩ := oSl_shape h
  have hlm : l.length ≤ 9223372036854775807 := by unfold maxLen at hcm; omega
  clear hcm hlc
  have HN := Lib.hid hn
  have HS := Lib.hid h
  clear h hn
  go_enter Tryz.func121, Tryz.ntmps121
  go_wp2
  go_loopw [1, 5] (fun q i wr => ∃ n : Nat, n ≤ l.length ∧ i = .int .i64 n ∧ q = (.int .i64 ((k0 + wL wJb (l.take n) : Nat) : Int)) ∧ Chg fp w wr ∧ Hid (oSl 37 9 oJob wr fp [.slice a l.length cap] (mkN mkJb wJb k0 l n))) (fun _ i _ => l.length - (intOf i).toNat)
  case atStart => exact ⟨0, Nat.zero_le _, rfl, rfl, Chg.refl _ _, Lib.hid (by rw [mkN_zero]; exact HS.out)⟩
  case round =>
    obtain ⟨n, hle, rfl, rfl, HC, HO⟩ := hrel
    by_cases hlt : n < l.length
    · have hlt' : n < (mkN mkJb wJb k0 l n).length := by rw [mkN_len]; exact hlt
      obtain ⟨g, cap', hv⟩ := oSl_slice HO.out hlt'
      obtain ⟨rfl, hx1, rfl⟩ : a = some ⟨g, 0, none⟩ ∧ l.length = (mkN mkJb wJb k0 l n).length ∧ cap = cap' := by simpa using hv
      clear hv hx1
      obtain ⟨fi, cs, hog, hfz, hcl, hc, hoe, hnd, hgf, hsub, hg, HU⟩ := oSl_at3 oJob_local oJob_held HO.out HN.out hlt'
      rw [mkN_at mkJb wJb k0 hlt] at hoe
      obtain ⟨ve, rfl, hoi⟩ := hoe
      obtain ⟨ae, ce, rfl, _, _⟩ := oSl_shape hoi
      have d0 := hc 0 _ rfl
      have d1 := hc 1 _ rfl
      have d2 := hc 2 _ rfl
      have d3 := hc 3 _ rfl
      have d4 := hc 4 _ rfl
      have d5 := hc 5 _ rfl
      have d6 := hc 6 _ rfl
      have d7 := hc 7 _ rfl
      have d8 := hc 8 _ rfl
      rw [Nat.add_zero] at d0
      have HU2 := Lib.hid HU
      have HE := Lib.hid hoi
      have hw := wL_lt wJb hlt
      have hw2 := Lib.hid (wL_step wJb hlt)
      have HSET := Lib.hid (mkN_set mkJb wJb k0 hlt)
      clear HU hc hoi hcl
      have hw3 : wL wJb (l.take n) + (8 + wL (fun _ : Int => 1) l[n].nodes) ≤ wL wJb l := hw
      generalize hs : wL wJb (l.take n) = s at hw hw2 hw3 HSET ⊢
      clear hs
      go_wp2_with fail
      have hz : ((k0 : Int) + s + 1 + 1 + 1 + 1 + 1 + 1 + 1 + 1) = ((k0 + s + 8 : Nat) : Int) := by omega
      rw [hz]
      clear hz
      generalize hW8 : ((((((((wr.setCell ⟨g, n * 9, none⟩ (.int .i64 ((k0 : Int) + s))).setCell ⟨g, n * 9 + 1, none⟩ (.int .i64 ((k0 : Int) + s + 1))).setCell ⟨g, n * 9 + 2, none⟩ (.int .i64 ((k0 : Int) + s + 1 + 1))).setCell ⟨g, n * 9 + 3, none⟩ (.int .i64 ((k0 : Int) + s + 1 + 1 + 1))).setCell ⟨g, n * 9 + 4, none⟩ (.int .i64 ((k0 : Int) + s + 1 + 1 + 1 + 1))).setCell ⟨g, n * 9 + 5, none⟩ (.int .i64 ((k0 : Int) + s + 1 + 1 + 1 + 1 + 1))).setCell ⟨g, n * 9 + 6, none⟩ (.int .i64 ((k0 : Int) + s + 1 + 1 + 1 + 1 + 1 + 1))).setCell ⟨g, n * 9 + 7, none⟩ (.int .i64 ((k0 : Int) + s + 1 + 1 + 1 + 1 + 1 + 1 + 1))) = W8
      have hLay : W8 = wr.layCells g (n * 9) [(.int .i64 ((k0 : Int) + s)), (.int .i64 ((k0 : Int) + s + 1)), (.int .i64 ((k0 : Int) + s + 1 + 1)), (.int .i64 ((k0 : Int) + s + 1 + 1 + 1)), (.int .i64 ((k0 : Int) + s + 1 + 1 + 1 + 1)), (.int .i64 ((k0 : Int) + s + 1 + 1 + 1 + 1 + 1)), (.int .i64 ((k0 : Int) + s + 1 + 1 + 1 + 1 + 1 + 1)), (.int .i64 ((k0 : Int) + s + 1 + 1 + 1 + 1 + 1 + 1 + 1))] := hW8.symm
      clear hW8
      have hC8 : Chg [g] wr W8 := by rw [hLay]; exact layCells_chg _ _ _ _
      have HL8 := Lib.hid hLay
      have HC8 := Lib.hid hC8
      clear hLay hC8
      refine (markInt64S_any _ l[n].nodes (k0 + s + 8) fi W8 (oIntS_local.chg oIntS_held HC8.out (fun b hb hbg => by simp at hbg; subst hbg; exact hgf hb) HE.out) hnd (by omega)).mono ?_
      rintro e w2 ⟨rfl, hx, ho2⟩
      have HX := Lib.hid hx
      have HO2 := Lib.hid ho2
      clear hx ho2
      go_wp2
      have hsub8 : Chg fp wr W8 := HC8.out.mono (fun b hb => by simp at hb; subst hb; exact hg)
      refine ⟨⟨n + 1, by omega, by go_num, (by rw [hw2.out]; show Value.int _ _ = Value.int _ _; congr 1; unfold wJb; omega), HC.trans (hsub8.trans (HX.out.mono hsub)), Lib.hid (by
        rw [← HSET.out]
        refine HU2.out w2 [(.int .i64 ((k0 : Int) + s)), (.int .i64 ((k0 : Int) + s + 1)), (.int .i64 ((k0 : Int) + s + 1 + 1)), (.int .i64 ((k0 : Int) + s + 1 + 1 + 1)), (.int .i64 ((k0 : Int) + s + 1 + 1 + 1 + 1)), (.int .i64 ((k0 : Int) + s + 1 + 1 + 1 + 1 + 1)), (.int .i64 ((k0 : Int) + s + 1 + 1 + 1 + 1 + 1 + 1)), (.int .i64 ((k0 : Int) + s + 1 + 1 + 1 + 1 + 1 + 1 + 1))] _ (by show 8 ≤ 9; decide) ?_ ?_ ?_
        · rw [← HL8.out]
          exact HX.out.block g (Nat.lt_of_lt_of_le hog HC8.out.size) hgf
        · exact (HC8.out.mono (fun b hb => by simp at hb; simp [hb])).trans (HX.out.mono fun b hb => List.mem_cons_of_mem _ hb)
        · refine ⟨_, ?_, HO2.out⟩
          simp [Jb.cells, mkJb]
          omega)⟩, by simp [intOf]; omega⟩
    · go_wp2
      obtain rfl : n = l.length := by omega
      have hO := HO.out
      rw [mkN_all] at hO
      go_ret
      exact ⟨ret_int (by rw [List.take_length]), HC, hO⟩

end Go.Proofs.YtagdkpcdagknlaaGreat

set_option maxRecDepth 100000
set_option linter.unusedVariables false
namespace Go
open Go.RowKit
/-- The first cells of block b. -/
def CellsAt (w : World) (b : Nat) (cs : List Value) : Prop := ∀ i u, cs[i]? = some u → w.cell? ⟨b, i, none⟩ = some u
theorem CellsAt.ext {w w' : World} {b : Nat} {cs : List Value} (h : CellsAt w b cs) (hx : Ext w w') : CellsAt w' b cs := fun i u hu => hx.cell (h i u hu)
theorem CellsAt.chg {S : List Nat} {w w' : World} {b : Nat} {cs : List Value} (h : CellsAt w b cs) (hx : Chg S w w') (hb : b ∉ S) : CellsAt w' b cs := fun i u hu => by
  have := h i u hu
  have hlt := World.block_lt_of_cell? w _ this
  simp only [World.cell?, hx.block b hlt hb] at this ⊢
  exact this
theorem CellsAt.of_heap {w : World} {b : Nat} {cs : List Value} {ty : TypeId} (h : w.heap[b]? = some (.cells cs.toArray ty (0, 0))) : CellsAt w b cs := fun i u hu => by
  rw [cell_of_heap h]; simpa using hu
/-- A world under a name of its own. -/
theorem gen_world {P : Program} {c : Code} {Q : Exit → Act → World → Prop} {a : Act} {W0 : World} (h : ∀ W, W = W0 → c.wp P Q a W) : c.wp P Q a W0 := h W0 rfl
theorem CellsAt.lay {w : World} {b : Nat} {cs0 cs : List Value} {ty : TypeId} (h : w.heap[b]? = some (.cells cs0.toArray ty (0, 0))) (hs : spl cs0.toArray 0 cs = cs.toArray) : CellsAt (w.layCells b 0 cs) b cs :=
  CellsAt.of_heap (ty := ty) (by rw [layCells_heap cs 0 h, hs])
end Go
namespace Go.Proofs.YtagdkpcdagknlaaGreat
open Go.RowKit Go.Fin1
end Go.Proofs.YtagdkpcdagknlaaGreat
