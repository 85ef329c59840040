/- Letters: how one reads as plain words; the laws' own helpers over lists of letters. -/
import Derived.Test.YtocadhcggkbimaaJ4
import Derived.Test.YtocadhcggkbimaaE3
import Derived.Test.YtocadhcggkbimaaE5
set_option maxRecDepth 100000
set_option linter.unusedVariables false
namespace Go.Proofs.Ytocadhcggkbimaa
open Go.ChangeShapes Go.WideShapes Go.ChangeAt Go.RowKit Go.Fin1

/-- A letter: two labels and two whole numbers. -/
structure Ltr where
  a : Lab
  b : Lab
  p : Int
  q : Int
def Ltr.ok (x : Ltr) : Prop := x.a.ok ∧ x.b.ok ∧ I64 x.p ∧ I64 x.q
def Ltr.cells (x : Ltr) : List Value := [(.int .i64 x.a.lv), (.int .i64 x.a.st), (.int .i64 x.b.lv), (.int .i64 x.b.st), (.int .i64 x.p), (.int .i64 x.q)]
def Ltr.val (x : Ltr) : Value := .agg #[(.int .i64 x.a.lv), (.int .i64 x.a.st), (.int .i64 x.b.lv), (.int .i64 x.b.st), (.int .i64 x.p), (.int .i64 x.q)]
def rLtr : World → List Value → Ltr → Prop := fun _ cs x => cs = x.cells ∧ x.ok
theorem rLtr_stable : Stable rLtr := fun _ _ _ _ _ h => h
theorem ltr_at {w : World} {b off n cap : Nat} {xs : List Ltr} (h : SlR w 6 rLtr (.slice (some ⟨b, off, none⟩) n cap) xs) {i : Nat} (hi : i < xs.length) :
    w.old b ∧ xs[i].ok ∧ w.cell? ⟨b, off + i * 6, none⟩ = some (.int .i64 xs[i].a.lv) ∧ w.cell? ⟨b, off + i * 6 + 1, none⟩ = some (.int .i64 xs[i].a.st) ∧ w.cell? ⟨b, off + i * 6 + 2, none⟩ = some (.int .i64 xs[i].b.lv) ∧ w.cell? ⟨b, off + i * 6 + 3, none⟩ = some (.int .i64 xs[i].b.st) ∧ w.cell? ⟨b, off + i * 6 + 4, none⟩ = some (.int .i64 xs[i].p) ∧ w.cell? ⟨b, off + i * 6 + 5, none⟩ = some (.int .i64 xs[i].q) := by
  obtain ⟨cs, _, hc, rfl, hok⟩ := slr_cells h hi
  have h0 := hc 0 _ rfl
  exact ⟨World.old_of_cell h0, hok, h0, hc 1 _ rfl, hc 2 _ rfl, hc 3 _ rfl, hc 4 _ rfl, hc 5 _ rfl⟩



theorem info_Letter : (Try.prog.info? 75).map (fun i => (i.zero, i.size, i.bytes)) = some (some (.agg #[(.int .i64 0), (.int .i64 0), (.int .i64 0), (.int .i64 0), (.int .i64 0), (.int .i64 0)]), 6, 48) := by kernel_rfl
theorem el_Letter : ElemInfo Try.prog 23 75 6 48 := by
  obtain ⟨i, hi, hz, hs, hb⟩ := info_parts info_Letter
  exact ⟨Try.underlying23, ⟨i, _, hi, hz, hs, hb, rfl⟩, by decide⟩
/-- The owner of a list of letters. -/
abbrev oLetterS : Ow (List Ltr) := oSl 75 6 (oFlat Ltr.cells)

/-- What it hands back reads as what it was given. -/
theorem oLetterS_r {w : World} {fp : List Nat} {v : Value} {l : List Ltr} (h : oLetterS w fp [v] l) (hok : ∀ x ∈ l, x.ok) : SlR w 6 rLtr v l := by
  obtain ⟨v'', hv, hs⟩ := oSl_reads (r := fun _ cs x => cs = x.cells) (k := 6) (fun _ _ _ _ ⟨_, hc⟩ => ⟨by rw [hc]; rfl, hc⟩) h
  obtain rfl : v = v'' := by simpa using hv
  exact slr_with hs fun cs x hm hc => ⟨hc, hok x hm⟩
theorem slr_ltrs {w : World} {v : Value} {l : List Ltr} (h : SlR w 6 rLtr v l) : ∀ x ∈ l, x.ok := fun x hx => by
  obtain ⟨_, hr⟩ := slr_all h x hx
  exact hr.2

end Go.Proofs.Ytocadhcggkbimaa

set_option maxRecDepth 100000
set_option linter.unusedVariables false
namespace Go.Proofs.Ytocadhcggkbimaa
open Go.ChangeShapes Go.WideShapes Go.ChangeAt Go.RowKit Go.Fin1

@[irreducible] def sameT (x y : Ltr) : Bool := decide (x.a.lv = y.a.lv) && decide (x.a.st = y.a.st) && decide (x.b.lv = y.b.lv) && decide (x.b.st = y.b.st) && decide (x.p = y.p) && decide (x.q = y.q)
theorem sameT_comm (x y : Ltr) : sameT x y = sameT y x := by
  unfold sameT; rw [Bool.eq_iff_iff]; simp only [Bool.and_eq_true, decide_eq_true_eq]; omega
/-- Is the letter in the list? -/
@[irreducible] def hasT (l : List Ltr) (x : Ltr) : Bool := l.any (fun y => sameT y x)
theorem hasT_yes {l : List Ltr} {x : Ltr} {i : Nat} (hi : i < l.length) (h : sameT l[i] x = true) : hasT l x = true := by unfold hasT; exact List.any_eq_true.2 ⟨_, List.getElem_mem hi, h⟩
theorem hasT_no {l : List Ltr} {x : Ltr} (h : ∀ (i : Nat) (hi : i < l.length), sameT l[i] x = false) : hasT l x = false := by
  unfold hasT; rw [List.any_eq_false]
  intro y hy
  obtain ⟨i, hi, rfl⟩ := List.mem_iff_getElem.1 hy
  simp [h i hi]

set_option maxHeartbeats 3200000 in
@[go_sem high] theorem equalIn_ltr (w : World) (a b c d p q a' b' c' d' p' q' : Int) : (Op.equalIn 10000 75 (.agg #[(.int .i64 a), (.int .i64 b), (.int .i64 c), (.int .i64 d), (.int .i64 p), (.int .i64 q)]) (.agg #[(.int .i64 a'), (.int .i64 b'), (.int .i64 c'), (.int .i64 d'), (.int .i64 p'), (.int .i64 q')])).run Try.prog w = .ok (sameT ⟨⟨a, b⟩, ⟨c, d⟩, p, q⟩ ⟨⟨a', b'⟩, ⟨c', d'⟩, p', q'⟩) w := by
  unfold sameT
  by_cases q1 : a = a' <;> by_cases q2 : b = b' <;> by_cases q3 : c = c' <;> by_cases q4 : d = d' <;> by_cases q5 : p = p' <;> by_cases q6 : q = q'
  all_goals simp [go_sem, q1, q2, q3, q4, q5, q6, Try.underlying75, Try.underlying27]

set_option maxHeartbeats 1600000 in
theorem indexLtr_any (v : Value) (l : List Ltr) (x : Ltr) (w : World) (h : SlR w 6 rLtr v l) :
    Calls Try.prog 90 #[v, x.val] w fun e w' => (∃ n : Int, e = .returned (.int .i64 n) ∧ decide (0 ≤ n) = hasT l x) ∧ Ext w w' := by
  obtain ⟨a, cap, rfl⟩ := h.len
  obtain ⟨_, hlc, hcm⟩ := slr_len h
  have hlm : l.length ≤ 9223372036854775807 := by unfold maxLen at hcm; omega
  clear hcm hlc
  have HS := Lib.hid h
  clear h
  unfold Ltr.val
  go_enter Try.func90, Try.ntmps90
  go_wp2
  go_loopw [8, 5] (fun i _ wr => ∃ k : Nat, k ≤ l.length ∧ i = .int .i64 k ∧ Ext (w.alloc (.cells #[(.int .i64 x.a.lv), (.int .i64 x.a.st), (.int .i64 x.b.lv), (.int .i64 x.b.st), (.int .i64 x.p), (.int .i64 x.q)] 75)) wr ∧ Hid (∀ (j : Nat) (hj : j < l.length), j < k → sameT l[j] x = false)) (fun i _ _ => l.length - (intOf i).toNat)
  case atStart => exact ⟨0, Nat.zero_le _, rfl, Ext.refl _, Lib.hid (fun j _ h => absurd h (Nat.not_lt_zero _))⟩
  case round =>
    obtain ⟨k, hk, rfl, ⟨X, rfl⟩, HH⟩ := hrel
    by_cases hlt : k < l.length
    · obtain ⟨b, off, rfl⟩ := slr_some HS.out hlt
      obtain ⟨ho, hok, h0, h1, h2, h3, h4, h5⟩ := ltr_at HS.out hlt
      go_upto_region 4 with fail
      cases q : sameT ⟨⟨x.a.lv, x.a.st⟩, ⟨x.b.lv, x.b.st⟩, x.p, x.q⟩ ⟨⟨l[k].a.lv, l[k].a.st⟩, ⟨l[k].b.lv, l[k].b.st⟩, l[k].p, l[k].q⟩
      · have hN : sameT l[k] x = false := by rw [sameT_comm]; exact q
        (refine wp_region_x 6 (by kernel_rfl) (by kernel_rfl) (by kernel_rfl) ?_; (iterate 6 (apply XReg.step; (case h => (intro w' hw'; obtain ⟨X', rfl⟩ := hw'; go_wp2_with (fail); exact ⟨rfl, (by repeat (first | exact Ext.refl _ | apply Ext.plus | apply Ext.alloc | apply Ext.drew))⟩)); (case hv => kernel_rfl))); refine XReg.doneN (fun X => ?_))
        go_wp2
        exact ⟨⟨k + 1, by omega, by go_num, (by repeat (first | exact Ext.refl _ | apply Ext.plus | apply Ext.alloc | apply Ext.drew)), Lib.hid (fun j hj hjk => by
          by_cases e : j < k
          · exact HH.out j hj e
          · obtain rfl : j = k := by omega
            exact hN)⟩, by simp [intOf]; omega⟩
      · have hY := Lib.hid (hasT_yes (x := x) hlt (by rw [sameT_comm]; exact q))
        (refine wp_region_x 6 (by kernel_rfl) (by kernel_rfl) (by kernel_rfl) ?_; (iterate 6 (apply XReg.step; (case h => (intro w' hw'; obtain ⟨X', rfl⟩ := hw'; go_wp2_with (fail); exact ⟨rfl, (by repeat (first | exact Ext.refl _ | apply Ext.plus | apply Ext.alloc | apply Ext.drew))⟩)); (case hv => kernel_rfl))); refine XReg.doneN (fun X => ?_))
        go_wp2
        go_ret
        exact ⟨⟨k, rfl, by rw [hY.out]; simp⟩, (by repeat (first | exact Ext.refl _ | apply Ext.plus | apply Ext.alloc | apply Ext.drew))⟩
    · have hN := Lib.hid (hasT_no (x := x) (fun j hj => HH.out j hj (by omega)))
      go_wp2
      go_ret
      exact ⟨⟨-1, rfl, by rw [hN.out]; rfl⟩, (by repeat (first | exact Ext.refl _ | apply Ext.plus | apply Ext.alloc | apply Ext.drew))⟩

set_option maxHeartbeats 800000 in
theorem containsLtr_any (v : Value) (l : List Ltr) (x : Ltr) (w : World) (h : SlR w 6 rLtr v l) :
    Calls Try.prog 45 #[v, x.val] w fun e w' => e = .returned (.bool (hasT l x)) ∧ Ext w w' := by
  have HS := Lib.hid h
  clear h
  unfold Ltr.val
  go_enter Try.func45, Try.ntmps45
  go_wp2_with fail
  refine (indexLtr_any v l x _ (HS.out.ext rLtr_stable (by repeat (first | exact Ext.refl _ | apply Ext.plus | apply Ext.alloc | apply Ext.drew)))).mono ?_
  rintro e _ ⟨⟨n, rfl, hn⟩, X, rfl⟩
  cases hq : hasT l x
  · have hb : decide ((0 : Int) ≤ n) = false := by rw [hn, hq]
    go_wp2
    go_ret
    exact ⟨ret_bool hq.symm, (by repeat (first | exact Ext.refl _ | apply Ext.plus | apply Ext.alloc | apply Ext.drew))⟩
  · have hb : decide ((0 : Int) ≤ n) = true := by rw [hn, hq]
    go_wp2
    go_ret
    exact ⟨ret_bool hq.symm, (by repeat (first | exact Ext.refl _ | apply Ext.plus | apply Ext.alloc | apply Ext.drew))⟩
end Go.Proofs.Ytocadhcggkbimaa

set_option maxRecDepth 100000
set_option linter.unusedVariables false
namespace Go.Proofs.Ytocadhcggkbimaa
open Go.ChangeShapes Go.WideShapes Go.ChangeAt Go.RowKit Go.Fin1

/-- A desk. -/
structure Dk where
  pairs : List Ltr
  box : List Ltr
  audit : List Ltr
  used : Int
  now : Int
def Dk.val (d : Dk) (p b a : Value) : Value := .agg #[p, b, a, (.int .i64 d.used), (.int .i64 d.now)]
abbrev rLtrS : World → Value → List Ltr → Prop := fun w v l => SlR w 6 rLtr v l
/-- A value that is a desk. -/
def eDesk (w : World) (v : Value) (d : Dk) : Prop := ∃ a1 c1 a2 c2 a3 c3, v = d.val (.slice a1 d.pairs.length c1) (.slice a2 d.box.length c2) (.slice a3 d.audit.length c3) ∧ I64 d.used ∧ I64 d.now ∧ SlR w 6 rLtr (.slice a1 d.pairs.length c1) d.pairs ∧ SlR w 6 rLtr (.slice a2 d.box.length c2) d.box ∧ SlR w 6 rLtr (.slice a3 d.audit.length c3) d.audit
theorem eDesk.ext {w w' : World} {v : Value} {d : Dk} (h : eDesk w v d) (hx : Ext w w') : eDesk w' v d := by
  obtain ⟨a1, c1, a2, c2, a3, c3, hv, h0, h1, h2, h3, h4⟩ := h
  exact ⟨a1, c1, a2, c2, a3, c3, hv, h0, h1, h2.ext rLtr_stable hx, h3.ext rLtr_stable hx, h4.ext rLtr_stable hx⟩


/-- How much a desk takes of the laws' bound. -/
def Dk.sz (d : Dk) : Nat := d.pairs.length + d.box.length + d.audit.length


theorem oLetterS_local : Local oLetterS := oSl_local (oFlat_local _)
theorem oLetterS_held : Held oLetterS := oSl_held (oFlat_held _)
/-- The owner of a desk's three lists. -/
structure OwnD (B : Nat) (w : World) (f1 f2 f3 : List Nat) (p b a : Value) (d : Dk) : Prop where
  p : Own B w oLetterS f1 [p] d.pairs
  b : Own B w oLetterS f2 [b] d.box
  a : Own B w oLetterS f3 [a] d.audit
  pb : ∀ x ∈ f1, x ∉ f2
  pa : ∀ x ∈ f1, x ∉ f3
  ba : ∀ x ∈ f2, x ∉ f3
theorem OwnD.ext {B : Nat} {w w' : World} {f1 f2 f3 : List Nat} {p b a : Value} {d : Dk} (h : OwnD B w f1 f2 f3 p b a d) (hx : Ext w w') : OwnD B w' f1 f2 f3 p b a d :=
  ⟨h.p.ext oLetterS_local oLetterS_held hx, h.b.ext oLetterS_local oLetterS_held hx, h.a.ext oLetterS_local oLetterS_held hx, h.pb, h.pa, h.ba⟩
/-- What lies apart from the blocks that turned. -/
theorem OwnD.chg {B : Nat} {w w' : World} {S f1 f2 f3 : List Nat} {p b a : Value} {d : Dk} (h : OwnD B w f1 f2 f3 p b a d) (hx : Chg S w w') (hd : ∀ x ∈ S, x < B) : OwnD B w' f1 f2 f3 p b a d :=
  ⟨h.p.chg oLetterS_local oLetterS_held hx hd, h.b.chg oLetterS_local oLetterS_held hx hd, h.a.chg oLetterS_local oLetterS_held hx hd, h.pb, h.pa, h.ba⟩
theorem OwnD.e {B : Nat} {w : World} {f1 f2 f3 : List Nat} {p b a : Value} {d : Dk} (h : OwnD B w f1 f2 f3 p b a d) (h0 : I64 d.used) (h1 : I64 d.now) (hp : ∀ x ∈ d.pairs, x.ok) (hb : ∀ x ∈ d.box, x.ok) (ha : ∀ x ∈ d.audit, x.ok) : eDesk w (d.val p b a) d := by
  obtain ⟨a1, c1, rfl⟩ := h.p.shape
  obtain ⟨a2, c2, rfl⟩ := h.b.shape
  obtain ⟨a3, c3, rfl⟩ := h.a.shape
  exact ⟨a1, c1, a2, c2, a3, c3, rfl, h0, h1, oLetterS_r h.p.1 hp, oLetterS_r h.b.1 hb, oLetterS_r h.a.1 ha⟩


end Go.Proofs.Ytocadhcggkbimaa

set_option maxRecDepth 100000
set_option linter.unusedVariables false
namespace Go.Proofs.Ytocadhcggkbimaa
open Go.RowKit Go.Fin1

def zT : Ltr := ⟨⟨0, 0⟩, ⟨0, 0⟩, 0, 0⟩
/-- The pair of a letter. -/
abbrev chan (a b : Lab) : Ltr := ⟨a, b, 0, 0⟩
/-- Is there a channel with these ends? -/
@[irreducible] def hasP (l : List Ltr) (a b : Lab) : Bool := l.any (fun y => sameL y.a a && sameL y.b b)
theorem hasP_yes {l : List Ltr} {a b : Lab} {i : Nat} (hi : i < l.length) (h : (sameL l[i].a a && sameL l[i].b b) = true) : hasP l a b = true := by unfold hasP; exact List.any_eq_true.2 ⟨_, List.getElem_mem hi, h⟩
theorem hasP_no {l : List Ltr} {a b : Lab} (h : ∀ (i : Nat) (hi : i < l.length), (sameL l[i].a a && sameL l[i].b b) = false) : hasP l a b = false := by
  unfold hasP; rw [List.any_eq_false]
  intro y hy
  obtain ⟨i, hi, rfl⟩ := List.mem_iff_getElem.1 hy
  simp [h i hi]
/-- May the channel stand at place i of the list? -/
def chanAt (l : List Ltr) (i : Nat) : Bool := match l[i]? with
  | some x => labR x.a && labR x.b && decide (x.p = 0) && decide (x.q = 0) && !hasT (l.take i) x
  | none => true
theorem chanAt_eq {l : List Ltr} {i : Nat} (hi : i < l.length) : chanAt l i = (labR l[i].a && labR l[i].b && decide (l[i].p = 0) && decide (l[i].q = 0) && !hasT (l.take i) l[i]) := by
  unfold chanAt; rw [List.getElem?_eq_getElem hi]
@[irreducible] def chansR (l : List Ltr) : Bool := decide (l.length ≤ 4) && (List.range l.length).all (chanAt l)
theorem chansR_no {l : List Ltr} {i : Nat} (hi : i < l.length) (h : chanAt l i = false) : chansR l = false := by
  unfold chansR
  rw [show (List.range l.length).all (chanAt l) = false from by rw [List.all_eq_false]; exact ⟨i, List.mem_range.2 hi, by simp [h]⟩, Bool.and_false]
theorem chansR_long {l : List Ltr} (h : 4 < l.length) : chansR l = false := by unfold chansR; rw [decide_eq_false (by omega)]; rfl
theorem chansR_yes {l : List Ltr} (h : ∀ i, i < l.length → chanAt l i = true) : chansR l = decide (l.length ≤ 4) := by
  unfold chansR
  rw [List.all_eq_true.2 fun i hi => h i (List.mem_range.1 hi), Bool.and_true]
theorem chansR_at {l : List Ltr} (h : chansR l = true) : ∀ x ∈ l, x.p = 0 ∧ x.q = 0 := by
  intro x hx
  obtain ⟨i, hi, rfl⟩ := List.mem_iff_getElem.1 hx
  unfold chansR at h
  rw [Bool.and_eq_true, List.all_eq_true] at h
  have := h.2 i (List.mem_range.2 hi)
  rw [chanAt_eq hi] at this
  simp only [Bool.and_eq_true, decide_eq_true_eq] at this
  exact ⟨this.1.1.2, this.1.2⟩
theorem chansR_len {l : List Ltr} (h : chansR l = true) : l.length ≤ 4 := by
  unfold chansR at h; rw [Bool.and_eq_true, decide_eq_true_eq] at h; exact h.1
theorem sameT_chan {y : Ltr} {a b : Lab} (h : y.p = 0 ∧ y.q = 0) : sameT y ⟨a, b, 0, 0⟩ = (sameL y.a a && sameL y.b b) := by
  unfold sameT sameL; rw [Bool.eq_iff_iff]; simp only [Bool.and_eq_true, decide_eq_true_eq]; omega
theorem hasP_eq {l : List Ltr} (h : chansR l = true) (a b : Lab) : hasP l a b = hasT l ⟨a, b, 0, 0⟩ := by
  unfold hasP hasT
  rw [Bool.eq_iff_iff, List.any_eq_true, List.any_eq_true]
  constructor
  · rintro ⟨y, hy, hs⟩; exact ⟨y, hy, by rw [sameT_chan (chansR_at h y hy)]; exact hs⟩
  · rintro ⟨y, hy, hs⟩; exact ⟨y, hy, by rw [sameT_chan (chansR_at h y hy)] at hs; exact hs⟩
/-- May the letter stand at place i of a list over these channels? -/
def letAt (ps : List Ltr) (now : Int) (l : List Ltr) (i : Nat) : Bool := match l[i]? with
  | some x => hasT ps ⟨x.a, x.b, 0, 0⟩ && isIn x.p 0 now && isIn x.q 0 1000000 && (i == 0 || decide ((l.getD (i - 1) zT).p ≤ x.p))
  | none => true
theorem letAt_eq (ps : List Ltr) (now : Int) {l : List Ltr} {i : Nat} (hi : i < l.length) : letAt ps now l i = (hasT ps ⟨l[i].a, l[i].b, 0, 0⟩ && isIn l[i].p 0 now && isIn l[i].q 0 1000000 && (i == 0 || decide ((l.getD (i - 1) zT).p ≤ l[i].p))) := by
  unfold letAt; rw [List.getElem?_eq_getElem hi]
@[irreducible] def letsR (ps : List Ltr) (now : Int) (l : List Ltr) (most : Int) : Bool := decide ((l.length : Int) ≤ most) && (List.range l.length).all (letAt ps now l)
theorem letsR_no {ps : List Ltr} {now most : Int} {l : List Ltr} {i : Nat} (hi : i < l.length) (h : letAt ps now l i = false) : letsR ps now l most = false := by
  unfold letsR
  rw [show (List.range l.length).all (letAt ps now l) = false from by rw [List.all_eq_false]; exact ⟨i, List.mem_range.2 hi, by simp [h]⟩, Bool.and_false]
theorem letsR_long {ps : List Ltr} {now most : Int} {l : List Ltr} (h : most < l.length) : letsR ps now l most = false := by unfold letsR; rw [decide_eq_false (by omega)]; rfl
theorem letsR_yes {ps : List Ltr} {now most : Int} {l : List Ltr} (h : ∀ i, i < l.length → letAt ps now l i = true) : letsR ps now l most = decide ((l.length : Int) ≤ most) := by
  unfold letsR
  rw [List.all_eq_true.2 fun i hi => h i (List.mem_range.1 hi), Bool.and_true]
theorem letsR_len {ps : List Ltr} {now most : Int} {l : List Ltr} (h : letsR ps now l most = true) : (l.length : Int) ≤ most := by
  unfold letsR at h; rw [Bool.and_eq_true, decide_eq_true_eq] at h; exact h.1
/-- How many letters bear this time? -/
def cntT (l : List Ltr) (now : Int) : Nat := l.countP (fun x => decide (x.p = now))
theorem cntT_le (l : List Ltr) (now : Int) : cntT l now ≤ l.length := List.countP_le_length
theorem cntT_step {l : List Ltr} {now : Int} {k : Nat} (h : k < l.length) : cntT (l.take (k + 1)) now = cntT (l.take k) now + if l[k].p = now then 1 else 0 := by
  unfold cntT; rw [List.take_succ_eq_append_getElem h, List.countP_append]
  by_cases hq : l[k].p = now <;> simp [hq]
@[irreducible] def boxR (d : Dk) : Bool := chansR d.pairs && isIn d.now 0 999900 && letsR d.pairs d.now d.box 6 && letsR d.pairs d.now d.audit 20 && decide (d.used = cntT d.audit d.now) && decide ((cntT d.audit d.now : Int) ≤ 2) && !d.box.any (fun x => !hasT d.audit x)
theorem boxR_no1 {d : Dk} (h : (chansR d.pairs && isIn d.now 0 999900 && letsR d.pairs d.now d.box 6 && letsR d.pairs d.now d.audit 20) = false) : boxR d = false := by unfold boxR; rw [h]; rfl
theorem boxR_eq {d : Dk} (h : (chansR d.pairs && isIn d.now 0 999900 && letsR d.pairs d.now d.box 6 && letsR d.pairs d.now d.audit 20) = true) : boxR d = (decide (d.used = cntT d.audit d.now) && decide ((cntT d.audit d.now : Int) ≤ 2) && !d.box.any (fun x => !hasT d.audit x)) := by unfold boxR; rw [h]; simp [Bool.and_assoc]
theorem boxR_at {d : Dk} (h : boxR d = true) : chansR d.pairs = true ∧ isIn d.now 0 999900 = true ∧ letsR d.pairs d.now d.box 6 = true ∧ letsR d.pairs d.now d.audit 20 = true ∧ d.used = cntT d.audit d.now ∧ (cntT d.audit d.now : Int) ≤ 2 := by
  unfold boxR at h; simp only [Bool.and_eq_true, decide_eq_true_eq] at h
  exact ⟨h.1.1.1.1.1.1, h.1.1.1.1.1.2, h.1.1.1.1.2, h.1.1.1.2, h.1.1.2, h.1.2⟩
end Go.Proofs.Ytocadhcggkbimaa

set_option maxRecDepth 100000
set_option linter.unusedVariables false
namespace Go.Proofs.Ytocadhcggkbimaa
open Go.RowKit Go.Fin1

def mkLtr (k : Nat) (_ : Ltr) : Ltr := ⟨⟨k, (k : Int) + 1⟩, ⟨(k : Int) + 1 + 1, (k : Int) + 1 + 1 + 1⟩, (k : Int) + 1 + 1 + 1 + 1, (k : Int) + 1 + 1 + 1 + 1 + 1⟩
abbrev mkLtrs : Nat → List Ltr → List Ltr := mkL mkLtr (fun _ => 6)


end Go.Proofs.Ytocadhcggkbimaa

set_option maxRecDepth 100000
set_option linter.unusedVariables false
namespace Go.Proofs.Ytocadhcggkbimaa
open Go.RowKit Go.Fin1

def mkDk (k : Nat) (d : Dk) : Dk := ⟨mkLtrs k d.pairs, mkLtrs (k + wL (fun _ : Ltr => 6) d.pairs) d.box, mkLtrs (k + wL (fun _ : Ltr => 6) d.pairs + wL (fun _ : Ltr => 6) d.box) d.audit, d.used, d.now⟩
def wDk (d : Dk) : Nat := wL (fun _ : Ltr => 6) d.pairs + wL (fun _ : Ltr => 6) d.box + wL (fun _ : Ltr => 6) d.audit
theorem wDk_le {d : Dk} (h : d.sz ≤ 1048576) : wDk d ≤ 6 * 1048576 := by
  unfold wDk; rw [wL_const, wL_const, wL_const]; unfold Dk.sz at h; omega

theorem CellsAt.alloc0 (w : World) (cs : List Value) (ty : TypeId) : CellsAt (w.alloc (.cells cs.toArray ty)) w.heap.size cs := fun i u hu => by
  rw [World.cell?_alloc_new]; simpa using hu
theorem not_held {α : Type} {o : Ow α} (ho : Held o) {w : World} {fp : List Nat} {cs : List Value} {x : α} (h : o w fp cs x) : w.heap.size ∉ fp := fun hb => absurd (ho _ _ _ _ h _ hb) (Nat.lt_irrefl _)


end Go.Proofs.Ytocadhcggkbimaa
