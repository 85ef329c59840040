/- The walks of JobOf. -/
import Derived.Test.YtfmjnncgpfkejaaJ7
set_option maxRecDepth 100000
set_option linter.unusedVariables false
namespace Go.Proofs.Ytfmjnncgpfkejaa
open Go.RowKit Go.Fin1

theorem findI_cases {α : Type} (p : α → Bool) (l : List α) : findI p l = -1 ∨ ∃ (k : Nat) (h : k < l.length), findI p l = k ∧ p l[k] = true := by
  unfold findI
  cases h : l.any p
  · exact .inl rfl
  · obtain ⟨x, hx, hp⟩ := List.any_eq_true.1 h
    have hlt : l.findIdx p < l.length := List.findIdx_lt_length.2 ⟨x, hx, hp⟩
    exact .inr ⟨l.findIdx p, hlt, rfl, List.findIdx_getElem⟩
def zJb : Jb := ⟨⟨0, 0⟩, 0, 0, 0, 0, 0, 0, []⟩
@[irreducible] def jobOf (l : List Jb) (x : Lab) (id : Int) : Jb := if jobsR l = true ∧ 0 ≤ posJ l x id then l.getD (posJ l x id).toNat zJb else zJb
theorem jobOf_no {l : List Jb} {x : Lab} {id : Int} (h : jobsR l = false ∨ posJ l x id = -1) : jobOf l x id = zJb := by
  unfold jobOf; rw [if_neg]
  rintro ⟨h1, h2⟩
  rcases h with h | h
  · rw [h1] at h; cases h
  · omega
theorem jobOf_yes {l : List Jb} {x : Lab} {id : Int} {k : Nat} (h : jobsR l = true) (hk : k < l.length) (hp : posJ l x id = k) : jobOf l x id = l[k] := by
  unfold jobOf; rw [if_pos ⟨h, by omega⟩, hp]; simp [hk]
theorem zJb_fit : zJb.fit := ⟨by unfold Jb.ok zJb Lab.ok I64; simp, fun x hx => by cases hx⟩
theorem jobOf_fit {l : List Jb} (h : ∀ j ∈ l, j.fit) (x : Lab) (id : Int) : (jobOf l x id).fit := by
  unfold jobOf
  split
  · rw [List.getD_eq_getElem?_getD]
    cases hg : l[(posJ l x id).toNat]? with
    | none => exact zJb_fit
    | some j => exact h j (List.mem_of_getElem? hg)
  · exact zJb_fit
theorem jobOf_len {l : List Jb} (h : ∀ j ∈ l, j.nodes.length ≤ 1048576) (x : Lab) (id : Int) : (jobOf l x id).nodes.length ≤ 1048576 := by
  unfold jobOf
  split
  · rw [List.getD_eq_getElem?_getD]
    cases hg : l[(posJ l x id).toNat]? with
    | none => exact Nat.zero_le _
    | some j => exact h j (List.mem_of_getElem? hg)
  · exact Nat.zero_le _
theorem own_nil (B : Nat) (w : World) : Own B w oIntS [] [.slice none 0 0] [] := ⟨⟨_, rfl, .inl ⟨rfl, rfl, rfl⟩⟩, List.nodup_nil, fun b hb => by cases hb⟩

set_option maxHeartbeats 1600000 in
theorem implJobOf_any (v : Value) (l : List Jb) (x : Lab) (id : Int) (w : World) (h : SlR w 9 rJob v l) (hn : ∀ j ∈ l, j.nodes.length ≤ 1048576) :
    Calls Try.prog 17 #[v, .agg #[(.int .i64 x.lv), (.int .i64 x.st)], (.int .i64 id)] w fun e w' => ∃ nv fp, e = .returned ((jobOf l x id).val nv) ∧ Ext w w' ∧ Own w.heap.size w' oIntS fp [nv] (jobOf l x id).nodes := by
  obtain ⟨a, cap, rfl⟩ := h.len
  obtain ⟨_, hlc, hcm⟩ := slr_len h
  have hlm : l.length ≤ 9223372036854775807 := by unfold maxLen at hcm; omega
  clear hcm hlc
  have HN := Lib.hid hn
  have HS := Lib.hid h
  clear h hn
  rcases findI_cases (isJb x id) l with hp | ⟨k, hk, hp, _⟩
  · have HJ := Lib.hid (jobOf_no (l := l) (.inr hp))
    have HP : Hid (posJ l x id = -1) := Lib.hid hp
    clear hp
    rw [HJ.out]
    go_enter Try.func17, Try.ntmps17
    go_wp2_with fail
    refine (indexOf_any _ l x id _ (HS.out.ext rJob_stable (by repeat (first | exact Ext.refl _ | apply Ext.plus | apply Ext.alloc | apply Ext.drew)))).mono ?_
    rintro e _ ⟨rfl, X, rfl⟩
    rw [HP.out]
    go_wp2_with fail
    refine (implJobsRight_any _ l _ (HS.out.ext rJob_stable (by repeat (first | exact Ext.refl _ | apply Ext.plus | apply Ext.alloc | apply Ext.drew)))).mono ?_
    rintro e _ ⟨rfl, Y, rfl⟩
    cases hj : jobsR l
    all_goals go_wp2
    all_goals exact bodyPost_ret (v := zJb.val (.slice none 0 0)) (by simp [results, Try.results17, go_sem, zJb, Jb.val]) rfl ⟨_, _, rfl, (by repeat' (first | exact Ext.refl _ | exact Nat.le_refl _ | (dsimp only; omega) | apply Ext.setCell | apply Ext.plus | apply Ext.alloc | apply Ext.drew)), own_nil _ _⟩
  · have HP : Hid (posJ l x id = k) := Lib.hid hp
    clear hp
    cases hj : jobsR l
    · have HJ := Lib.hid (jobOf_no (x := x) (id := id) (.inl hj))
      rw [HJ.out]
      go_enter Try.func17, Try.ntmps17
      go_wp2_with fail
      refine (indexOf_any _ l x id _ (HS.out.ext rJob_stable (by repeat (first | exact Ext.refl _ | apply Ext.plus | apply Ext.alloc | apply Ext.drew)))).mono ?_
      rintro e _ ⟨rfl, X, rfl⟩
      rw [HP.out]
      go_wp2_with fail
      refine (implJobsRight_any _ l _ (HS.out.ext rJob_stable (by repeat (first | exact Ext.refl _ | apply Ext.plus | apply Ext.alloc | apply Ext.drew)))).mono ?_
      rintro e _ ⟨rfl, Y, rfl⟩
      rw [hj]
      go_wp2
      exact bodyPost_ret (v := zJb.val (.slice none 0 0)) (by simp [results, Try.results17, go_sem, zJb, Jb.val]) rfl ⟨_, _, rfl, (by repeat' (first | exact Ext.refl _ | exact Nat.le_refl _ | (dsimp only; omega) | apply Ext.setCell | apply Ext.plus | apply Ext.alloc | apply Ext.drew)), own_nil _ _⟩
    · have HJ := Lib.hid (jobOf_yes hj hk HP.out)
      rw [HJ.out]
      have HNK := Lib.hid (HN.out _ (List.getElem_mem hk))
      have hlt := hk
      obtain ⟨b, off, rfl⟩ := slr_some HS.out hlt
      obtain ⟨ho, an, cn, hok, hsn, c0, c1, c2, c3, c4, c5, c6, c7, c8⟩ := job_at HS.out hlt
      have HV : Hid (eJob w (l[k].val (.slice an l[k].nodes.length cn)) l[k]) := Lib.hid ⟨an, cn, rfl, hok, hsn⟩
      clear hsn
      go_enter Try.func17, Try.ntmps17
      go_wp2_with fail
      refine (indexOf_any _ l x id _ (HS.out.ext rJob_stable (by repeat (first | exact Ext.refl _ | apply Ext.plus | apply Ext.alloc | apply Ext.drew)))).mono ?_
      rintro e _ ⟨rfl, X, rfl⟩
      rw [HP.out]
      go_wp2_with fail
      refine (implJobsRight_any _ l _ (HS.out.ext rJob_stable (by repeat (first | exact Ext.refl _ | apply Ext.plus | apply Ext.alloc | apply Ext.drew)))).mono ?_
      rintro e _ ⟨rfl, Y, rfl⟩
      rw [hj]
      go_wp2_with fail
      refine (copyJob_any l[k] _ _ (HV.out.ext trivial (by repeat (first | exact Ext.refl _ | apply Ext.plus | apply Ext.alloc | apply Ext.drew))).nodes HNK.out).mono ?_
      rintro e _ ⟨nv, fp, rfl, ⟨Z, rfl⟩, hO⟩
      obtain ⟨a', c', rfl⟩ := hO.shape
      have HO := Lib.hid hO
      clear hO
      unfold Jb.val
      go_wp2
      exact bodyPost_ret (v := l[k].val (.slice a' l[k].nodes.length c')) (by simp [results, Try.results17, go_sem, Jb.val]) rfl ⟨_, _, rfl, (by repeat' (first | exact Ext.refl _ | exact Nat.le_refl _ | (dsimp only; omega) | apply Ext.setCell | apply Ext.plus | apply Ext.alloc | apply Ext.drew)), (HO.out.swap oIntS_local (Nat.le_refl _) (by simp)).mono (by simp; omega)⟩

set_option maxHeartbeats 1600000 in
theorem specJobOf_any (v : Value) (l : List Jb) (x : Lab) (id : Int) (w : World) (h : SlR w 9 rJob v l) (hn : ∀ j ∈ l, j.nodes.length ≤ 1048576) :
    Calls Try.prog 18 #[v, .agg #[(.int .i64 x.lv), (.int .i64 x.st)], (.int .i64 id)] w fun e w' => ∃ nv fp, e = .returned ((jobOf l x id).val nv) ∧ Ext w w' ∧ Own w.heap.size w' oIntS fp [nv] (jobOf l x id).nodes := by
  obtain ⟨a, cap, rfl⟩ := h.len
  obtain ⟨_, hlc, hcm⟩ := slr_len h
  have hlm : l.length ≤ 9223372036854775807 := by unfold maxLen at hcm; omega
  clear hcm hlc
  have HN := Lib.hid hn
  have HS := Lib.hid h
  clear h hn
  by_cases h96 : l.length ≤ 96
  · have hb : decide ((96 : Int) < l.length) = false := decide_eq_false (by omega)
    rcases findI_cases (isJb x id) l with hp | ⟨k, hk, hp, _⟩
    · have HJ := Lib.hid (jobOf_no (l := l) (.inr hp))
      have HP : Hid (posJ l x id = -1) := Lib.hid hp
      clear hp
      rw [HJ.out]
      go_enter Try.func18, Try.ntmps18
      go_wp2_with fail
      refine (l04At_any _ l x id _ (HS.out.ext rJob_stable (by repeat (first | exact Ext.refl _ | apply Ext.plus | apply Ext.alloc | apply Ext.drew)))).mono ?_
      rintro e _ ⟨rfl, X, rfl⟩
      rw [HP.out]
      go_wp2
      exact bodyPost_ret (v := zJb.val (.slice none 0 0)) (by simp [results, Try.results18, go_sem, zJb, Jb.val]) rfl ⟨_, _, rfl, (by repeat' (first | exact Ext.refl _ | exact Nat.le_refl _ | (dsimp only; omega) | apply Ext.setCell | apply Ext.plus | apply Ext.alloc | apply Ext.drew)), own_nil _ _⟩
    · have HP : Hid (posJ l x id = k) := Lib.hid hp
      clear hp
      cases hj : jobsR l
      · have HJ := Lib.hid (jobOf_no (x := x) (id := id) (.inl hj))
        rw [HJ.out]
        go_enter Try.func18, Try.ntmps18
        go_wp2_with fail
        refine (l04At_any _ l x id _ (HS.out.ext rJob_stable (by repeat (first | exact Ext.refl _ | apply Ext.plus | apply Ext.alloc | apply Ext.drew)))).mono ?_
        rintro e _ ⟨rfl, X, rfl⟩
        rw [HP.out]
        go_wp2_with fail
        refine (specJobsRight_any _ l _ (HS.out.ext rJob_stable (by repeat (first | exact Ext.refl _ | apply Ext.plus | apply Ext.alloc | apply Ext.drew)))).mono ?_
        rintro e _ ⟨rfl, Y, rfl⟩
        rw [hj]
        go_wp2
        exact bodyPost_ret (v := zJb.val (.slice none 0 0)) (by simp [results, Try.results18, go_sem, zJb, Jb.val]) rfl ⟨_, _, rfl, (by repeat' (first | exact Ext.refl _ | exact Nat.le_refl _ | (dsimp only; omega) | apply Ext.setCell | apply Ext.plus | apply Ext.alloc | apply Ext.drew)), own_nil _ _⟩
      · have HJ := Lib.hid (jobOf_yes hj hk HP.out)
        rw [HJ.out]
        have HNK := Lib.hid (HN.out _ (List.getElem_mem hk))
        have hlt := hk
        obtain ⟨b, off, rfl⟩ := slr_some HS.out hlt
        obtain ⟨ho, an, cn, hok, hsn, c0, c1, c2, c3, c4, c5, c6, c7, c8⟩ := job_at HS.out hlt
        have HV : Hid (eJob w (l[k].val (.slice an l[k].nodes.length cn)) l[k]) := Lib.hid ⟨an, cn, rfl, hok, hsn⟩
        clear hsn
        go_enter Try.func18, Try.ntmps18
        go_wp2_with fail
        refine (l04At_any _ l x id _ (HS.out.ext rJob_stable (by repeat (first | exact Ext.refl _ | apply Ext.plus | apply Ext.alloc | apply Ext.drew)))).mono ?_
        rintro e _ ⟨rfl, X, rfl⟩
        rw [HP.out]
        go_wp2_with fail
        refine (specJobsRight_any _ l _ (HS.out.ext rJob_stable (by repeat (first | exact Ext.refl _ | apply Ext.plus | apply Ext.alloc | apply Ext.drew)))).mono ?_
        rintro e _ ⟨rfl, Y, rfl⟩
        rw [hj]
        go_wp2_with fail
        refine (l04Copy_any l[k] _ _ (HV.out.ext trivial (by repeat (first | exact Ext.refl _ | apply Ext.plus | apply Ext.alloc | apply Ext.drew))).nodes HNK.out).mono ?_
        rintro e _ ⟨nv, fp, rfl, ⟨Z, rfl⟩, hO⟩
        obtain ⟨a', c', rfl⟩ := hO.shape
        have HO := Lib.hid hO
        clear hO
        have HI := Lib.hid (slr_ints HV.out.nodes)
        unfold Jb.val
        go_wp2
        exact bodyPost_ret (v := l[k].val (.slice a' l[k].nodes.length c')) (by simp [results, Try.results18, go_sem, Jb.val]) rfl ⟨_, _, rfl, (by repeat' (first | exact Ext.refl _ | exact Nat.le_refl _ | (dsimp only; omega) | apply Ext.setCell | apply Ext.plus | apply Ext.alloc | apply Ext.drew)), (HO.out.swap oIntS_local (Nat.le_refl _) (by simp)).mono (by simp; omega)⟩
  · have hb : decide ((96 : Int) < l.length) = true := decide_eq_true (by omega)
    have HJ := Lib.hid (jobOf_no (x := x) (id := id) (.inl (jobsR_long (show 96 < l.length by omega))))
    rw [HJ.out]
    go_enter Try.func18, Try.ntmps18
    go_wp2_with fail
    refine (l04At_any _ l x id _ (HS.out.ext rJob_stable (by repeat (first | exact Ext.refl _ | apply Ext.plus | apply Ext.alloc | apply Ext.drew)))).mono ?_
    rintro e _ ⟨rfl, X, rfl⟩
    go_wp2
    exact bodyPost_ret (v := zJb.val (.slice none 0 0)) (by simp [results, Try.results18, go_sem, zJb, Jb.val]) rfl ⟨_, _, rfl, (by repeat' (first | exact Ext.refl _ | exact Nat.le_refl _ | (dsimp only; omega) | apply Ext.setCell | apply Ext.plus | apply Ext.alloc | apply Ext.drew)), own_nil _ _⟩
end Go.Proofs.Ytfmjnncgpfkejaa
