/- Plain maths of FnBlind: what a user sees does not depend on the jobs that are not below. -/
import Derived.Test.YtkhmdhdaldbbhaaRRC
import Derived.Test.YtkhmdhdaldbbhaaVF
set_option maxRecDepth 100000
set_option linter.unusedVariables false
namespace Go.Proofs.Ytkhmdhdaldbbhaa
open Go.RowKit Go.Fin1
def pj (P : Lab → Bool) (j : Jb) : Bool := P j.l
theorem sortedJ_pw {l : List Jb} (hn : l.Pairwise NeJ) : (sortedJ l).Pairwise (fun a b => cmpJ a b < 0) := (sortedJ_all (l := l) (acc := []) List.Pairwise.nil hn (fun x hx => by cases hx)).1
theorem sortedJ_in {l : List Jb} {j : Jb} : j ∈ sortedJ l ↔ j ∈ l := (sortedJ_perm l).mem_iff
theorem uniq_of {l m : List Jb} (hn : l.Pairwise NeJ) (hm : m.Pairwise (fun a b => cmpJ a b < 0)) (hx : ∀ x, x ∈ m ↔ x ∈ l) : m = sortedJ l :=
  sortedJ_uniq hn (fun i j hi hj hij => List.pairwise_iff_getElem.1 hm i j hi hj hij) hx
theorem sorted_filter {l : List Jb} (hn : l.Pairwise NeJ) (f : Jb → Bool) : (sortedJ l).filter f = sortedJ (l.filter f) :=
  uniq_of (hn.sublist List.filter_sublist) ((sortedJ_pw hn).sublist List.filter_sublist) (fun x => by rw [List.mem_filter, List.mem_filter, sortedJ_in])
theorem sorted_split {P : Lab → Bool} {l : List Jb} (hn : l.Pairwise NeJ) (hs : ∀ x ∈ l, ∀ y ∈ l, P x.l = true → P y.l = false → cmpJ x y < 0) : sortedJ l = sortedJ (l.filter (pj P)) ++ sortedJ (l.filter (fun j => !pj P j)) := by
  refine (uniq_of hn (List.pairwise_append.2 ⟨sortedJ_pw (hn.sublist List.filter_sublist), sortedJ_pw (hn.sublist List.filter_sublist), fun a ha b hb => ?_⟩) (fun x => ?_)).symm
  · rw [sortedJ_in, List.mem_filter] at ha hb
    exact hs a ha.1 b hb.1 ha.2 (by simpa [pj] using hb.2)
  · rw [List.mem_append, sortedJ_in, sortedJ_in, List.mem_filter, List.mem_filter]
    constructor
    · rintro (h | h) <;> exact h.1
    · intro h
      cases e : pj P x
      · exact .inr ⟨h, by rfl⟩
      · exact .inl ⟨h, rfl⟩
theorem placed_key {cl : List (List Lab)} {now : Int} {rows : List (List Spn)} {j : Jb} {r : Slt × Spn} (h : placedP cl now rows j = some r) : r.1.l = j.l ∧ r.1.id = j.id := by
  unfold placedP at h
  split at h
  · obtain rfl : _ = r := Option.some.inj h; exact ⟨rfl, rfl⟩
  · split at h
    · cases h
    · obtain rfl : _ = r := Option.some.inj h; exact ⟨rfl, rfl⟩
theorem foldl_more {cl : List (List Lab)} {now : Int} : ∀ (l : List Jb) (s : PSt), ∃ more, (l.foldl (stepP cl now) s).1 = s.1 ++ more ∧ ∀ t ∈ more, ∃ j ∈ l, t.l = j.l ∧ t.id = j.id
  | [], s => ⟨[], by simp, fun t ht => by cases ht⟩
  | j :: l, s => by
    obtain ⟨more, h1, h2⟩ := foldl_more l (stepP cl now s j)
    rw [List.foldl_cons, h1]
    cases h0 : (j.state == 2 || j.state == 1)
    · rw [stepP_off h0]
      exact ⟨more, rfl, fun t ht => by obtain ⟨i, hi, h⟩ := h2 t ht; exact ⟨i, List.mem_cons_of_mem _ hi, h⟩⟩
    · cases hp : placedP cl now s.2 j with
      | none =>
        rw [stepP_none hp]
        exact ⟨more, rfl, fun t ht => by obtain ⟨i, hi, h⟩ := h2 t ht; exact ⟨i, List.mem_cons_of_mem _ hi, h⟩⟩
      | some r =>
        rw [stepP_some h0 hp]
        refine ⟨r.1 :: more, by simp, fun t ht => ?_⟩
        rcases List.mem_cons.1 ht with rfl | ht
        · exact ⟨j, List.mem_cons_self .., placed_key hp⟩
        · obtain ⟨i, hi, h⟩ := h2 t ht; exact ⟨i, List.mem_cons_of_mem _ hi, h⟩
theorem plan_split {P : Lab → Bool} {cl : List (List Lab)} {now : Int} {l : List Jb} (hn : l.Pairwise NeJ) (hs : ∀ x ∈ l, ∀ y ∈ l, P x.l = true → P y.l = false → cmpJ x y < 0) :
    ∃ more, planL cl now l = planL cl now (l.filter (pj P)) ++ more ∧ ∀ t ∈ more, P t.l = false := by
  unfold planL
  rw [sorted_split hn hs]
  unfold foldP
  rw [List.foldl_append]
  obtain ⟨more, h1, h2⟩ := foldl_more (cl := cl) (now := now) (sortedJ (l.filter (fun j => !pj P j))) ((sortedJ (l.filter (pj P))).foldl (stepP cl now) ([], List.replicate cl.length []))
  refine ⟨more, h1, fun t ht => ?_⟩
  obtain ⟨j, hj, e, _⟩ := h2 t ht
  rw [sortedJ_in, List.mem_filter] at hj
  rw [e]
  simpa [pj] using hj.2
/-! the slots' jobs, as a map -/
theorem isJb_iff {x : Lab} {id : Int} {j : Jb} : isJb x id j = true ↔ j.l = x ∧ j.id = id := by
  unfold isJb sameL
  simp only [Bool.and_eq_true, decide_eq_true_eq]
  constructor
  · rintro ⟨⟨a, b⟩, c⟩
    exact ⟨by cases hl : j.l; cases x; rw [hl] at a b; simp only at a b; rw [a, b], c⟩
  · rintro ⟨rfl, rfl⟩; exact ⟨⟨rfl, rfl⟩, rfl⟩
def updS (t : Int) (s : Slt) (j : Jb) : Jb := if s.start ≤ t ∧ isJb s.l s.id j = true then runsJ j s else j
theorem updS_key (t : Int) (s : Slt) (j : Jb) : keyJ (updS t s j) = keyJ j := by unfold updS; split <;> rfl
theorem keys_ne {J : List Jb} (hn : J.Pairwise NeJ) {i k : Nat} (hi : i < J.length) (hk : k < J.length) (h : J[i].l = J[k].l ∧ J[i].id = J[k].id) : i = k := by
  rcases Nat.lt_trichotomy i k with e | e | e
  · exact absurd ⟨congrArg Lab.lv h.1, congrArg Lab.st h.1, h.2⟩ (List.pairwise_iff_getElem.1 hn i k hi hk e)
  · exact e
  · exact absurd ⟨(congrArg Lab.lv h.1).symm, (congrArg Lab.st h.1).symm, h.2.symm⟩ (List.pairwise_iff_getElem.1 hn k i hk hi e)
theorem set_map {J : List Jb} (hn : J.Pairwise NeJ) {k : Nat} (hk : k < J.length) (g : Jb → Jb) : J.set k (g J[k]) = J.map (fun j => if isJb J[k].l J[k].id j = true then g j else j) := by
  refine List.ext_getElem (by simp) fun i h1 h2 => ?_
  have hi : i < J.length := by simpa using h1
  rw [List.getElem_set, List.getElem_map]
  by_cases e : k = i
  · subst e; rw [if_pos rfl, if_pos (isJb_iff.2 ⟨rfl, rfl⟩)]
  · rw [if_neg e, if_neg (fun h => e (keys_ne hn hi hk (isJb_iff.1 h)).symm)]
theorem stepA_map {t : Int} {J : List Jb} {s : Slt} (hn : J.Pairwise NeJ) (hk : (s.l, s.id) ∈ J.map keyJ) : stepA t J s = J.map (updS t s) := by
  by_cases hs : s.start ≤ t
  · obtain ⟨k, hk, hp, h1, h2⟩ := pos_key hk
    rw [stepA_yes hs hk hp, set_map hn hk (fun j => runsJ j s), h1, h2]
    refine List.map_congr_left fun j _ => ?_
    unfold updS
    by_cases e : isJb s.l s.id j = true
    · rw [if_pos e, if_pos ⟨hs, e⟩]
    · rw [if_neg e, if_neg (fun h => e h.2)]
  · rw [stepA_no hs]
    have : J.map (updS t s) = J.map id := List.map_congr_left fun j _ => by unfold updS; rw [if_neg (fun h => hs h.1)]; rfl
    rw [this, List.map_id]
def foldM (t : Int) (J : List Jb) (S : List Slt) : List Jb := S.foldl (fun J s => J.map (updS t s)) J
theorem foldA_M {t : Int} : ∀ {S : List Slt} {J : List Jb}, J.Pairwise NeJ → (∀ s ∈ S, (s.l, s.id) ∈ J.map keyJ) → foldA t J S = foldM t J S
  | [], J, _, _ => by rw [foldA_nil]; rfl
  | s :: S, J, hn, h => by
    have e : foldA t J (s :: S) = foldA t (stepA t J s) S := by unfold foldA; rfl
    have e2 : foldM t J (s :: S) = foldM t (J.map (updS t s)) S := rfl
    have hk : (J.map (updS t s)).map keyJ = J.map keyJ := by rw [List.map_map]; exact List.map_congr_left fun j _ => updS_key t s j
    rw [e, e2, stepA_map hn (h s (List.mem_cons_self ..))]
    exact foldA_M (ne_key hk.symm hn) (fun q hq => by rw [hk]; exact h q (List.mem_cons_of_mem _ hq))
theorem filter_mapP {P : Lab → Bool} {f : Jb → Jb} (hf : ∀ j, (f j).l = j.l) (J : List Jb) : (J.map f).filter (pj P) = (J.filter (pj P)).map f := by
  rw [List.filter_map]
  congr 1
  refine List.filter_congr fun j _ => ?_
  show P (f j).l = P j.l
  rw [hf]
theorem updS_l (t : Int) (s : Slt) (j : Jb) : (updS t s j).l = j.l := by unfold updS; split <;> rfl
theorem foldM_filter {P : Lab → Bool} {t : Int} : ∀ (S : List Slt) (J : List Jb), (foldM t J S).filter (pj P) = foldM t (J.filter (pj P)) S
  | [], J => rfl
  | s :: S, J => by
    have e2 : ∀ J, foldM t J (s :: S) = foldM t (J.map (updS t s)) S := fun _ => rfl
    rw [e2, e2, foldM_filter S, filter_mapP (updS_l t s)]
theorem foldM_skip {P : Lab → Bool} {t : Int} : ∀ {S : List Slt} {J : List Jb}, (∀ s ∈ S, P s.l = false) → (∀ j ∈ J, P j.l = true) → foldM t J S = J
  | [], J, _, _ => rfl
  | s :: S, J, hS, hJ => by
    have e2 : foldM t J (s :: S) = foldM t (J.map (updS t s)) S := rfl
    have e3 : J.map (updS t s) = J.map id := List.map_congr_left fun j hj => by
      unfold updS
      rw [if_neg]
      · rfl
      · rintro ⟨_, h⟩
        have := hJ j hj
        rw [(isJb_iff.1 h).1, hS s (List.mem_cons_self ..)] at this
        cases this
    rw [e2, e3, List.map_id]
    exact foldM_skip (fun q hq => hS q (List.mem_cons_of_mem _ hq)) hJ
theorem foldM_app (t : Int) (J : List Jb) (S R : List Slt) : foldM t J (S ++ R) = foldM t (foldM t J S) R := by unfold foldM; rw [List.foldl_append]
/-- Two pools that a user cannot tell apart. -/
structure Bl (P Q : Lab → Bool) (a b : Pl) : Prop where
  ra : poolR a = true
  rb : poolR b = true
  cl : b.clear = a.clear
  nw : b.now = a.now
  js : b.jobs.filter (pj P) = a.jobs
  lb : ∀ j ∈ b.jobs, Q j.l = true
def SepL (P Q : Lab → Bool) : Prop := ∀ x y, Q x = true → Q y = true → P x = true → P y = false → x.lv < y.lv ∨ (x.lv = y.lv ∧ x.st < y.st)
theorem SepL.cmp {P Q : Lab → Bool} (h : SepL P Q) {x y : Jb} (hx : Q x.l = true) (hy : Q y.l = true) (h1 : P x.l = true) (h2 : P y.l = false) : cmpJ x y < 0 := by
  have := h x.l y.l hx hy h1 h2
  rw [cmpJ_lt]; omega
theorem Bl.pa {P Q : Lab → Bool} {a b : Pl} (h : Bl P Q a b) : ∀ j ∈ a.jobs, P j.l = true := fun j hj => by
  rw [← h.js] at hj; exact (List.mem_filter.1 hj).2
theorem endJ_l (t : Int) (j : Jb) : (endJ t j).l = j.l := by unfold endJ; split <;> rfl
theorem waitJ_l (j : Jb) : (waitJ j).l = j.l := by unfold waitJ; split <;> rfl
theorem key_l {J K : List Jb} (h : J.map keyJ = K.map keyJ) {f : Lab → Bool} (hK : ∀ j ∈ K, f j.l = true) : ∀ j ∈ J, f j.l = true := fun j hj => by
  have : keyJ j ∈ K.map keyJ := by rw [← h]; exact List.mem_map.2 ⟨j, hj, rfl⟩
  obtain ⟨k, hk, e⟩ := List.mem_map.1 this
  have e2 : k.l = j.l := by unfold keyJ at e; simp at e; exact e.1
  rw [← e2]; exact hK k hk
theorem adv_foldM {p : Pl} (h : poolR p = true) (hn : ¬ p.now = 999900) : foldA (p.now + 1) (jobs2 p) (plan1 p) = foldM (p.now + 1) (jobs2 p) (plan1 p) := by
  have hp := poolR_of h
  have hnow : 0 ≤ p.now + 1 ∧ p.now + 1 ≤ 999900 := by have := hp.nw; omega
  have hne1 : (jobs1 p).Pairwise NeJ := jobsR_ne (jobs1_R hp hn)
  refine foldA_M (ne_key (by rw [jobs2_key, jobs1_key]) hne1) ?_
  rw [jobs2_key, ← jobs1_key p]
  unfold plan1
  exact planL_key hnow hne1 (fun j hj => (jobs1_pl hp hn j hj).ok hnow)
theorem Bl.adv {P Q : Lab → Bool} {a b : Pl} (h : Bl P Q a b) (hs : SepL P Q) (hn : ¬ a.now = 999900) : Bl P Q (advP a) (advP b) := by
  have hnb : ¬ b.now = 999900 := by rw [h.nw]; exact hn
  have e1 : (jobs1 b).filter (pj P) = jobs1 a := by
    unfold jobs1
    rw [filter_mapP (endJ_l _), h.js, h.nw]
  have e2 : (jobs2 b).filter (pj P) = jobs2 a := by
    unfold jobs2
    rw [filter_mapP waitJ_l, e1]
  have hq1 : ∀ j ∈ jobs1 b, Q j.l = true := key_l (jobs1_key b) h.lb
  obtain ⟨more, e3, e4⟩ := plan_split (P := P) (cl := b.clear) (now := b.now + 1) (l := jobs1 b) (jobsR_ne (jobs1_R (poolR_of h.rb) hnb)) (fun x hx y hy => hs.cmp (hq1 x hx) (hq1 y hy))
  have e5 : plan1 b = plan1 a ++ more := by
    unfold plan1
    rw [e3, e1, h.cl, h.nw]
  have fa := adv_foldM h.ra hn
  have fb := adv_foldM h.rb hnb
  refine ⟨advP_right h.ra hn, advP_right h.rb hnb, ?_, ?_, ?_, ?_⟩
  · unfold advP; exact h.cl
  · unfold advP; show b.now + 1 = a.now + 1; rw [h.nw]
  · unfold advP
    show (foldA (b.now + 1) (jobs2 b) (plan1 b)).filter (pj P) = foldA (a.now + 1) (jobs2 a) (plan1 a)
    rw [fa, fb, foldM_filter, e2, e5, foldM_app, h.nw]
    refine foldM_skip e4 ?_
    rw [← fa]
    refine key_l (K := a.jobs) ?_ h.pa
    have := foldA_key (a.now + 1) (jobs2 a) (plan1 a) _ (Nat.le_refl _)
    rw [List.take_length] at this
    rw [this, jobs2_key]
  · unfold advP
    refine key_l (K := b.jobs) ?_ h.lb
    have := foldA_key (b.now + 1) (jobs2 b) (plan1 b) _ (Nat.le_refl _)
    rw [List.take_length] at this
    show (foldA (b.now + 1) (jobs2 b) (plan1 b)).map keyJ = _
    rw [this, jobs2_key]
theorem sameL_to {a b : Lab} (h : sameL a b = true) : a = b := by
  unfold sameL at h
  simp only [Bool.and_eq_true, decide_eq_true_eq] at h
  cases a; cases b; simp only at h; rw [h.1, h.2]
theorem cntL_filter {P : Lab → Bool} {x : Lab} (hx : P x = true) (J : List Jb) : cntL (J.filter (pj P)) x = cntL J x := by
  unfold cntL
  rw [List.filter_filter]
  congr 1
  refine List.filter_congr fun j _ => ?_
  cases hs : sameL j.l x
  · rfl
  · show (true && P j.l) = true
    rw [sameL_to hs, hx]; rfl
theorem subP_out {P : Lab → Bool} {p : Pl} {x : Lab} {n l q : Int} : (subP p x n l q).jobs.filter (pj P) = p.jobs.filter (pj P) ++ (if P x = true then [subJ x (cntL p.jobs x + 1) n l q] else []) := by
  show (p.jobs ++ [_]).filter _ = _
  rw [List.filter_append]
  congr 1
  cases hx : P x
  · rw [List.filter_cons_of_neg (by show ¬ P x = true; rw [hx]; simp)]; rfl
  · rw [List.filter_cons_of_pos (by show P x = true; exact hx)]; rfl
theorem subR_yes' {p : Pl} {x : Lab} {n l q : Int} (h : (subR p x n l q).2.2 = 0) : poolR p = true ∧ subR p x n l q = (subP p x n l q, (cntL p.jobs x : Int) + 1, 0) := by
  have h1 := (subR_right h).1
  refine ⟨h1, ?_⟩
  unfold subR at h ⊢
  split
  · rename_i e; rw [if_pos e] at h; cases h
  · rename_i e
    rw [if_neg e] at h
    split
    · rename_i e2; rw [if_pos e2] at h; cases h
    · rename_i e2
      rw [if_neg e2] at h
      split
      · rename_i e3; rw [if_pos e3] at h; cases h
      · rfl
theorem Bl.sub_in {P Q : Lab → Bool} {a b : Pl} (h : Bl P Q a b) {x : Lab} (hx : P x = true) (hq : Q x = true) {n l q : Int} :
    (subR a x n l q).2 = (subR b x n l q).2 ∧ ((subR a x n l q).2.2 = 0 → Bl P Q (subR a x n l q).1 (subR b x n l q).1) := by
  have hc : cntL b.jobs x = cntL a.jobs x := by rw [← h.js, cntL_filter hx]
  have e2 : (subR a x n l q).2 = (subR b x n l q).2 := by
    unfold subR
    rw [h.ra, h.rb, h.cl, hc]
    split
    · rfl
    · split
      · rfl
      · split <;> rfl
  refine ⟨e2, fun h0 => ?_⟩
  have h0b : (subR b x n l q).2.2 = 0 := by rw [← e2]; exact h0
  have r1 := (subR_right h0).2
  have r2 := (subR_right h0b).2
  rw [(subR_yes' h0).2] at r1 ⊢
  rw [(subR_yes' h0b).2] at r2 ⊢
  refine ⟨r1, r2, h.cl, h.nw, ?_, fun j hj => ?_⟩
  · show (subP b x n l q).jobs.filter _ = a.jobs ++ [_]
    rw [subP_out, if_pos hx, h.js, hc]
  · rcases List.mem_append.1 (show j ∈ b.jobs ++ [_] from hj) with hj | hj
    · exact h.lb j hj
    · obtain rfl := List.mem_singleton.1 hj; exact hq
theorem Bl.sub_out {P Q : Lab → Bool} {a b : Pl} (h : Bl P Q a b) {x : Lab} (hx : P x = false) (hq : Q x = true) {n l q : Int} (h0 : (subR b x n l q).2.2 = 0) : Bl P Q a (subR b x n l q).1 := by
  have r2 := (subR_right h0).2
  rw [(subR_yes' h0).2] at r2 ⊢
  refine ⟨h.ra, r2, h.cl, h.nw, ?_, fun j hj => ?_⟩
  · show (subP b x n l q).jobs.filter _ = _
    rw [subP_out, if_neg (by rw [hx]; simp), h.js, List.append_nil]
  · rcases List.mem_append.1 (show j ∈ b.jobs ++ [_] from hj) with hj | hj
    · exact h.lb j hj
    · obtain rfl := List.mem_singleton.1 hj; exact hq
/-! change -/
def chJ (x : Lab) (id st : Int) (j : Jb) : Jb := if isJb x id j = true then setJ j st else j
theorem chJ_key (x : Lab) (id st : Int) (j : Jb) : keyJ (chJ x id st j) = keyJ j := by unfold chJ; split <;> rfl
theorem chJ_l (x : Lab) (id st : Int) (j : Jb) : (chJ x id st j).l = j.l := by unfold chJ; split <;> rfl
theorem chR_found {p : Pl} {x : Lab} {id st : Int} (h : poolR p = true) (hs : stOk st) :
    ((∀ j ∈ p.jobs, isJb x id j = false) ∧ chR p x id st = (zPl, 0, 6)) ∨ ∃ j ∈ p.jobs, isJb x id j = true ∧ chR p x id st = if j.state = 3 ∨ j.state = st then (zPl, 0, 10) else (⟨p.clear, p.jobs.map (chJ x id st), p.now⟩, 0, 0) := by
  rcases findI_cases (isJb x id) p.jobs with hpos | ⟨k, hk, hpos, hp⟩
  · refine .inl ⟨fun j hj => ?_, chR_none h hs hpos⟩
    have h3 := findI_nonneg (isJb x id) p.jobs
    rw [hpos] at h3
    cases e : isJb x id j
    · rfl
    · rw [List.any_eq_true.2 ⟨j, hj, e⟩] at h3; simp at h3
  · refine .inr ⟨_, List.getElem_mem hk, hp, ?_⟩
    by_cases q3 : p.jobs[k].state = 3 ∨ p.jobs[k].state = st
    · rw [if_pos q3]; exact chR_state h hs hk hpos q3
    · rw [if_neg q3, chR_yes h hs hk hpos q3, set_map (jobsR_ne (poolR_of h).js) hk (fun j => setJ j st)]
      obtain ⟨e1, e2⟩ := isJb_iff.1 hp
      rw [e1, e2]
      rfl
theorem Bl.ch_in {P Q : Lab → Bool} {a b : Pl} (h : Bl P Q a b) {x : Lab} (hx : P x = true) {id st : Int} :
    (chR a x id st).2 = (chR b x id st).2 ∧ ((chR a x id st).2.2 = 0 → Bl P Q (chR a x id st).1 (chR b x id st).1) := by
  by_cases hs : stOk st
  case neg =>
    rw [chR_form (.inr hs), chR_form (.inr hs)]
    exact ⟨rfl, fun e => by cases e⟩
  have hin : ∀ j ∈ b.jobs, isJb x id j = true → j ∈ a.jobs := fun j hj e => by
    rw [← h.js]
    exact List.mem_filter.2 ⟨hj, by show P j.l = true; rw [(isJb_iff.1 e).1]; exact hx⟩
  have hsub : ∀ j ∈ a.jobs, j ∈ b.jobs := fun j hj => by rw [← h.js] at hj; exact (List.mem_filter.1 hj).1
  rcases chR_found (x := x) (id := id) h.ra hs with ⟨n1, e1⟩ | ⟨j1, m1, k1, e1⟩
  · rcases chR_found (x := x) (id := id) h.rb hs with ⟨n2, e2⟩ | ⟨j2, m2, k2, e2⟩
    · rw [e1, e2]; exact ⟨rfl, fun e => by cases e⟩
    · have := n1 j2 (hin j2 m2 k2); rw [k2] at this; cases this
  · rcases chR_found (x := x) (id := id) h.rb hs with ⟨n2, e2⟩ | ⟨j2, m2, k2, e2⟩
    · have := n2 j1 (hsub j1 m1); rw [k1] at this; cases this
    · have hj : j1 = j2 := keyJ_eq_of (jobsR_ne (poolR_of h.ra).js) m1 (hin j2 m2 k2) (by unfold keyJ; rw [(isJb_iff.1 k1).1, (isJb_iff.1 k1).2, (isJb_iff.1 k2).1, (isJb_iff.1 k2).2])
      subst hj
      have r1 := fun h0 => (chR_right (p := a) (x := x) (id := id) (st := st) h0).2
      have r2 := fun h0 => (chR_right (p := b) (x := x) (id := id) (st := st) h0).2
      rw [e1] at r1 ⊢
      rw [e2] at r2 ⊢
      by_cases hc : j1.state = 3 ∨ j1.state = st
      · rw [if_pos hc, if_pos hc]; exact ⟨rfl, fun e => by cases e⟩
      · rw [if_neg hc] at r1
        rw [if_neg hc] at r2
        rw [if_neg hc, if_neg hc]
        refine ⟨rfl, fun _ => ⟨r1 rfl, r2 rfl, h.cl, h.nw, ?_, ?_⟩⟩
        · show (b.jobs.map _).filter _ = a.jobs.map _
          rw [filter_mapP (chJ_l x id st), h.js]
        · refine key_l (K := b.jobs) ?_ h.lb
          show (b.jobs.map _).map keyJ = _
          rw [List.map_map]
          exact List.map_congr_left fun j _ => chJ_key x id st j
theorem Bl.ch_out {P Q : Lab → Bool} {a b : Pl} (h : Bl P Q a b) {x : Lab} (hx : P x = false) {id st : Int} (h0 : (chR b x id st).2.2 = 0) : Bl P Q a (chR b x id st).1 := by
  by_cases hs : stOk st
  case neg => rw [chR_form (.inr hs)] at h0; cases h0
  have r2 := (chR_right h0).2
  rcases chR_found (x := x) (id := id) h.rb hs with ⟨n2, e2⟩ | ⟨j2, m2, k2, e2⟩
  · rw [e2] at h0; cases h0
  · rw [e2] at h0 r2 ⊢
    by_cases hc : j2.state = 3 ∨ j2.state = st
    · rw [if_pos hc] at h0; cases h0
    · rw [if_neg hc] at r2 ⊢
      refine ⟨h.ra, r2, h.cl, h.nw, ?_, ?_⟩
      · show (b.jobs.map _).filter _ = a.jobs
        rw [filter_mapP (chJ_l x id st), h.js]
        have : a.jobs.map (chJ x id st) = a.jobs.map (fun j => j) := List.map_congr_left fun j hj => by
          unfold chJ
          rw [if_neg]
          intro e
          have := h.pa j hj
          rw [(isJb_iff.1 e).1, hx] at this; cases this
        rw [this, List.map_id']
      · refine key_l (K := b.jobs) ?_ h.lb
        show (b.jobs.map _).map keyJ = _
        rw [List.map_map]
        exact List.map_congr_left fun j _ => chJ_key x id st j
theorem Bl.view {P Q : Lab → Bool} {a b : Pl} (h : Bl P Q a b) {x : Lab} (hx : ∀ y, Q y = true → blw y x = true → P y = true) : viewS a x = viewS b x := by
  have e : seesL b.jobs x = seesL a.jobs x := by
    unfold seesL
    rw [sorted_filter (jobsR_ne (poolR_of h.rb).js), sorted_filter (jobsR_ne (poolR_of h.ra).js), ← h.js, List.filter_filter]
    congr 1
    refine List.filter_congr fun j hj => ?_
    cases hb : blw j.l x
    · rfl
    · show true = (true && P j.l); rw [hx _ (h.lb j hj) hb]; rfl
  unfold viewS
  rw [h.ra, h.rb, e, h.nw]
theorem putNum_pos (n : Int) : 0 < (putNum n).size := by
  unfold putNum putNumL
  rw [strOfNums_size]
  show 0 < (if zig n < 128 then [zig n] else (zig n % 128 + 128) :: putU 8 (zig n / 128)).length
  split <;> simp
theorem view_ne {p : Pl} {x : Lab} (h : poolR p = true) (hx : labR x = true) : viewS p x ≠ ⟨#[]⟩ := by
  unfold viewS
  rw [h, hx]
  show viewL _ _ ≠ _
  intro e
  have h1 : 0 < (viewL p.now (seesL p.jobs x)).size := by
    unfold viewL
    rw [show p.now :: (seesL p.jobs x).flatMap viewJ = [p.now] ++ (seesL p.jobs x).flatMap viewJ from rfl, numsS_app, ByteArray.size_append]
    have : numsS [p.now] = putNum p.now := by unfold numsS; simp [ba_nil]
    rw [this]
    have := putNum_pos p.now
    omega
  rw [e] at h1
  exact absurd h1 (by decide)
/-! the four labels of FnBlind -/
abbrev bLow : Lab := ⟨0, 0⟩
abbrev bMid : Lab := ⟨1, 1⟩
abbrev bSide : Lab := ⟨1, 2⟩
abbrev bTop : Lab := ⟨2, 1⟩
def bP (y : Lab) : Bool := blw y bMid
def bQ (y : Lab) : Bool := sameL y bLow || sameL y bMid || sameL y bSide || sameL y bTop
theorem bQ_cases {y : Lab} (h : bQ y = true) : y = bLow ∨ y = bMid ∨ y = bSide ∨ y = bTop := by
  unfold bQ at h
  simp only [Bool.or_eq_true] at h
  rcases h with ((h | h) | h) | h
  · exact .inl (sameL_to h)
  · exact .inr (.inl (sameL_to h))
  · exact .inr (.inr (.inl (sameL_to h)))
  · exact .inr (.inr (.inr (sameL_to h)))
theorem b_sep : SepL bP bQ := by
  intro x y hx hy h1 h2
  rcases bQ_cases hx with rfl | rfl | rfl | rfl <;> rcases bQ_cases hy with rfl | rfl | rfl | rfl <;> revert h1 h2 <;> decide
theorem b_low : ∀ y, bQ y = true → blw y bLow = true → bP y = true := by
  intro y hy h
  rcases bQ_cases hy with rfl | rfl | rfl | rfl <;> revert h <;> decide
def bClear : List (List Lab) := [[bLow, bMid, bTop], [bLow, bMid], [bMid, bTop], [bLow, bSide], [bLow, bMid, bTop], [bSide]]
theorem bClear_R : clearR bClear = true := by decide +kernel
theorem b_start : newR bClear = (newP bClear, 0) ∧ Bl bP bQ (newP bClear) (newP bClear) ∧ (newP bClear).now = 0 :=
  ⟨newR_yes (by decide) bClear_R, ⟨newP_right bClear_R, newP_right bClear_R, rfl, rfl, rfl, fun j hj => by cases hj⟩, rfl⟩
/-- What one user does, to both pools. -/
theorem Bl.adv' {P Q : Lab → Bool} {a b : Pl} (h : Bl P Q a b) (hs : SepL P Q) (hn : a.now < 999900) : advR a = (advP a, 0, 0) ∧ advR b = (advP b, 0, 0) ∧ Bl P Q (advP a) (advP b) ∧ (advP a).now = a.now + 1 := by
  have h1 : ¬ a.now = 999900 := by omega
  have h2 : ¬ b.now = 999900 := by rw [h.nw]; omega
  exact ⟨advR_yes h.ra h1, advR_yes h.rb h2, h.adv hs h1, by unfold advP; rfl⟩
theorem subR_now {p : Pl} {x : Lab} {n l q : Int} (h : (subR p x n l q).2.2 = 0) : (subR p x n l q).1.now = p.now := by rw [(subR_yes' h).2]; rfl
theorem chR_now {p : Pl} {x : Lab} {id st : Int} (h : (chR p x id st).2.2 = 0) : (chR p x id st).1.now = p.now := by
  have h1 := (chR_right h).1
  by_cases hs : stOk st
  case neg => rw [chR_form (.inr hs)] at h; cases h
  rcases chR_found (x := x) (id := id) h1 hs with ⟨_, e⟩ | ⟨j, _, _, e⟩
  · rw [e] at h; cases h
  · rw [e] at h ⊢
    split
    · rename_i hc; rw [if_pos hc] at h; cases h
    · rfl
end Go.Proofs.Ytkhmdhdaldbbhaa
