/- The laws of calls that hand back pools. -/
import Derived.Test.YtfkjdiaeblcimaaZC
import Derived.Test.YtfkjdiaeblcimaaZB
import Derived.Test.YtfkjdiaeblcimaaZ5
set_option maxRecDepth 100000
set_option linter.unusedVariables false
namespace Go
open Go.RowKit
/-- The blocks of what is owned bear these types. -/
def Typed {α : Type} (o : Ow α) (T : List TypeId) : Prop := ∀ w fp cs x, o w fp cs x → ∀ b ∈ fp, ∃ cur t, w.heap[b]? = some (.cells cur t (0, 0)) ∧ t ∈ T
theorem oFlat_typed {α : Type} (f : α → List Value) : Typed (oFlat f) [] := fun w fp cs x h b hb => by rw [h.1] at hb; cases hb
theorem oSl_typed {α : Type} {ty K : Nat} {o : Ow α} {T : List TypeId} (h : Typed o T) : Typed (oSl ty K o) (ty :: T) := by
  rintro w fp cs xs ⟨v, hcs, h1⟩ b hb
  rcases h1 with ⟨_, _, rfl⟩ | ⟨g, cap, cur, fps, hv, hg, hsz, hl, hm, hf, rfl, h2⟩
  · cases hb
  · rcases List.mem_cons.1 hb with rfl | hb
    · exact ⟨cur, ty, hg, by simp⟩
    · obtain ⟨fi, hfi, hbf⟩ := List.mem_flatten.1 hb
      obtain ⟨i, hi, rfl⟩ := List.getElem_of_mem hfi
      obtain ⟨cur', t, h3, h4⟩ := h _ _ _ _ (h2 i (by omega) _ (List.getElem?_eq_getElem hi)) b hbf
      exact ⟨cur', t, h3, List.mem_cons_of_mem _ h4⟩
theorem Typed.apart {α : Type} {o : Ow α} {T : List TypeId} (h : Typed o T) {w : World} {fp : List Nat} {cs : List Value} {x : α} (ho : o w fp cs x) {g : Nat} {cur : Array Value} {t : TypeId} (hg : w.heap[g]? = some (.cells cur t (0, 0))) (ht : t ∉ T) : g ∉ fp := fun hb => by
  obtain ⟨cur', t', h1, h2⟩ := h _ _ _ _ ho g hb
  rw [hg] at h1
  simp at h1
  exact ht (h1.2 ▸ h2)
end Go
namespace Go.Proofs.Ytfkjdiaeblcimaa
open Go.RowKit Go.Fin1
theorem oJobS_typed : Typed oJobS [100, 2] := oSl_typed (o := oJob) (fun w fp cs x ⟨v, _, h⟩ => oSl_typed (oFlat_typed _) w fp _ _ h)
theorem oLabelSS_typed : Typed oLabelSS [147, 35] := oSl_typed (oSl_typed (oFlat_typed _))
theorem OwnP.box {B : Nat} {w : World} {fc fj : List Nat} {c j : Value} {p : Pl} (h : OwnP B w fc fj c j p) {g : Nat} {cur : Array Value} (hg : w.heap[g]? = some (.cells cur 49 (0, 0))) : g ∉ fc ∧ g ∉ fj :=
  ⟨oLabelSS_typed.apart h.1.1 hg (by decide), oJobS_typed.apart h.2.1.1 hg (by decide)⟩
theorem OwnP.far {B : Nat} {w w' : World} {S fc fj : List Nat} {c j : Value} {p : Pl} (h : OwnP B w fc fj c j p) (hx : Chg S w w') (hd : ∀ b ∈ fc ++ fj, b ∉ S) : OwnP B w' fc fj c j p :=
  ⟨h.1.far oLabelSS_local oLabelSS_held hx (fun b hb => hd b (List.mem_append_left _ hb)), h.2.1.far oJobS_local oJobS_held hx (fun b hb => hd b (List.mem_append_right _ hb)), h.2.2⟩
/-- A pool that can be laid. -/
structure PlFit (p : Pl) : Prop where
  c1 : p.clear.length ≤ maxLen
  c2 : ∀ x ∈ p.clear, x.length ≤ maxLen
  j1 : p.jobs.length ≤ maxLen
  j2 : ∀ j ∈ p.jobs, j.nodes.length ≤ maxLen
theorem PlFit.can {p : Pl} (h : PlFit p) (B : Nat) : ∃ w a c b d fc fj, OwnP B w fc fj (.slice a p.clear.length c) (.slice b p.jobs.length d) p := by
  obtain ⟨w1, a, c, fc, hx1, hO1⟩ := own_can (ty := 147) (oSl_local (oFlat_local _)) (oSl_held (oFlat_held _)) (fun y hy => canLabS (h.c2 y hy)) h.c1 (emptyH B)
  obtain ⟨w2, b, d, fj, hx2, hO2⟩ := own_can (ty := 100) oJob_local oJob_held (fun y hy => canO_job (h.j2 y hy)) h.j1 w1
  rw [emptyH_size] at hO1
  have hs := hx1.below.size
  rw [emptyH_size] at hs
  refine ⟨w2, a, c, b, d, fc, fj, hO1.ext oLabelSS_local oLabelSS_held hx2, hO2.mono hs, fun q hq hq2 => ?_⟩
  have h1 := oLabelSS_held _ _ _ _ hO1.1 q hq
  have h2 := hO2.2.2 q hq2
  omega
/-- An answer whose pool lies in memory of its own from B on. -/
def kOutO (B : Nat) (p : Pl) (id c : Int) : XReg.Kind := fun v w => ∃ a e b d fc fj, v = poV p id c (.slice a p.clear.length e) (.slice b p.jobs.length d) ∧ OwnP B w fc fj (.slice a p.clear.length e) (.slice b p.jobs.length d) p
theorem kOutO_good {B : Nat} {p : Pl} {id c : Int} (h : PlFit p) : XReg.GoodK (kOutO B p id c) :=
  ⟨fun v w w' hx ⟨a, e, b, d, fc, fj, hv, hO⟩ => ⟨a, e, b, d, fc, fj, hv, hO.ext hx⟩, by
    obtain ⟨w, a, e, b, d, fc, fj, hO⟩ := h.can B
    exact ⟨_, w, a, e, b, d, fc, fj, rfl, hO⟩⟩
theorem kOutO_in {B : Nat} {p : Pl} {id c : Int} {w : World} {fc fj : List Nat} {cv jv : Value} (h : OwnP B w fc fj cv jv p) : kOutO B p id c (poV p id c cv jv) w := by
  obtain ⟨a, e, rfl⟩ := h.1.shape
  obtain ⟨b, d, rfl⟩ := h.2.1.shape
  exact ⟨a, e, b, d, fc, fj, rfl, h⟩
theorem kOutO_out {B : Nat} {p : Pl} {id c : Int} {w : World} {cv jv : Value} (h : kOutO B p id c (.agg #[cv, jv, (.int .i64 p.now), (.int .i64 id), (.int .i64 c)]) w) : ∃ fc fj, OwnP B w fc fj cv jv p := by
  obtain ⟨a, e, b, d, fc, fj, hv, h⟩ := h
  unfold poV at hv
  simp at hv
  obtain ⟨rfl, rfl⟩ := hv
  exact ⟨fc, fj, h⟩
theorem subR_ok {p : Pl} {x : Lab} {need long prio : Int} (hp : PlOk p) (hf : p.fits 1048576) (hx : x.ok) (h1 : I64 need) (h2 : I64 long) (h3 : I64 prio) : PlOk (subR p x need long prio).1 ∧ PlFit (subR p x need long prio).1 ∧ wPl (subR p x need long prio).1 ≤ 64 * 1048576 := by
  have z : I64 0 := by unfold I64; omega
  have zz : PlOk zPl ∧ PlFit zPl ∧ wPl zPl ≤ 64 * 1048576 := ⟨PlOk.zero 0 z, ⟨Nat.zero_le _, (fun x hx => by cases hx), Nat.zero_le _, (fun x hx => by cases hx)⟩, by show 0 + 0 ≤ _; omega⟩
  cases q1 : poolR p
  · rw [subR_form (.inl q1)]; exact zz
  cases q2 : jobR (subJ x 1 need long prio)
  · rw [subR_form (.inr q2)]; exact zz
  by_cases q3 : (clN p.clear x p.clear.length : Int) < need
  · rw [subR_lab q1 q2 q3]; exact zz
  by_cases q4 : (3 : Int) < (cntL p.jobs x : Int) + 1
  · rw [subR_full q1 q2 q3 q4]; exact zz
  rw [subR_yes q1 q2 q3 q4]
  have hlc : p.clear.length ≤ 1048576 := Nat.le_trans (szL_len List.length _) hf.1
  have hlj : p.jobs.length ≤ 1048576 := Nat.le_trans (szL_len Jb.sz _) (Nat.le_trans hf.2 (Nat.sub_le _ _))
  have hsj : szL Jb.sz p.jobs ≤ 1048576 := Nat.le_trans hf.2 (Nat.sub_le _ _)
  have hm : (1048576 : Nat) ≤ maxLen := by unfold maxLen; omega
  have hid : I64 ((cntL p.jobs x : Int) + 1) := by have := cntL_le p.jobs x; unfold I64; omega
  refine ⟨⟨hp.now, hp.cl, fun j hj => ?_⟩, ⟨Nat.le_trans hlc hm, fun y hy => ?_, ?_, fun j hj => ?_⟩, ?_⟩
  · rcases List.mem_append.1 hj with hj | hj
    · exact hp.jb j hj
    · simp at hj; subst hj
      exact ⟨subJ_ok hx h1 h2 h3 hid, fun n hn => by cases hn⟩
  · obtain ⟨q, hq, rfl⟩ := List.mem_iff_getElem.1 hy
    exact Nat.le_trans (Nat.le_trans (szL_at List.length hq) hf.1) hm
  · show (p.jobs ++ [_]).length ≤ maxLen
    rw [List.length_append]; unfold maxLen; simp; omega
  · rcases List.mem_append.1 hj with hj | hj
    · obtain ⟨q, hq, rfl⟩ := List.mem_iff_getElem.1 hj
      exact Nat.le_trans (Nat.le_trans (szL_at Jb.sz hq) hsj) hm
    · simp at hj; subst hj; exact Nat.zero_le _
  · have e1 := wL_spans hf.1
    have e2 := wJb_le hsj
    have e3 : ∀ l : List Jb, wL wJb (l ++ [subJ x ((cntL p.jobs x : Int) + 1) need long prio]) = wL wJb l + 8 := fun l => by
      induction l with
      | nil => rfl
      | cons a l ih => rw [List.cons_append, wL_cons, ih, wL_cons]; omega
    show wL (wL (fun _ : Lab => 2)) p.clear + wL wJb (p.jobs ++ [_]) ≤ _
    rw [e3]; omega
end Go.Proofs.Ytfkjdiaeblcimaa
