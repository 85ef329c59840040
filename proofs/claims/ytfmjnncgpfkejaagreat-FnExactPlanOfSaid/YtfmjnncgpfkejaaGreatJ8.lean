/- The walks of JobOf. -/
import Derived.Test.YtfmjnncgpfkejaaGreatJ7
set_option maxRecDepth 100000
set_option linter.unusedVariables false
namespace Go.Proofs.YtfmjnncgpfkejaaGreat
open Go.RowKit Go.Fin1

theorem findI_cases {α : Type} (p : α → Bool) (l : List α) : findI p l = -1 ∨ ∃ (k : Nat) (h : k < l.length), findI p l = k ∧ p l[k] = true := by
  unfold findI
  cases h : l.any p
  · exact .inl rfl
  · obtain ⟨x, hx, hp⟩ := List.any_eq_true.1 h
    have hlt : l.findIdx p < l.length := List.findIdx_lt_length.2 ⟨x, hx, hp⟩
    exact .inr ⟨l.findIdx p, hlt, rfl, List.findIdx_getElem⟩
def zJb : Jb := ⟨⟨0, 0⟩, 0, 0, 0, 0, 0, 0, []⟩
@[irreducible] def jobOf (l : List Jb) (x : Lab) (id : Int) : Jb := if jobsR l = true ∧ 0 ≤ posJ l x id then l.getD (posJ l x id).toNat zJb else zJb
theorem jobOf_no {l : List Jb} {x : Lab} {id : Int} (h : jobsR l = false ∨ posJ l x id = -1) : jobOf l x id = zJb := by
  unfold jobOf; rw [if_neg]
  rintro ⟨h1, h2⟩
  rcases h with h | h
  · rw [h1] at h; cases h
  · omega
theorem jobOf_yes {l : List Jb} {x : Lab} {id : Int} {k : Nat} (h : jobsR l = true) (hk : k < l.length) (hp : posJ l x id = k) : jobOf l x id = l[k] := by
  unfold jobOf; rw [if_pos ⟨h, by omega⟩, hp]; simp [hk]
theorem zJb_fit : zJb.fit := ⟨by unfold Jb.ok zJb Lab.ok I64; simp, fun x hx => by cases hx⟩
theorem jobOf_fit {l : List Jb} (h : ∀ j ∈ l, j.fit) (x : Lab) (id : Int) : (jobOf l x id).fit := by
  unfold jobOf
  split
  · rw [List.getD_eq_getElem?_getD]
    cases hg : l[(posJ l x id).toNat]? with
    | none => exact zJb_fit
    | some j => exact h j (List.mem_of_getElem? hg)
  · exact zJb_fit
theorem jobOf_len {l : List Jb} (h : ∀ j ∈ l, j.nodes.length ≤ 1048576) (x : Lab) (id : Int) : (jobOf l x id).nodes.length ≤ 1048576 := by
  unfold jobOf
  split
  · rw [List.getD_eq_getElem?_getD]
    cases hg : l[(posJ l x id).toNat]? with
    | none => exact Nat.zero_le _
    | some j => exact h j (List.mem_of_getElem? hg)
  · exact Nat.zero_le _
theorem own_nil (B : Nat) (w : World) : Own B w oIntS [] [.slice none 0 0] [] := ⟨⟨_, rfl, .inl ⟨rfl, rfl, rfl⟩⟩, List.nodup_nil, fun b hb => by cases hb⟩


end Go.Proofs.YtfmjnncgpfkejaaGreat
