/- Plain maths of FnRoom: four cases, by computation. -/
import Derived.Test.YtagdkpcdagknlaaRRC
import Derived.Test.YtagdkpcdagknlaaPGM
import Derived.Test.YtagdkpcdagknlaaJE
import Derived.Test.YtagdkpcdagknlaaVF
set_option maxRecDepth 100000
set_option linter.unusedVariables false
namespace Go.Proofs.Ytagdkpcdagknlaa
open Go.RowKit Go.Fin1
abbrev lowL : Lab := ⟨0, 0⟩
abbrev highL : Lab := ⟨1, 0⟩
def rmC : List (List Lab) := [[lowL, highL], [lowL, highL]]
def rm0 : Pl := newP rmC
def rmA : Pl := (subR rm0 highL 2 9 1).1
def rmB : Pl := (advR rmA).1
def rmC2 (n : Int) : Pl := (subR rmB lowL 1 n 0).1
def rmD (n : Int) : Pl := (advR (rmC2 n)).1
def rmI (p : Pl) : Nat → Pl
  | 0 => p
  | k + 1 => (advR (rmI p k)).1
def rmE (n : Int) : Pl := rmI (rmD n) n.toNat
def roomB (n : Int) : Bool :=
  (subR rmB lowL 1 n 0).2.2 == 0 && (advR (rmC2 n)).2.2 == 0 &&
  (jobOf (rmD n).jobs highL 1).state == 1 && (jobOf (rmD n).jobs lowL 1).state == 2 &&
  (planP (rmD n)).length == 2 && ((planP (rmD n)).getD 1 ⟨lowL, 0, 0, []⟩).start == 2 + n &&
  (List.range (n.toNat + 1)).all (fun k => poolR (rmI (rmD n) k)) &&
  (jobOf (rmE n).jobs lowL 1).state == 3 && (jobOf (rmE n).jobs highL 1).state == 2 && (jobOf (rmE n).jobs highL 1).start == 2 + n &&
  (chR (rmE n) highL 1 4).2.2 == 0 && (planP (chR (rmE n) highL 1 4).1).length == 0
def roomA : Bool := clearR rmC && (subR rm0 highL 2 9 1).2.2 == 0 && (advR rmA).2.2 == 0 && (jobOf rmB.jobs highL 1).state == 2 && (viewS rmB lowL).data.toList == (viewS (advR rm0).1 lowL).data.toList && poolR (advR rm0).1
theorem roomA_yes : roomA = true := by decide +kernel
theorem roomB_yes : ∀ k : Nat, k < 4 → roomB (2 + (k : Int)) = true := by decide +kernel
theorem trip {x : Pl × Int × Int} (h : x.2.2 = 0) : x = (x.1, x.2.1, 0) := by obtain ⟨a, b, c⟩ := x; simp only at h; rw [h]
theorem adv_trip {p : Pl} (h : (advR p).2.2 = 0) : advR p = ((advR p).1, 0, 0) ∧ poolR p = true ∧ poolR (advR p).1 = true := by
  cases q1 : poolR p
  · rw [advR_form q1] at h; cases h
  · by_cases q2 : p.now = 999900
    · rw [advR_full q1 q2] at h; cases h
    · rw [advR_yes q1 q2]; exact ⟨rfl, rfl, advP_right q1 q2⟩
/-- All that FnRoom's walk wants to know. -/
theorem room_facts (k : Nat) (hk : k < 4) : ∃ (P0 PA PB PC PD PN : Pl) (ia ic : Int),
    newR rmC = (P0, 0) ∧ subR P0 highL 2 9 1 = (PA, ia, 0) ∧ advR PA = (PB, 0, 0) ∧ subR PB lowL 1 (2 + (k : Int)) 0 = (PC, ic, 0) ∧ advR PC = (PD, 0, 0) ∧ advR P0 = (PN, 0, 0) ∧
    (poolR P0 = true ∧ poolR PA = true ∧ poolR PB = true ∧ poolR PC = true ∧ poolR PD = true ∧ poolR PN = true) ∧
    ((jobOf PB.jobs highL 1).state = 2 ∧ (jobOf PD.jobs highL 1).state = 1 ∧ (jobOf PD.jobs lowL 1).state = 2) ∧
    ((planP PD).length = 2 ∧ ((planP PD).getD 1 ⟨lowL, 0, 0, []⟩).start = 2 + (2 + (k : Int)) ∧ viewS PB lowL = viewS PN lowL) ∧
    (∀ i, i ≤ 2 + k → poolR (rmI PD i) = true) ∧
    ((jobOf (rmI PD (2 + k)).jobs lowL 1).state = 3 ∧ (jobOf (rmI PD (2 + k)).jobs highL 1).state = 2 ∧ (jobOf (rmI PD (2 + k)).jobs highL 1).start = 2 + (2 + (k : Int))) ∧
    ∃ (PH : Pl) (ih : Int), chR (rmI PD (2 + k)) highL 1 4 = (PH, ih, 0) ∧ poolR PH = true ∧ (planP PH).length = 0 := by
  have hA := roomA_yes
  have hB := roomB_yes k hk
  have hn : (2 + (k : Int)).toNat = 2 + k := by omega
  unfold roomA at hA
  unfold roomB rmE at hB
  rw [hn] at hB
  simp only [Bool.and_eq_true, beq_iff_eq, List.all_eq_true] at hA hB
  obtain ⟨⟨⟨⟨⟨a1, a2⟩, a3⟩, a4⟩, a5⟩, a6⟩ := hA
  obtain ⟨⟨⟨⟨⟨⟨⟨⟨⟨⟨⟨b1, b2⟩, b3⟩, b4⟩, b5⟩, b6⟩, b7⟩, b8⟩, b9⟩, b10⟩, b11⟩, b12⟩ := hB
  have h0 : newR rmC = (rm0, 0) := newR_yes (by decide) a1
  have s1 := subR_right a2
  have s2 := adv_trip (p := rmA) a3
  have s3 := subR_right b1
  have s4 := adv_trip (p := rmC2 (2 + (k : Int))) b2
  have s5 := chR_right b11
  refine ⟨rm0, rmA, rmB, rmC2 (2 + (k : Int)), rmD (2 + (k : Int)), (advR rm0).1, (subR rm0 highL 2 9 1).2.1, (subR rmB lowL 1 (2 + (k : Int)) 0).2.1, h0, trip a2, s2.1, trip b1, s4.1, (by rw [advR_yes s1.1 (by show ¬ (0 : Int) = 999900; decide)]), ⟨s1.1, s1.2, s2.2.2, s3.2, s4.2.2, a6⟩, ⟨a4, b3, b4⟩, ⟨b5, b6, ?_⟩, fun i hi => b7 i (List.mem_range.2 (by omega)), ⟨b8, b9, b10⟩, _, _, trip b11, s5.2, b12⟩
  exact ByteArray.ext (Array.ext' a5)
end Go.Proofs.Ytagdkpcdagknlaa
