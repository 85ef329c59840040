/- The draws' small steps: one, bytes, edge, l01Any. -/
import Derived.Test.YtkhmdhdaldbbhaaGreatKDR1
import Derived.Test.YtkhmdhdaldbbhaaGreatKBG
import Derived.Test.YtkhmdhdaldbbhaaGreatKVBC
import Derived.Test.YtkhmdhdaldbbhaaGreatKPA1
set_option maxRecDepth 100000
set_option linter.unusedVariables false
namespace Go.Proofs.YtkhmdhdaldbbhaaGreat
open Go.RowKit Go.Fin1

theorem Src.ext {w w' : World} {g : Nat} {cv : Value} {l : List Int} (h : Src w g cv l) (hx : Ext w w') : Src w' g cv l := by
  obtain ⟨⟨k, hk, h1⟩, h0, ⟨m, m0, m1, h2⟩, hf⟩ := h
  have ho := World.old_of_cell h0
  refine ⟨⟨k, hk, hx.cell h1⟩, hx.cell h0, ⟨m, m0, m1, hx.cell h2⟩, fun j => ?_⟩
  obtain ⟨X, rfl⟩ := hx
  rw [World.frozen?_plus _ _ _ _ ho]; exact hf j
theorem u8s_chg {S : List Nat} {w w' : World} {v : Value} {l : List Int} (h : SlR w 1 rU8 v l) (hx : Chg S w w') (hb : 0 < l.length → ∀ a n c, v = .slice (some a) n c → a.block ∉ S) : SlR w' 1 rU8 v l := by
  obtain ⟨a, cap, rfl, h1, h2, h3⟩ := h
  refine ⟨a, cap, rfl, h1, h2, fun i hi => ?_⟩
  obtain ⟨b, off, cs, rfl, hk, hc, hr⟩ := h3 i hi
  refine ⟨b, off, cs, rfl, hk, fun j u hu => ?_, hr⟩
  have hq := hc j u hu
  have hlt := World.block_lt_of_cell? w _ hq
  simp only [World.cell?, hx.block b hlt (hb (Nat.lt_of_le_of_lt (Nat.zero_le _) hi) _ _ _ rfl)] at hq ⊢
  exact hq
theorem u8s_past {S : List Nat} {w w' : World} {v : Value} {l : List Int} (h : SlR w 1 rU8 v l) (hx : Chg S w w') (hS : ∀ b ∈ S, w.heap.size ≤ b) : SlR w' 1 rU8 v l :=
  u8s_chg h hx fun h0 a n c e hb => by
    subst e
    obtain ⟨b, off, he⟩ := slr_some h h0
    simp at he
    subst he
    have h1 := (u8_at h h0).1
    have h2 := hS _ hb
    unfold World.old at h1
    simp at h2
    omega
/-- A source over its bytes, which lie elsewhere. -/
structure SrcA (w : World) (g : Nat) (cv : Value) (l : List Int) : Prop where
  src : Src w g cv l
  code : SlR w 1 rU8 cv l
  far : 0 < l.length → ∀ a n c, cv = .slice (some a) n c → a.block ≠ g
theorem SrcA.ext {w w' : World} {g : Nat} {cv : Value} {l : List Int} (h : SrcA w g cv l) (hx : Ext w w') : SrcA w' g cv l := ⟨h.src.ext hx, h.code.ext rU8_stable hx, h.far⟩
theorem SrcA.old {w : World} {g : Nat} {cv : Value} {l : List Int} (h : SrcA w g cv l) : g < w.heap.size := World.old_of_cell h.src.code
/-- The source stays where other blocks turn that are younger. -/
theorem SrcA.chg {S : List Nat} {w0 w w' : World} {g : Nat} {cv : Value} {l : List Int} (h : SrcA w g cv l) (h0 : SrcA w0 g cv l) (hx : Chg S w w') (hS : ∀ b ∈ S, w0.heap.size ≤ b) : SrcA w' g cv l := by
  have hg : g ∉ S := fun hb => by have := hS _ hb; have := h0.old; omega
  have hl := h.old
  have hc : ∀ j u, w.cell? ⟨g, j, none⟩ = some u → w'.cell? ⟨g, j, none⟩ = some u := fun j u hu => by
    simp only [World.cell?, hx.block g hl hg] at hu ⊢; exact hu
  refine ⟨?_, ?_, h.far⟩
  · obtain ⟨⟨k, hk, q1⟩, q0, ⟨m, m0, m1, q2⟩, hf⟩ := h.src
    refine ⟨⟨k, hk, hc _ _ q1⟩, hc _ _ q0, ⟨m, m0, m1, hc _ _ q2⟩, fun j => ?_⟩
    have := hf j
    simp only [World.frozen?, hx.block g hl hg] at this ⊢; exact this
  · obtain ⟨a, cap, rfl, h1, h2, h3⟩ := h.code
    refine ⟨a, cap, rfl, h1, h2, fun i hi => ?_⟩
    obtain ⟨b, off, cs, rfl, hk, hcc, hr⟩ := h3 i hi
    have hb0 : b < w0.heap.size := (u8_at h0.code hi).1
    refine ⟨b, off, cs, rfl, hk, fun j u hu => ?_, hr⟩
    have hq := hcc j u hu
    have hlt := World.block_lt_of_cell? w _ hq
    simp only [World.cell?, hx.block b hlt (fun hb => by have := hS _ hb; omega)] at hq ⊢
    exact hq

theorem srcN' (g : Nat) (most : Int) (w : World) (cv : Value) (l : List Int) (h : SrcA w g cv l) (hm : I64 most) :
    Calls Tryz.prog 57 #[.pointer (some ⟨g, 0, none⟩), (.int .i64 most)] w fun e w' => ∃ v : Nat, e = .returned (.int .i64 (v : Int)) ∧ ((v : Int) < most ∨ v = 0) ∧ Chg [g] w w' ∧ SrcA w' g cv l := by
  obtain ⟨h1, h2, h3⟩ := h
  refine (srcN_any g cv l most w h1 h2 h3 hm).mono ?_
  rintro e w' ⟨v, rfl, h0, hlt, hc, hs⟩
  refine ⟨v.toNat, by rw [Int.toNat_of_nonneg h0], by omega, hc, hs, u8s_chg h2 hc (fun h0 a n c e hb => h3 h0 a n c e (by simpa using hb)), h3⟩

set_option maxHeartbeats 400000 in
theorem srcOne_any (g : Nat) (most : Int) (w : World) (cv : Value) (l : List Int) (h : SrcA w g cv l) (hm : I64 most) :
    Calls Tryz.prog 56 #[.pointer (some ⟨g, 0, none⟩), (.int .i64 most)] w fun e w' => ∃ b : Bool, e = .returned (.bool b) ∧ Chg [g] w w' ∧ SrcA w' g cv l := by
  have HS := Lib.hid h
  have HM := Lib.hid hm
  clear h hm
  go_enter Tryz.func56, Tryz.ntmps56
  go_wp2_with fail
  refine (srcN' g most _ cv l HS.out HM.out).mono ?_
  rintro e w2 ⟨v, rfl, hb, hc, hs⟩
  have HC := Lib.hid hc
  have HS2 := Lib.hid hs
  clear hc hs hb
  go_wp2
  go_ret
  exact ⟨_, rfl, HC.out, HS2.out⟩

end Go.Proofs.YtkhmdhdaldbbhaaGreat
