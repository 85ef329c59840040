/- Kinds for regions that draw from a source. -/
import Derived.Test.YtkhmdhdaldbbhaaGreatKT5
import Derived.Test.YtkhmdhdaldbbhaaGreatKII
set_option maxRecDepth 100000
set_option linter.unusedVariables false
namespace Go.Proofs.YtkhmdhdaldbbhaaGreat
open Go.RowKit Go.Fin1
/-- What a draw does to its source. -/
def SrcR (g : Nat) (cv : Value) (l : List Int) (w w' : World) : Prop := Chg [g] w w' ∧ (SrcA w g cv l → SrcA w' g cv l)
theorem SrcR.trans {g : Nat} {cv : Value} {l : List Int} (a b c : World) (h : SrcR g cv l a b) (k : SrcR g cv l b c) : SrcR g cv l a c := ⟨h.1.trans k.1, fun x => k.2 (h.2 x)⟩
theorem SrcR.ext {g : Nat} {cv : Value} {l : List Int} {w w' : World} (h : Ext w w') : SrcR g cv l w w' := ⟨h.chg _, fun x => x.ext h⟩
theorem SrcR.of {g : Nat} {cv : Value} {l : List Int} {w w1 w2 : World} (h : Ext w w1) (hc : Chg [g] w1 w2) (hs : SrcA w2 g cv l) : SrcR g cv l w w2 := ⟨(h.chg _).trans hc, fun _ => hs⟩
def kI64 : XReg.Kind := fun v _ => ∃ n : Int, v = (.int .i64 n) ∧ I64 n
def kLt (m : Nat) : XReg.Kind := fun v _ => ∃ n : Nat, v = (.int .i64 (n : Int)) ∧ n < m
def kArr (g : Nat) (cs : List Value) (n : Nat) : XReg.Kind := fun v u => ∃ b, v = .slice (some ⟨b, 0, none⟩) n n ∧ b ≠ g ∧ Blk u b cs 2
def kPt (g : Nat) (cs : List Value) (n : Nat) : XReg.Kind := fun v u => ∃ b k, v = .pointer (some ⟨b, k, none⟩) ∧ k < n ∧ b ≠ g ∧ Blk u b cs 2
theorem kI64_good {R : World → World → Prop} : XReg.GoodKL R kI64 := ⟨fun _ _ _ _ h => h, (.int .i64 0), default, 0, rfl, by unfold I64; omega⟩
theorem kLt_good {R : World → World → Prop} {m : Nat} (hm : 0 < m) : XReg.GoodKL R (kLt m) := ⟨fun _ _ _ _ h => h, (.int .i64 0), default, 0, rfl, hm⟩
def emptyG (B : Nat) : World := { (default : World) with heap := Array.replicate B (.cells #[] 0) }
theorem emptyG_size (B : Nat) : (emptyG B).heap.size = B := by simp [emptyG]
theorem kArr_good {g : Nat} {cv : Value} {l : List Int} {cs : List Value} {n : Nat} : XReg.GoodKL (SrcR g cv l) (kArr g cs n) :=
  ⟨fun _ _ _ hx ⟨b, hv, hb, h⟩ => ⟨b, hv, hb, h.chg hx.1 (by simpa using hb)⟩, .slice (some ⟨(emptyG (g + 1)).heap.size, 0, none⟩) n n, _, _, rfl, by rw [emptyG_size]; omega, Blk.new (cs := cs.toArray) rfl⟩
theorem kPt_good {g : Nat} {cv : Value} {l : List Int} {cs : List Value} {n : Nat} (hn : 0 < n) : XReg.GoodKL (SrcR g cv l) (kPt g cs n) :=
  ⟨fun _ _ _ hx ⟨b, k, hv, hk, hb, h⟩ => ⟨b, k, hv, hk, hb, h.chg hx.1 (by simpa using hb)⟩, .pointer (some ⟨(emptyG (g + 1)).heap.size, 0, none⟩), _, _, 0, rfl, hn, by rw [emptyG_size]; omega, Blk.new (cs := cs.toArray) rfl⟩

theorem set2_chg (w : World) (g : Nat) (u v : Value) : Chg [g] w ((w.setCell ⟨g, 0, none⟩ u).setCell ⟨g, 1, none⟩ v) := ((Chg.refl _ _).setCell (.inl (by simp)) _).setCell (.inl (by simp)) _

end Go.Proofs.YtkhmdhdaldbbhaaGreat
