/- The laws' mark and held over jobs. -/
import Derived.Test.YtfmjnncgpfkejaaGreatE3
import Derived.Test.YtfmjnncgpfkejaaGreatJ4
set_option maxRecDepth 100000
set_option linter.unusedVariables false
namespace Go.Proofs.YtfmjnncgpfkejaaGreat
open Go.RowKit Go.Fin1

def mkJb (k : Nat) (j : Jb) : Jb := ⟨⟨k, ((k + 1 : Nat) : Int)⟩, ((k + 2 : Nat) : Int), ((k + 3 : Nat) : Int), ((k + 4 : Nat) : Int), ((k + 5 : Nat) : Int), ((k + 6 : Nat) : Int), ((k + 7 : Nat) : Int), mkInts (k + 8) j.nodes⟩
def wJb (j : Jb) : Nat := 8 + wL (fun _ : Int => 1) j.nodes
abbrev mkJbs : Nat → List Jb → List Jb := mkL mkJb wJb
theorem wJb_le {l : List Jb} (h : szL Jb.sz l ≤ 1048576) : wL wJb l ≤ 16 * 1048576 := by
  have key : ∀ l : List Jb, wL wJb l = 8 * l.length + (l.map Jb.sz).sum := fun l => by
    induction l with
    | nil => rfl
    | cons x l ih =>
      rw [wL_cons, ih, List.map_cons, List.sum_cons, List.length_cons]
      unfold wJb Jb.sz
      rw [wL_const]; omega
  unfold szL at h
  rw [key]; omega

set_option maxHeartbeats 1600000 in
theorem markJobS_any (v : Value) (l : List Jb) (k0 : Nat) (fp : List Nat) (w : World) (h : oSl 64 9 oJob w fp [v] l) (hn : fp.Nodup) (hb : k0 + wL wJb l ≤ 4611686018427387904) :
    Calls Tryz.prog 31 #[v, (.int .i64 (k0 : Int))] w fun e w' => e = .returned (.int .i64 ((k0 + wL wJb l : Nat) : Int)) ∧ Chg fp w w' ∧ oSl 64 9 oJob w' fp [v] (mkJbs k0 l) := by
  obtain ⟨a, cap, rfl, hcm, hlc⟩ := oSl_shape h
  have hlm : l.length ≤ 9223372036854775807 := by unfold maxLen at hcm; omega
  clear hcm hlc
  have HN := Lib.hid hn
  have HS := Lib.hid h
  clear h hn
  go_enter Tryz.func31, Tryz.ntmps31
  go_wp2
  go_loopw [1, 5] (fun q i wr => ∃ n : Nat, n ≤ l.length ∧ i = .int .i64 n ∧ q = (.int .i64 ((k0 + wL wJb (l.take n) : Nat) : Int)) ∧ Chg fp w wr ∧ Hid (oSl 64 9 oJob wr fp [.slice a l.length cap] (mkN mkJb wJb k0 l n))) (fun _ i _ => l.length - (intOf i).toNat)
  case atStart => exact ⟨0, Nat.zero_le _, rfl, rfl, Chg.refl _ _, Lib.hid (by rw [mkN_zero]; exact HS.out)⟩
  case round =>
    obtain ⟨n, hle, rfl, rfl, HC, HO⟩ := hrel
    by_cases hlt : n < l.length
    · have hlt' : n < (mkN mkJb wJb k0 l n).length := by rw [mkN_len]; exact hlt
      obtain ⟨g, cap', hv⟩ := oSl_slice HO.out hlt'
      obtain ⟨rfl, hx1, rfl⟩ : a = some ⟨g, 0, none⟩ ∧ l.length = (mkN mkJb wJb k0 l n).length ∧ cap = cap' := by simpa using hv
      clear hv hx1
      obtain ⟨fi, cs, hog, hfz, hcl, hc, hoe, hnd, hgf, hsub, hg, HU⟩ := oSl_at3 oJob_local oJob_held HO.out HN.out hlt'
      rw [mkN_at mkJb wJb k0 hlt] at hoe
      obtain ⟨ve, rfl, hoi⟩ := hoe
      obtain ⟨ae, ce, rfl, _, _⟩ := oSl_shape hoi
      have d0 := hc 0 _ rfl
      have d1 := hc 1 _ rfl
      have d2 := hc 2 _ rfl
      have d3 := hc 3 _ rfl
      have d4 := hc 4 _ rfl
      have d5 := hc 5 _ rfl
      have d6 := hc 6 _ rfl
      have d7 := hc 7 _ rfl
      have d8 := hc 8 _ rfl
      rw [Nat.add_zero] at d0
      have HU2 := Lib.hid HU
      have HE := Lib.hid hoi
      have hw := wL_lt wJb hlt
      have hw2 := Lib.hid (wL_step wJb hlt)
      have HSET := Lib.hid (mkN_set mkJb wJb k0 hlt)
      clear HU hc hoi hcl
      have hw3 : wL wJb (l.take n) + (8 + wL (fun _ : Int => 1) l[n].nodes) ≤ wL wJb l := hw
      generalize hs : wL wJb (l.take n) = s at hw hw2 hw3 HSET ⊢
      clear hs
      go_wp2_with fail
      have hz : ((k0 : Int) + s + 1 + 1 + 1 + 1 + 1 + 1 + 1 + 1) = ((k0 + s + 8 : Nat) : Int) := by omega
      rw [hz]
      clear hz
      generalize hW8 : ((((((((wr.setCell ⟨g, n * 9, none⟩ (.int .i64 ((k0 : Int) + s))).setCell ⟨g, n * 9 + 1, none⟩ (.int .i64 ((k0 : Int) + s + 1))).setCell ⟨g, n * 9 + 2, none⟩ (.int .i64 ((k0 : Int) + s + 1 + 1))).setCell ⟨g, n * 9 + 3, none⟩ (.int .i64 ((k0 : Int) + s + 1 + 1 + 1))).setCell ⟨g, n * 9 + 4, none⟩ (.int .i64 ((k0 : Int) + s + 1 + 1 + 1 + 1))).setCell ⟨g, n * 9 + 5, none⟩ (.int .i64 ((k0 : Int) + s + 1 + 1 + 1 + 1 + 1))).setCell ⟨g, n * 9 + 6, none⟩ (.int .i64 ((k0 : Int) + s + 1 + 1 + 1 + 1 + 1 + 1))).setCell ⟨g, n * 9 + 7, none⟩ (.int .i64 ((k0 : Int) + s + 1 + 1 + 1 + 1 + 1 + 1 + 1))) = W8
      have hLay : W8 = wr.layCells g (n * 9) [(.int .i64 ((k0 : Int) + s)), (.int .i64 ((k0 : Int) + s + 1)), (.int .i64 ((k0 : Int) + s + 1 + 1)), (.int .i64 ((k0 : Int) + s + 1 + 1 + 1)), (.int .i64 ((k0 : Int) + s + 1 + 1 + 1 + 1)), (.int .i64 ((k0 : Int) + s + 1 + 1 + 1 + 1 + 1)), (.int .i64 ((k0 : Int) + s + 1 + 1 + 1 + 1 + 1 + 1)), (.int .i64 ((k0 : Int) + s + 1 + 1 + 1 + 1 + 1 + 1 + 1))] := hW8.symm
      clear hW8
      have hC8 : Chg [g] wr W8 := by rw [hLay]; exact layCells_chg _ _ _ _
      have HL8 := Lib.hid hLay
      have HC8 := Lib.hid hC8
      clear hLay hC8
      refine (markInt64S_any _ l[n].nodes (k0 + s + 8) fi W8 (oIntS_local.chg oIntS_held HC8.out (fun b hb hbg => by simp at hbg; subst hbg; exact hgf hb) HE.out) hnd (by omega)).mono ?_
      rintro e w2 ⟨rfl, hx, ho2⟩
      have HX := Lib.hid hx
      have HO2 := Lib.hid ho2
      clear hx ho2
      go_wp2
      have hsub8 : Chg fp wr W8 := HC8.out.mono (fun b hb => by simp at hb; subst hb; exact hg)
      refine ⟨⟨n + 1, by omega, by go_num, (by rw [hw2.out]; show Value.int _ _ = Value.int _ _; congr 1; unfold wJb; omega), HC.trans (hsub8.trans (HX.out.mono hsub)), Lib.hid (by
        rw [← HSET.out]
        refine HU2.out w2 [(.int .i64 ((k0 : Int) + s)), (.int .i64 ((k0 : Int) + s + 1)), (.int .i64 ((k0 : Int) + s + 1 + 1)), (.int .i64 ((k0 : Int) + s + 1 + 1 + 1)), (.int .i64 ((k0 : Int) + s + 1 + 1 + 1 + 1)), (.int .i64 ((k0 : Int) + s + 1 + 1 + 1 + 1 + 1)), (.int .i64 ((k0 : Int) + s + 1 + 1 + 1 + 1 + 1 + 1)), (.int .i64 ((k0 : Int) + s + 1 + 1 + 1 + 1 + 1 + 1 + 1))] _ (by show 8 ≤ 9; decide) ?_ ?_ ?_
        · rw [← HL8.out]
          exact HX.out.block g (Nat.lt_of_lt_of_le hog HC8.out.size) hgf
        · exact (HC8.out.mono (fun b hb => by simp at hb; simp [hb])).trans (HX.out.mono fun b hb => List.mem_cons_of_mem _ hb)
        · refine ⟨_, ?_, HO2.out⟩
          simp [Jb.cells, mkJb]
          omega)⟩, by simp [intOf]; omega⟩
    · go_wp2
      obtain rfl : n = l.length := by omega
      have hO := HO.out
      rw [mkN_all] at hO
      go_ret
      exact ⟨ret_int (by rw [List.take_length]), HC, hO⟩


end Go.Proofs.YtfmjnncgpfkejaaGreat
