/- The walks of EntryBytes. -/
import Derived.Test.YtagdkpcdagknlaaGreatKW8
import Derived.Test.YtagdkpcdagknlaaGreatKPN
import Derived.Test.YtagdkpcdagknlaaGreatKBA
import Derived.Test.YtagdkpcdagknlaaGreatKBG
import Derived.Test.YtagdkpcdagknlaaGreatKW2b
set_option maxRecDepth 100000
namespace Go.Proofs.YtagdkpcdagknlaaGreat
open Go.RowKit Go.Fin1

theorem sl_six (w : World) (a b c d e f : Int) (ha : I64 a) (hb : I64 b) (hc : I64 c) (hd : I64 d) (he : I64 e) (hf : I64 f) :
    SlR (w.alloc (.cells #[(.int .i64 a), (.int .i64 b), (.int .i64 c), (.int .i64 d), (.int .i64 e), (.int .i64 f)] 2)) 1 rInt (.slice (some ⟨w.heap.size, 0, none⟩) 6 6) [a, b, c, d, e, f] := by
  refine ⟨_, 6, rfl, Nat.le_refl 6, by decide, fun i hi => ?_⟩
  have hi' : i < 6 := hi
  refine ⟨w.heap.size, 0, [(.int .i64 ([a, b, c, d, e, f][i]))], rfl, rfl, fun j u hu => ?_, rfl, ?_⟩
  · cases j with
    | succ j => simp at hu
    | zero =>
      simp only [List.getElem?_cons_zero, Option.some.injEq] at hu
      subst hu
      have : i = 0 ∨ i = 1 ∨ i = 2 ∨ i = 3 ∨ i = 4 ∨ i = 5 := by omega
      rcases this with rfl | rfl | rfl | rfl | rfl | rfl <;> simp [go_sem]
  · have : i = 0 ∨ i = 1 ∨ i = 2 ∨ i = 3 ∨ i = 4 ∨ i = 5 := by omega
    rcases this with rfl | rfl | rfl | rfl | rfl | rfl <;> assumption

@[irreducible] def entB (x : Ent) : ByteArray := if entR x then sealS (numsS [x.k, x.l.lv, x.l.st, x.a, x.b, x.c]) else ⟨#[]⟩
theorem numsS_six (a b c d e f : Int) : putNum a ++ putNum b ++ putNum c ++ putNum d ++ putNum e ++ putNum f = numsS [a, b, c, d, e, f] := by
  have : (ByteArray.mk #[]) ++ putNum a = putNum a := by ext1; simp [ByteArray.data_append]
  simp only [numsS, List.foldl_cons, List.foldl_nil, this]

set_option maxHeartbeats 800000 in
theorem implEntryBytes_any (x : Ent) (w : World) (hx : x.ok) :
    Calls Tryz.prog 37 #[x.val] w fun e w' => e = .returned (.string (entB x)) ∧ Ext w w' := by
  obtain ⟨k, ⟨lv, st⟩, a, b, c⟩ := x
  obtain ⟨h1, ⟨h2, h3⟩, h4, h5, h6⟩ := hx
  unfold Ent.val entB
  have hsz : (numsS [k, lv, st, a, b, c]).size ≤ maxLen := by
    have := numsS_size [k, lv, st, a, b, c] 6 (Nat.le_refl 6)
    simp only [List.take_succ_cons, List.take_nil] at this
    unfold maxLen; omega
  cases hr : entR ⟨k, ⟨lv, st⟩, a, b, c⟩
  · go_enter Tryz.func37, Tryz.ntmps37
    go_wp2_with ((go_at_call 46; refine (implEntryRight_any _ _ _ _ _ _ _).mono ?_; rintro e _ ⟨rfl, X, rfl⟩))
    go_ret
    exact ⟨rfl, xt⟩
  · go_enter Tryz.func37, Tryz.ntmps37
    go_wp2_with ((go_at_call 46; refine (implEntryRight_any _ _ _ _ _ _ _).mono ?_; rintro e _ ⟨rfl, X, rfl⟩))
    have hS := sl_six ((w.alloc (.cells #[(.int .i64 k), (.int .i64 lv), (.int .i64 st), (.int .i64 a), (.int .i64 b), (.int .i64 c)] 64)).plus X) k lv st a b c h1 h2 h3 h4 h5 h6
    rw [show ((w.alloc (.cells #[(.int .i64 k), (.int .i64 lv), (.int .i64 st), (.int .i64 a), (.int .i64 b), (.int .i64 c)] 64)).plus X).heap.size = w.heap.size + 1 + X.n by simp [go_sem]] at hS
    refine (putNums_any _ _ _ hS (by show 6 ≤ 1048576; decide)).mono ?_
    rintro e _ ⟨rfl, Y, rfl⟩
    clear hS
    go_wp2_with ((go_at_call 108; refine (implSeal_any _ _ hsz).mono ?_; rintro e _ ⟨rfl, X, rfl⟩))
    go_ret
    exact ⟨rfl, xt⟩

set_option maxHeartbeats 800000 in
theorem l07Bytes_any (k lv st a b c : Int) (w : World) (h1 : I64 k) (h2 : I64 lv) (h3 : I64 st) (h4 : I64 a) (h5 : I64 b) (h6 : I64 c) :
    Calls Tryz.prog 114 #[.agg #[(.int .i64 k), (.int .i64 lv), (.int .i64 st), (.int .i64 a), (.int .i64 b), (.int .i64 c)]] w fun e w' => e = .returned (.string (sealS (numsS [k, lv, st, a, b, c]))) ∧ Ext w w' := by
  have z1 := putNum_size k
  have z2 := putNum_size lv
  have z3 := putNum_size st
  have z4 := putNum_size a
  have z5 := putNum_size b
  have z6 := putNum_size c
  have hn := Lib.hid (numsS_six k lv st a b c)
  have hsz : (putNum k ++ putNum lv ++ putNum st ++ putNum a ++ putNum b ++ putNum c).size ≤ maxLen := by
    simp only [ByteArray.size_append]; unfold maxLen; omega
  go_enter Tryz.func114, Tryz.ntmps114
  go_upto_region 1 with fail
  (refine wp_region_x 27 (by kernel_rfl) (by kernel_rfl) (by kernel_rfl) ?_; (iterate 27 (apply XReg.step; (case h => (intro w' hw'; obtain ⟨X', rfl⟩ := hw'; go_wp2_with (first | (go_at_call 96; refine (specPutNum_any _ (by assumption) _).mono ?_; rintro e _ ⟨rfl, X, rfl⟩) | (go_at_call 110; refine (specSeal_any _ _ hsz).mono ?_; rintro e _ ⟨rfl, X, rfl⟩)); exact ⟨rfl, xt⟩)); (case hv => kernel_rfl))); refine XReg.doneN (fun X => ?_))
  go_wp2
  go_ret
  exact ⟨ret_str (by rw [hn.out]), xt⟩

set_option maxHeartbeats 800000 in
theorem specEntryBytes_any (x : Ent) (w : World) (hx : x.ok) :
    Calls Tryz.prog 42 #[x.val] w fun e w' => e = .returned (.string (entB x)) ∧ Ext w w' := by
  obtain ⟨k, ⟨lv, st⟩, a, b, c⟩ := x
  obtain ⟨h1, ⟨h2, h3⟩, h4, h5, h6⟩ := hx
  unfold Ent.val entB
  cases hr : entR ⟨k, ⟨lv, st⟩, a, b, c⟩
  · go_enter Tryz.func42, Tryz.ntmps42
    go_wp2_with ((go_at_call 47; refine (specEntryRight_any _ _ _ _ _ _ _).mono ?_; rintro e _ ⟨rfl, X, rfl⟩))
    go_ret
    exact ⟨rfl, xt⟩
  · go_enter Tryz.func42, Tryz.ntmps42
    go_wp2_with (first | (go_at_call 47; refine (specEntryRight_any _ _ _ _ _ _ _).mono ?_; rintro e _ ⟨rfl, X, rfl⟩) | (go_at_call 114; refine (l07Bytes_any _ _ _ _ _ _ _ h1 h2 h3 h4 h5 h6).mono ?_; rintro e _ ⟨rfl, X, rfl⟩))
    go_ret
    exact ⟨rfl, xt⟩

