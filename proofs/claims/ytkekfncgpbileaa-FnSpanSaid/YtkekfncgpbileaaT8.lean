/- The draws of the laws over spans. -/
import Derived.Test.YtkekfncgpbileaaT7
set_option maxRecDepth 100000
set_option linter.unusedVariables false
namespace Go.Proofs.Ytkekfncgpbileaa
open Go.RowKit Go.Fin1

theorem box2_cells {w : World} {gR : Nat} {n m : Int} {ty : TypeId} (h0 : w.heap[gR]? = some (.cells #[(.int .i64 n), (.int .i64 m)] ty (0, 0))) : w.cell? ⟨gR, 0, none⟩ = some (.int .i64 n) ∧ w.cell? ⟨gR, 1, none⟩ = some (.int .i64 m) ∧ (∀ q, w.frozen? ⟨gR, q, none⟩ = false) ∧ w.old gR :=
  ⟨(cell_of_heap h0 0).trans rfl, (cell_of_heap h0 1).trans rfl, frozen_of_heap h0, (Array.getElem?_eq_some_iff.1 h0).1⟩
theorem set2_chg (w : World) (g : Nat) (u v : Value) : Chg [g] w ((w.setCell ⟨g, 0, none⟩ u).setCell ⟨g, 1, none⟩ v) := ((Chg.refl _ _).setCell (.inl (by simp)) _).setCell (.inl (by simp)) _

set_option maxHeartbeats 1600000 in
theorem drawIsFree_own (v : Value) (l : List Int) (w : World) (h : SlR w 1 rU8 v l) (hl : l.length ≤ 1048576) :
    Calls Try.prog 25 #[v] w fun e w' => ∃ v' xs, ∃ x : Spn, e = .returned (.tuple #[v', .agg #[(.int .i64 x.f), (.int .i64 x.t)]]) ∧ Row w.heap.size w' 45 2 Spn.cells v' xs ∧ (∀ y ∈ xs, y.ok) ∧ x.ok ∧ xs.length ≤ 1048577 ∧ Ext w w' := by
  have HS := Lib.hid h
  clear h
  go_enter Try.func25, Try.ntmps25
  go_wp2_with fail
  refine (l01Source_any v l _ (HS.out.ext rU8_stable (by repeat (first | exact Ext.refl _ | apply Ext.plus | apply Ext.alloc | apply Ext.drew))) hl).mono ?_
  rintro e w2 ⟨g, rfl, hg, hx, hs⟩
  have hgr : w.heap.size < g := by simp at hg; omega
  have HG := Lib.hid hgr
  have HB2 := Lib.hid (heap_ext (heap_alloc_new w (.cells #[(.int .i64 0), (.int .i64 0)] 45)) hx)
  have HX := Lib.hid ((Ext.refl w).alloc (.cells #[(.int .i64 0), (.int .i64 0)] 45) |>.trans hx)
  have HSZ : Hid (w.heap.size < w2.heap.size) := Lib.hid (by have := hx.below.size; simp at this; omega)
  have HA := Lib.hid hs
  clear hx hs hg hgr
  go_wp2_with fail
  refine (srcSpans_any g _ v l HA.out).mono ?_
  rintro e w3 ⟨v3, xs, rfl, hc, hs, hR, hok, hxl⟩
  obtain ⟨a3, c3, rfl⟩ := hR.shape
  have HC := Lib.hid hc
  have HA3 := Lib.hid hs
  have HR := Lib.hid hR
  have HOK := Lib.hid hok
  have HL := Lib.hid hxl
  have HB3 := Lib.hid (heap_chg HB2.out hc (by have := HG.out; simp; omega))
  clear hc hs hR hok hxl HB2
  go_wp2_with fail
  refine (srcSpan_any g _ v l HA3.out).mono ?_
  rintro e w4 ⟨x, rfl, hxo, hc, hs⟩
  have HC4 := Lib.hid (HC.out.trans hc)
  have HR4 := Lib.hid (HR.out.chg hc (fun b hb => by have := (HR.out.blk b hb).1; have := HA.out.old; unfold World.old at this; simp; omega))
  have HXO := Lib.hid hxo
  have hb4 := heap_chg HB3.out hc (by have := HG.out; simp; omega)
  clear hc hs hxo HA3 HB3 HC HR
  obtain ⟨c0, c1, hf, ho⟩ := box2_cells hb4
  clear hb4
  go_wp2
  refine bodyPost_ret (v := .tuple #[.slice a3 xs.length c3, .agg #[(.int .i64 x.f), (.int .i64 x.t)]]) (by simp [results, Try.results25, go_sem, c0, c1]) rfl ⟨_, xs, x, rfl, ?_, HOK.out, HXO.out, HL.out, ?_⟩
  · exact (HR4.out.chg (set2_chg _ _ _ _) (fun b hb => by have := (HR4.out.blk b hb).1; have := HSZ.out; simp; omega)).mono (Nat.le_of_lt HSZ.out)
  · exact (set2_chg _ _ _ _).ext ((HC4.out).ext HX.out (by have := HG.out; simp; omega)) (by simp)
theorem drawIsFree_any (v : Value) (l : List Int) (w : World) (h : SlR w 1 rU8 v l) (hl : l.length ≤ 1048576) :
    Calls Try.prog 25 #[v] w fun e w' => ∃ v' xs, ∃ x : Spn, e = .returned (.tuple #[v', .agg #[(.int .i64 x.f), (.int .i64 x.t)]]) ∧ SlR w' 2 rSpn v' xs ∧ x.ok ∧ xs.length ≤ 1048577 ∧ Ext w w' :=
  (drawIsFree_own v l w h hl).mono fun _ _ ⟨v', xs, x, he, hR, hok, hx, hl, hw⟩ => ⟨v', xs, x, he, row_spn hR hok, hx, hl, hw⟩

set_option maxHeartbeats 1600000 in
theorem drawSpanPut_any (v : Value) (l : List Int) (w : World) (h : SlR w 1 rU8 v l) (hl : l.length ≤ 1048576) :
    Calls Try.prog 20 #[v] w fun e w' => ∃ v' xs, ∃ x : Spn, e = .returned (.tuple #[v', .agg #[(.int .i64 x.f), (.int .i64 x.t)]]) ∧ SlR w' 2 rSpn v' xs ∧ x.ok ∧ xs.length ≤ 1048577 ∧ Ext w w' := by
  have HS := Lib.hid h
  clear h
  go_enter Try.func20, Try.ntmps20
  go_wp2_with fail
  refine (drawIsFree_own v l _ (HS.out.ext rU8_stable (by repeat (first | exact Ext.refl _ | apply Ext.plus | apply Ext.alloc | apply Ext.drew))) hl).mono ?_
  rintro e w2 ⟨v2, xs, x, rfl, hR, hok, hxo, hxl, hx⟩
  obtain ⟨a3, c3, rfl⟩ := hR.shape
  have hb4 := heap_ext (heap_alloc_new w (.cells #[(.int .i64 0), (.int .i64 0)] 45)) hx
  have HX := Lib.hid ((Ext.refl w).alloc (.cells #[(.int .i64 0), (.int .i64 0)] 45) |>.trans hx)
  have HR := Lib.hid hR
  have HOK := Lib.hid hok
  have HXO := Lib.hid hxo
  have HL := Lib.hid hxl
  clear hR hx hxo hxl hok
  obtain ⟨c0, c1, hf, ho⟩ := box2_cells hb4
  clear hb4
  go_wp2
  refine bodyPost_ret (v := .tuple #[.slice a3 xs.length c3, .agg #[(.int .i64 x.f), (.int .i64 x.t)]]) (by simp [results, Try.results20, go_sem, c0, c1]) rfl ⟨_, xs, x, rfl, ?_, HXO.out, HL.out, ?_⟩
  · exact row_spn (HR.out.chg (set2_chg _ _ _ _) (fun b hb => by have := (HR.out.blk b hb).1; simp at this; simp; omega)) HOK.out
  · exact (set2_chg _ _ _ _).ext HX.out (by simp)

set_option maxHeartbeats 1600000 in
theorem drawFitNodes_any (v : Value) (l : List Int) (w : World) (h : SlR w 1 rU8 v l) (hl : l.length ≤ 1048576) :
    Calls Try.prog 24 #[v] w fun e w' => ∃ v' xs, ∃ n : Int, ∃ x : Spn, e = .returned (.tuple #[v', (.int .i64 n), .agg #[(.int .i64 x.f), (.int .i64 x.t)]]) ∧ SlR w' 1 rSpnS v' xs ∧ xs.length ≤ 5 ∧ I64 n ∧ x.ok ∧ Ext w w' := by
  have HS := Lib.hid h
  have H5 : Hid (I64 5) := Lib.hid (by unfold I64; omega)
  clear h
  go_enter Try.func24, Try.ntmps24
  go_wp2_with fail
  refine (l01Source_any v l _ (HS.out.ext rU8_stable (by repeat (first | exact Ext.refl _ | apply Ext.plus | apply Ext.alloc | apply Ext.drew))) hl).mono ?_
  rintro e w2 ⟨g, rfl, hg, hx, hs⟩
  have hgr : w.heap.size < g := by simp at hg; omega
  have HG := Lib.hid hgr
  have HB2 := Lib.hid (heap_ext (heap_alloc_new w (.cells #[(.int .i64 0), (.int .i64 0)] 45)) hx)
  have HX := Lib.hid ((Ext.refl w).alloc (.cells #[(.int .i64 0), (.int .i64 0)] 45) |>.trans hx)
  have HSZ : Hid (w.heap.size < w2.heap.size) := Lib.hid (by have := hx.below.size; simp at this; omega)
  have HA := Lib.hid hs
  clear hx hs hg hgr
  go_wp2_with fail
  refine (srcRows_any g _ v l HA.out).mono ?_
  rintro e w3 ⟨v3, xs, fp, rfl, hc, hs, hR, hok, hxl⟩
  obtain ⟨a3, c3, rfl⟩ := hR.shape
  have HC := Lib.hid hc
  have HA3 := Lib.hid hs
  have HR := Lib.hid hR
  have HOK := Lib.hid hok
  have HL := Lib.hid hxl
  have HB3 := Lib.hid (heap_chg HB2.out hc (by have := HG.out; simp; omega))
  clear hc hs hR hok hxl HB2
  go_wp2_with fail
  refine (srcN' g 5 _ v l HA3.out H5.out).mono ?_
  rintro e w4 ⟨n, rfl, hb, hc, hs⟩
  have hn : n < 5 := by omega
  have HC4 := Lib.hid (HC.out.trans hc)
  have HA4 := Lib.hid hs
  have HR4 := Lib.hid (HR.out.chg oRows_local oRows_held hc (fun b hb => by have := HA.out.old; unfold World.old at this; simp at hb; omega))
  have HB4 := Lib.hid (heap_chg HB3.out hc (by have := HG.out; simp; omega))
  clear hc hs hb HA3 HB3 HC HR
  go_wp2_with fail
  refine (srcSpan_any g _ v l HA4.out).mono ?_
  rintro e w5 ⟨x, rfl, hxo, hc, hs⟩
  have HC5 := Lib.hid (HC4.out.trans hc)
  have HR5 := Lib.hid (HR4.out.chg oRows_local oRows_held hc (fun b hb => by have := HA.out.old; unfold World.old at this; simp at hb; omega))
  have HXO := Lib.hid hxo
  have hb4 := heap_chg HB4.out hc (by have := HG.out; simp; omega)
  clear hc hs hxo HC4 HA4 HR4 HB4
  obtain ⟨c0, c1, hf, ho⟩ := box2_cells hb4
  clear hb4
  go_wp2
  refine bodyPost_ret (v := .tuple #[.slice a3 xs.length c3, (.int .i64 (n : Int)), .agg #[(.int .i64 x.f), (.int .i64 x.t)]]) (by simp [results, Try.results24, go_sem, c0, c1]) rfl ⟨_, xs, n, x, rfl, ?_, HL.out, by unfold I64; omega, HXO.out, ?_⟩
  · exact oRows_r (HR5.out.chg oRows_local oRows_held (set2_chg _ _ _ _) (fun b hb => by have := HSZ.out; simp at hb; omega)).1 HOK.out
  · exact (set2_chg _ _ _ _).ext ((HC5.out).ext HX.out (by have := HG.out; simp; omega)) (by simp)

/-- What a draw does to its source. -/
def SrcR (g : Nat) (cv : Value) (l : List Int) (w w' : World) : Prop := Chg [g] w w' ∧ (SrcA w g cv l → SrcA w' g cv l)
theorem SrcR.trans {g : Nat} {cv : Value} {l : List Int} (a b c : World) (h : SrcR g cv l a b) (k : SrcR g cv l b c) : SrcR g cv l a c := ⟨h.1.trans k.1, fun x => k.2 (h.2 x)⟩
theorem SrcR.ext {g : Nat} {cv : Value} {l : List Int} {w w' : World} (h : Ext w w') : SrcR g cv l w w' := ⟨h.chg _, fun x => x.ext h⟩
theorem SrcR.of {g : Nat} {cv : Value} {l : List Int} {w w1 w2 : World} (h : Ext w w1) (hc : Chg [g] w1 w2) (hs : SrcA w2 g cv l) : SrcR g cv l w w2 := ⟨(h.chg _).trans hc, fun _ => hs⟩
def kI64 : XReg.Kind := fun v _ => ∃ n : Int, v = (.int .i64 n) ∧ I64 n
def kLt (m : Nat) : XReg.Kind := fun v _ => ∃ n : Nat, v = (.int .i64 (n : Int)) ∧ n < m
def kArr (g : Nat) (cs : List Value) (n : Nat) : XReg.Kind := fun v u => ∃ b, v = .slice (some ⟨b, 0, none⟩) n n ∧ b ≠ g ∧ Blk u b cs 2
def kPt (g : Nat) (cs : List Value) (n : Nat) : XReg.Kind := fun v u => ∃ b k, v = .pointer (some ⟨b, k, none⟩) ∧ k < n ∧ b ≠ g ∧ Blk u b cs 2
theorem kI64_good {R : World → World → Prop} : XReg.GoodKL R kI64 := ⟨fun _ _ _ _ h => h, (.int .i64 0), default, 0, rfl, by unfold I64; omega⟩
theorem kLt_good {R : World → World → Prop} {m : Nat} (hm : 0 < m) : XReg.GoodKL R (kLt m) := ⟨fun _ _ _ _ h => h, (.int .i64 0), default, 0, rfl, hm⟩
def emptyG (B : Nat) : World := { (default : World) with heap := Array.replicate B (.cells #[] 0) }
theorem emptyG_size (B : Nat) : (emptyG B).heap.size = B := by simp [emptyG]
theorem kArr_good {g : Nat} {cv : Value} {l : List Int} {cs : List Value} {n : Nat} : XReg.GoodKL (SrcR g cv l) (kArr g cs n) :=
  ⟨fun _ _ _ hx ⟨b, hv, hb, h⟩ => ⟨b, hv, hb, h.chg hx.1 (by simpa using hb)⟩, .slice (some ⟨(emptyG (g + 1)).heap.size, 0, none⟩) n n, _, _, rfl, by rw [emptyG_size]; omega, Blk.new (cs := cs.toArray) rfl⟩
theorem kPt_good {g : Nat} {cv : Value} {l : List Int} {cs : List Value} {n : Nat} (hn : 0 < n) : XReg.GoodKL (SrcR g cv l) (kPt g cs n) :=
  ⟨fun _ _ _ hx ⟨b, k, hv, hk, hb, h⟩ => ⟨b, k, hv, hk, hb, h.chg hx.1 (by simpa using hb)⟩, .pointer (some ⟨(emptyG (g + 1)).heap.size, 0, none⟩), _, _, 0, rfl, hn, by rw [emptyG_size]; omega, Blk.new (cs := cs.toArray) rfl⟩

set_option maxHeartbeats 3200000 in
theorem drawFirstFit_any (v0 : Value) (l : List Int) (w : World) (h : SlR w 1 rU8 v0 l) (hl : l.length ≤ 1048576) :
    Calls Try.prog 22 #[v0] w fun e w' => ∃ v' xs, ∃ need length now : Int, e = .returned (.tuple #[v', (.int .i64 need), (.int .i64 length), (.int .i64 now)]) ∧ SlR w' 1 rSpnS v' xs ∧ xs.length ≤ 5 ∧ I64 need ∧ I64 length ∧ I64 now ∧ Ext w w' := by
  have HS := Lib.hid h
  have H3 : Hid (I64 3) := Lib.hid (by unfold I64; omega)
  have H8 : Hid (I64 8) := Lib.hid (by unfold I64; omega)
  have H9 : Hid (I64 9) := Lib.hid (by unfold I64; omega)
  have H12 : Hid (I64 12) := Lib.hid (by unfold I64; omega)
  have H20 : Hid (I64 20) := Lib.hid (by unfold I64; omega)
  clear h
  go_enter Try.func22, Try.ntmps22
  go_wp2_with fail
  refine (l01Source_any v0 l _ HS.out hl).mono ?_
  rintro e w2 ⟨g, rfl, hg, hx, hs⟩
  have HX := Lib.hid hx
  have HA := Lib.hid hs
  have HG := Lib.hid hg
  clear hx hs hg
  go_wp2_with fail
  refine (srcRows_any g _ v0 l HA.out).mono ?_
  rintro e w3 ⟨v3, xs, fp, rfl, hc, hs, hR, hok, hxl⟩
  obtain ⟨a3, c3, rfl⟩ := hR.shape
  have HC := Lib.hid hc
  have HA3 := Lib.hid hs
  have HR := Lib.hid hR
  have HOK := Lib.hid hok
  have HL := Lib.hid hxl
  clear hc hs hR hok hxl
  go_wp2_with fail
  refine (srcN' g 3 _ v0 l HA3.out H3.out).mono ?_
  rintro e w4 ⟨q, rfl, hb, hc, hs⟩
  have hq : q < 3 := by omega
  have hw1 : wrap64 (1 + (q : Int)) = 1 + (q : Int) := by unfold wrap64; omega
  have HC4 := Lib.hid (HC.out.trans hc)
  have HA4 := Lib.hid hs
  have HR4 := Lib.hid (HR.out.chg oRows_local oRows_held hc (fun b hb => by have := HA.out.old; unfold World.old at this; simp at hb; omega))
  clear hc hs hb HA3 HC HR
  go_wp2_with fail
  refine (srcOne_any g 12 _ v0 l HA4.out H12.out).mono ?_
  rintro e w5 ⟨b, rfl, hc, hs⟩
  have HC5 := Lib.hid (HC4.out.trans hc)
  have HA5 := Lib.hid hs
  have HR5 := Lib.hid (HR4.out.chg oRows_local oRows_held hc (fun b hb => by have := HA.out.old; unfold World.old at this; simp at hb; omega))
  clear hc hs HA4 HC4 HR4
  have HA4 := HA5
  cases b
  · go_wp2_with fail
    refine (srcN' g 9 _ v0 l HA5.out H9.out).mono ?_
    rintro e w6 ⟨d, rfl, hb, hc, hs⟩
    have hd : d < 9 := by omega
    have hw2 : wrap64 (1 + (d : Int)) = 1 + (d : Int) := by unfold wrap64; omega
    have HC6 := Lib.hid (HC5.out.trans hc)
    have HA6 := Lib.hid hs
    have HR6 := Lib.hid (HR5.out.chg oRows_local oRows_held hc (fun b hb => by have := HA.out.old; unfold World.old at this; simp at hb; omega))
    clear hc hs hb HA5 HC5 HR5 HA4
    go_wp2_with fail
    refine (srcN' g 20 _ v0 l HA6.out H20.out).mono ?_
    rintro e w7 ⟨t, rfl, hb, hc, hs⟩
    have ht : t < 20 := by omega
    have HX7 := Lib.hid ((HC6.out.trans hc).ext HX.out (by simpa using HG.out))
    have HR7 := Lib.hid (oRows_r (HR6.out.chg oRows_local oRows_held hc (fun b hb => by have := HA.out.old; unfold World.old at this; simp at hb; omega)).1 HOK.out)
    clear hc hs hb HA6 HC6 HR6
    go_wp2
    exact bodyPost_ret (v := .tuple #[.slice a3 xs.length c3, (.int .i64 (1 + (q : Int))), (.int .i64 (1 + (d : Int))), (.int .i64 (t : Int))]) (by simp [results, Try.results22, go_sem]) rfl ⟨_, xs, _, _, _, rfl, HR7.out, HL.out, by unfold I64; omega, by unfold I64; omega, by unfold I64; omega, HX7.out⟩
  · go_wp2_with fail
    (refine wp_region_l (R := SrcR g v0 l) (SrcR.trans) 14 [(fun u _ => u = (.slice a3 xs.length c3)), (fun u _ => u = (.pointer (some ⟨g, 0, none⟩))), kI64, kArr g [(.int .i64 0), (.int .i64 40), (.int .i64 41)] 3, (fun u _ => u = (.pointer (some ⟨g, 0, none⟩))), kLt 3, kPt g [(.int .i64 0), (.int .i64 40), (.int .i64 41)] 3, kI64, (fun u _ => u = (.pointer (some ⟨g, 0, none⟩))), kI64, (fun u _ => u = (.slice a3 xs.length c3)), kI64, kI64, kI64] (by kernel_rfl) (by kernel_rfl) (by kernel_rfl) rfl ?_ (by repeat' (first | exact trivial | exact XReg.GoodKL.same _ _ default | exact kI64_good | exact kLt_good (by decide) | exact kArr_good | exact kPt_good (by decide) | fail | refine And.intro ?_ ?_)) (SrcR.ext (Ext.refl _).drew))
    (apply LReg.val (.slice a3 xs.length c3); (case h => (intro w' hw' hF'; have HW' := Lib.hid hw'; clear hF' hw'; go_wp2_with fail; exact ⟨rfl, SrcR.ext (by repeat (first | exact Ext.refl _ | apply Ext.plus | apply Ext.alloc | apply Ext.drew))⟩)); (case hv => kernel_rfl))
    (apply LReg.val (.pointer (some ⟨g, 0, none⟩)); (case h => (intro w' hw' hF'; have HW' := Lib.hid hw'; clear hF' hw'; go_wp2_with fail; exact ⟨rfl, SrcR.ext (by repeat (first | exact Ext.refl _ | apply Ext.plus | apply Ext.alloc | apply Ext.drew))⟩)); (case hv => kernel_rfl))
    refine LReg.kind (fun w' hw' hF' => ?_) (fun v w1 hK => ?_)
    · have HW' := Lib.hid (hw'.2 HA4.out)
      clear hF' hw'
      go_wp2_with fail
      refine (srcN' g 8 _ v0 l (HW'.out.ext (by repeat (first | exact Ext.refl _ | apply Ext.plus | apply Ext.alloc | apply Ext.drew))) H8.out).mono ?_
      rintro e w8 ⟨n, rfl, hb, hc, hs⟩
      have HR8 := Lib.hid (SrcR.of (w := w') (by repeat (first | exact Ext.refl _ | apply Ext.plus | apply Ext.alloc | apply Ext.drew)) hc hs)
      have hn : n < 8 := by omega
      clear hc hs hb
      go_wp2
      exact ⟨HR8.out, _, rfl, (by unfold I64; omega)⟩
    obtain ⟨n1, rfl, hn1⟩ := hK
    clear w1
    refine LReg.kind (fun w' hw' hF' => ?_) (fun v w1 hK => ?_)
    · clear hF'
      have hgs := (hw'.2 HA4.out).old
      unfold World.old at hgs
      have H9a := Lib.hid (show kArr g [(.int .i64 0), (.int .i64 40), (.int .i64 41)] 3 (.slice (some ⟨w'.heap.size, 0, none⟩) 3 3) (w'.alloc (.cells #[(.int .i64 0), (.int .i64 40), (.int .i64 41)] 2)) from ⟨_, rfl, by omega, Blk.new rfl⟩)
      clear hw' hgs
      go_wp2
      exact ⟨SrcR.ext (by repeat (first | exact Ext.refl _ | apply Ext.plus | apply Ext.alloc | apply Ext.drew)), H9a.out⟩
    obtain ⟨bA, rfl, hbA, hs3⟩ := hK
    clear hs3 w1
    (apply LReg.val (.pointer (some ⟨g, 0, none⟩)); (case h => (intro w' hw' hF'; have HW' := Lib.hid hw'; clear hF' hw'; go_wp2_with fail; exact ⟨rfl, SrcR.ext (by repeat (first | exact Ext.refl _ | apply Ext.plus | apply Ext.alloc | apply Ext.drew))⟩)); (case hv => kernel_rfl))
    refine LReg.kind (fun w' hw' hF' => ?_) (fun v w1 hK => ?_)
    · have HW' := Lib.hid (hw'.2 HA4.out)
      clear hF' hw'
      go_wp2_with fail
      refine (srcN' g 3 _ v0 l (HW'.out.ext (by repeat (first | exact Ext.refl _ | apply Ext.plus | apply Ext.alloc | apply Ext.drew))) H3.out).mono ?_
      rintro e w8 ⟨n, rfl, hb, hc, hs⟩
      have HR8 := Lib.hid (SrcR.of (w := w') (by repeat (first | exact Ext.refl _ | apply Ext.plus | apply Ext.alloc | apply Ext.drew)) hc hs)
      have hn : n < 3 := by omega
      clear hc hs hb
      go_wp2
      exact ⟨HR8.out, _, rfl, hn⟩
    obtain ⟨k3, rfl, hk3⟩ := hK
    clear w1
    refine LReg.kind (fun w' hw' hF' => ?_) (fun v w1 hK => ?_)
    · obtain ⟨bB, hbv, hbB, hB⟩ := hF'.get 3 (p := (kArr g [(.int .i64 0), (.int .i64 40), (.int .i64 41)] 3, .slice (some ⟨bA, 0, none⟩) 3 3)) (by kernel_rfl) (by kernel_rfl)
      obtain rfl : bA = bB := by simpa using hbv
      have H9a := Lib.hid (show kPt g [(.int .i64 0), (.int .i64 40), (.int .i64 41)] 3 (.pointer (some ⟨bA, k3, none⟩)) w' from ⟨bA, k3, rfl, hk3, hbA, hB⟩)
      have hbo := hB.old
      clear hw' hF' hB hbv
      go_wp2
      exact ⟨SrcR.ext (by repeat (first | exact Ext.refl _ | apply Ext.plus | apply Ext.alloc | apply Ext.drew)), H9a.out⟩
    obtain ⟨bP, kP, rfl, hkP, hbP, hs3⟩ := hK
    clear hs3 w1
    refine LReg.kind (fun w' hw' hF' => ?_) (fun v w1 hK => ?_)
    · obtain ⟨bB, kB, hbv, hkB, hbB, hB⟩ := hF'.get 6 (p := (kPt g [(.int .i64 0), (.int .i64 40), (.int .i64 41)] 3, .pointer (some ⟨bP, kP, none⟩))) (by kernel_rfl) (by kernel_rfl)
      obtain ⟨rfl, rfl⟩ : bP = bB ∧ kP = kB := by simpa using hbv
      obtain ⟨n, hni, hn⟩ : ∃ n : Int, I64 n ∧ ([(.int .i64 0), (.int .i64 40), (.int .i64 41)] : List Value)[kP]? = some (.int .i64 n) := by
        have : kP = 0 ∨ kP = 1 ∨ kP = 2 := by omega
        rcases this with rfl | rfl | rfl <;> (refine ⟨_, ?_, rfl⟩; unfold I64; omega)
      have hc0 : w'.cell? ⟨bP, kP, none⟩ = some (.int .i64 n) := by rw [hB.cell kP]; exact hn
      have hbo := hB.old
      clear hw' hF' hB hbv hn
      go_wp2
      exact ⟨SrcR.ext (by repeat (first | exact Ext.refl _ | apply Ext.plus | apply Ext.alloc | apply Ext.drew)), _, rfl, hni⟩
    obtain ⟨n2, rfl, hn2⟩ := hK
    clear w1
    (apply LReg.val (.pointer (some ⟨g, 0, none⟩)); (case h => (intro w' hw' hF'; have HW' := Lib.hid hw'; clear hF' hw'; go_wp2_with fail; exact ⟨rfl, SrcR.ext (by repeat (first | exact Ext.refl _ | apply Ext.plus | apply Ext.alloc | apply Ext.drew))⟩)); (case hv => kernel_rfl))
    refine LReg.kind (fun w' hw' hF' => ?_) (fun v w1 hK => ?_)
    · have HW' := Lib.hid (hw'.2 HA4.out)
      clear hF' hw'
      go_wp2_with fail
      refine (srcEdge_any g _ v0 l (HW'.out.ext (by repeat (first | exact Ext.refl _ | apply Ext.plus | apply Ext.alloc | apply Ext.drew)))).mono ?_
      rintro e w8 ⟨n, rfl, hni, hc, hs⟩
      have HR8 := Lib.hid (SrcR.of (w := w') (by repeat (first | exact Ext.refl _ | apply Ext.plus | apply Ext.alloc | apply Ext.drew)) hc hs)
      clear hc hs
      go_wp2
      exact ⟨HR8.out, _, rfl, hni⟩
    obtain ⟨n3, rfl, hn3⟩ := hK
    clear w1
    (apply LReg.val (.slice a3 xs.length c3); (case h => (intro w' hw' hF'; have HW' := Lib.hid hw'; clear hF' hw'; go_wp2_with fail; exact ⟨rfl, SrcR.ext (by repeat (first | exact Ext.refl _ | apply Ext.plus | apply Ext.alloc | apply Ext.drew))⟩)); (case hv => kernel_rfl))
    refine LReg.kind (fun w' hw' hF' => ?_) (fun v w1 hK => ?_)
    · clear hF' hw'
      have HK := Lib.hid hn1
      go_wp2
      exact ⟨SrcR.ext (by repeat (first | exact Ext.refl _ | apply Ext.plus | apply Ext.alloc | apply Ext.drew)), _, rfl, HK.out⟩
    obtain ⟨n4, rfl, hn4⟩ := hK
    clear w1
    refine LReg.kind (fun w' hw' hF' => ?_) (fun v w1 hK => ?_)
    · clear hF' hw'
      have HK := Lib.hid hn2
      go_wp2
      exact ⟨SrcR.ext (by repeat (first | exact Ext.refl _ | apply Ext.plus | apply Ext.alloc | apply Ext.drew)), _, rfl, HK.out⟩
    obtain ⟨n5, rfl, hn5⟩ := hK
    clear w1
    refine LReg.kind (fun w' hw' hF' => ?_) (fun v w1 hK => ?_)
    · clear hF' hw'
      have HK := Lib.hid hn3
      go_wp2
      exact ⟨SrcR.ext (by repeat (first | exact Ext.refl _ | apply Ext.plus | apply Ext.alloc | apply Ext.drew)), _, rfl, HK.out⟩
    obtain ⟨n6, rfl, hn6⟩ := hK
    clear w1
    refine LReg.doneN (fun w9 hw9 hF => ?_)
    have HX9 := Lib.hid ((HC5.out.trans hw9.1).ext HX.out (by simpa using HG.out))
    have HR9 := Lib.hid (oRows_r (HR5.out.chg oRows_local oRows_held hw9.1 (fun b hb => by have := HA.out.old; unfold World.old at this; simp at hb; omega)).1 HOK.out)
    clear hF hw9
    go_wp2
    exact bodyPost_ret (v := .tuple #[.slice a3 xs.length c3, (.int .i64 n4), (.int .i64 n5), (.int .i64 n6)]) (by simp [results, Try.results22, go_sem]) rfl ⟨_, xs, _, _, _, rfl, HR9.out, HL.out, hn4, hn5, hn6, HX9.out⟩
end Go.Proofs.Ytkekfncgpbileaa
