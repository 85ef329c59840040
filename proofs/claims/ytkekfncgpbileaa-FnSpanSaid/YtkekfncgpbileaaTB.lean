/- FnSpan: what is put is not free any more; the first fit fits, and nothing fits ahead of it. -/
import Derived.Test.YtkekfncgpbileaaTA
set_option maxRecDepth 100000
set_option linter.unusedVariables false
namespace Go.Proofs.Ytkekfncgpbileaa
open Go.RowKit Go.Fin1

def kSlG {α : Type} {K : Nat} {r : World → List Value → α → Prop} (xs : List α) (h : Stable r) : Prop := True
theorem row_int {B : Nat} {w : World} {v : Value} {l : List Int} (h : Row B w 2 1 intCell v l) (hl : ∀ x ∈ l, I64 x) : SlR w 1 rInt v l := by
  obtain ⟨fp, hO⟩ := Row.own (f := intCell) (K := 1) (fun _ => rfl) h
  exact oIntS_r hO.1 hl

set_option maxHeartbeats 3200000 in
theorem fnSpan_any (a b : Arg (List Int)) (w : World) (ha : SlR w 1 rU8 a.v a.x) (hb : SlR w 1 rU8 b.v b.x) :
    Calls Try.prog 4 #[a.v, b.v] w fun e w' => e = .returned (.bool true) ∧ Ext w w' := by
  obtain ⟨v, cl⟩ := a
  obtain ⟨v2, ml⟩ := b
  change SlR w 1 rU8 v cl at ha
  change SlR w 1 rU8 v2 ml at hb
  change Calls Try.prog 4 #[v, v2] w _
  obtain ⟨ad, cap, rfl⟩ := ha.len
  obtain ⟨ad2, cap2, rfl⟩ := hb.len
  have H1 := Lib.hid ha
  have H2 := Lib.hid hb
  clear ha hb
  by_cases hl : cl.length ≤ 1048576
  · by_cases hl2 : ml.length ≤ 1048576
    · go_enter Try.func4, Try.ntmps4
      go_wp2_with fail
      refine (drawSpanPut_any _ cl _ (H1.out.ext rU8_stable (by repeat (first | exact Ext.refl _ | apply Ext.plus | apply Ext.alloc | apply Ext.drew))) hl).mono ?_
      rintro e _ ⟨v1, ls, ⟨xf, xt⟩, rfl, hR, hxo, hll, ⟨X1, rfl⟩⟩
      obtain ⟨al, kl, rfl⟩ := hR.len
      have HL := Lib.hid hR
      have HLL := Lib.hid hll
      have HXO := Lib.hid hxo
      have HPO := Lib.hid (putL_ok (spn_ok hR) hxo)
      clear hR hxo hll
      simp only
      go_wp2_with fail
      refine (implSpanPut_any _ ls ⟨xf, xt⟩ _ (HL.out.ext rSpn_stable (by repeat (first | exact Ext.refl _ | apply Ext.plus | apply Ext.alloc | apply Ext.drew)))).mono ?_
      rintro e _ ⟨v1, rfl, ⟨X2, rfl⟩, hR⟩
      have HP := Lib.hid (row_spn hR HPO.out)
      clear hR
      generalize hPE : putL ls ⟨xf, xt⟩ = P at HP HPO
      have HPE := Lib.hid hPE
      clear hPE
      obtain ⟨ap, kp, rfl⟩ := HP.out.len
      go_wp2_with fail
      refine (drawFirstFit_any _ ml _ (H2.out.ext rU8_stable (by repeat (first | exact Ext.refl _ | apply Ext.plus | apply Ext.alloc | apply Ext.drew))) hl2).mono ?_
      rintro e _ ⟨v1, rs, need, len, now, rfl, hR, hrl, hn1, hn2, hn3, ⟨X3, rfl⟩⟩
      obtain ⟨ar, kr, rfl⟩ := hR.len
      have HRS := Lib.hid hR
      have HRL := Lib.hid (show rs.length ≤ 1048576 by omega)
      clear hR hrl
      go_wp2_with fail
      refine (implFirstFit_any _ rs need len now _ HRS.out HRL.out).mono ?_
      rintro e _ ⟨rfl, X4, rfl⟩
      generalize hTE : firstFit rs need len now = T
      have HTE := Lib.hid hTE
      clear hTE
      go_wp2_with fail
      refine (drawFitNodes_any _ cl _ (H1.out.ext rU8_stable (by repeat (first | exact Ext.refl _ | apply Ext.plus | apply Ext.alloc | apply Ext.drew))) hl).mono ?_
      rintro e _ ⟨v1, ws, n, ⟨yf, yt⟩, rfl, hR, hwl, hni, hyo, ⟨X5, rfl⟩⟩
      obtain ⟨aw, kw, rfl⟩ := hR.len
      have HWS := Lib.hid hR
      have HWL := Lib.hid (show ws.length ≤ 1048576 by omega)
      clear hR hwl hni hyo
      simp only
      go_wp2_with fail
      refine (drawIsFree_any _ ml _ (H2.out.ext rU8_stable (by repeat (first | exact Ext.refl _ | apply Ext.plus | apply Ext.alloc | apply Ext.drew))) hl2).mono ?_
      rintro e _ ⟨v1, fs, ⟨zf, zt⟩, rfl, hR, hzo, hfl, ⟨X6, rfl⟩⟩
      obtain ⟨af, kf, rfl⟩ := hR.len
      have HFS := Lib.hid hR
      clear hR hzo hfl
      simp only
      go_upto_region 9 with fail
      have HN := Lib.hid (fitNodes_i64 (rows := ws) (need := n) (x := ⟨yf, yt⟩) HWL.out)
      have HNL := Lib.hid (fitNodes_len ws n ⟨yf, yt⟩)
      generalize hNE : fitNodes ws n ⟨yf, yt⟩ = N at HN HNL
      have HNE := Lib.hid hNE
      clear hNE
      generalize hFE : (spnsOk fs && spnOk ⟨zf, zt⟩ && freeL fs ⟨zf, zt⟩) = F
      have HFE := Lib.hid hFE
      clear hFE
      generalize hSE : spnsOk ls = S
      have HSE := Lib.hid hSE
      clear hSE
      (refine wp_region_y 43 [(fun u _ => u = (.slice ap P.length kp)), (fun u _ => u = (.slice al ls.length kl)), (fun u _ => u = (.agg #[(.int .i64 xf), (.int .i64 xt)])), kSl 2 rSpn P, (fun u _ => u = (.bool true)), (fun u _ => u = (.bool false)), (fun u _ => u = (.bool false)), (fun u _ => u = (.int .i64 T)), (fun u _ => u = (.slice ar rs.length kr)), (fun u _ => u = (.int .i64 need)), (fun u _ => u = (.int .i64 len)), (fun u _ => u = (.int .i64 now)), (fun u _ => u = (.int .i64 T)), (fun u _ => u = (.bool false)), (fun u _ => u = (.bool false)), (fun u _ => u = (.bool false)), (fun u _ => u = (.slice aw ws.length kw)), (fun u _ => u = (.int .i64 n)), (fun u _ => u = (.agg #[(.int .i64 yf), (.int .i64 yt)])), kSl 1 rInt N, (fun u _ => u = (.slice aw ws.length kw)), (fun u _ => u = (.int .i64 n)), (fun u _ => u = (.agg #[(.int .i64 yf), (.int .i64 yt)])), kSl 1 rInt N, (fun u _ => u = (.bool true)), (fun u _ => u = (.bool false)), (fun u _ => u = (.bool false)), (fun u _ => u = (.bool false)), (fun u _ => u = (.slice af fs.length kf)), (fun u _ => u = (.agg #[(.int .i64 zf), (.int .i64 zt)])), (fun u _ => u = (.bool F)), (fun u _ => u = (.slice af fs.length kf)), (fun u _ => u = (.agg #[(.int .i64 zf), (.int .i64 zt)])), (fun u _ => u = (.bool F)), (fun u _ => u = (.bool false)), (fun u _ => u = (.bool false)), (fun u _ => u = (.bool false)), (fun u _ => u = (.slice al ls.length kl)), (fun u _ => u = (.bool S)), (fun u _ => u = (.slice al ls.length kl)), (fun u _ => u = (.bool S)), (fun u _ => u = (.bool false)), (fun u _ => u = (.bool false))] (by kernel_rfl) (by kernel_rfl) (by kernel_rfl) rfl ?_ (by (repeat' (first | exact trivial | exact XReg.GoodK.same _ default | refine And.intro ?_ ?_)); all_goals (first | exact kSl_good rSpn_stable HP.out | exact kSl_good rInt_stable (sl_new default 0 _ HN.out (by have := HNL.out; have := HWL.out; unfold maxLen; omega)))))
      (apply YReg.val (.slice ap P.length kp); (case h => (intro w' hw' hF'; obtain ⟨X', rfl⟩ := hw'; have HF' := Lib.hid hF'; clear hF'; go_wp2_with (fail); exact ⟨rfl, (by repeat (first | exact Ext.refl _ | apply Ext.plus | apply Ext.alloc | apply Ext.drew))⟩)); (case hv => kernel_rfl))
      (apply YReg.val (.slice al ls.length kl); (case h => (intro w' hw' hF'; obtain ⟨X', rfl⟩ := hw'; have HF' := Lib.hid hF'; clear hF'; go_wp2_with (fail); exact ⟨rfl, (by repeat (first | exact Ext.refl _ | apply Ext.plus | apply Ext.alloc | apply Ext.drew))⟩)); (case hv => kernel_rfl))
      (apply YReg.val (.agg #[(.int .i64 xf), (.int .i64 xt)]); (case h => (intro w' hw' hF'; obtain ⟨X', rfl⟩ := hw'; have HF' := Lib.hid hF'; clear hF'; go_wp2_with (fail); exact ⟨rfl, (by repeat (first | exact Ext.refl _ | apply Ext.plus | apply Ext.alloc | apply Ext.drew))⟩)); (case hv => kernel_rfl))
      refine YReg.kind (fun w' hw' hF' => ?_) (fun v w1 hK => ?_)
      · obtain ⟨X', rfl⟩ := hw'
        clear hF'
        go_wp2_with fail
        refine (specSpanPut_any _ ls ⟨xf, xt⟩ _ (HL.out.ext rSpn_stable (by repeat (first | exact Ext.refl _ | apply Ext.plus | apply Ext.alloc | apply Ext.drew)))).mono ?_
        rintro e _ ⟨v3, rfl, ⟨X3, rfl⟩, hO⟩
        have H3 := Lib.hid (by rw [HPE.out] at hO; exact row_spn hO HPO.out)
        clear hO
        obtain ⟨b3, d3, rfl⟩ := H3.out.len
        go_wp2
        exact ⟨(by repeat (first | exact Ext.refl _ | apply Ext.plus | apply Ext.alloc | apply Ext.drew)), _, _, rfl, H3.out⟩
      obtain ⟨b3, d3, rfl, hs3⟩ := hK
      clear hs3 w1
      (apply YReg.val (.bool true); (case h => (intro w' hw' hF'; obtain ⟨X', rfl⟩ := hw'; have HF' := Lib.hid hF'; clear hF'; go_wp2_with ((go_at_call 26; refine (lwSpans_self _ _ P _ (HP.out.ext rSpn_stable (by repeat (first | exact Ext.refl _ | apply Ext.plus | apply Ext.alloc | apply Ext.drew))) (kSl_r (HF'.out.get 3 (p := (kSl 2 rSpn P, .slice b3 P.length d3)) (by kernel_rfl) (by kernel_rfl)))).mono ?_; rintro e _ ⟨rfl, Y3, rfl⟩)); exact ⟨rfl, (by repeat (first | exact Ext.refl _ | apply Ext.plus | apply Ext.alloc | apply Ext.drew))⟩)); (case hv => kernel_rfl))
      iterate 2 (apply YReg.val (.bool false); (case h => (intro w' hw' hF'; obtain ⟨X', rfl⟩ := hw'; have HF' := Lib.hid hF'; clear hF'; go_wp2_with (fail); exact ⟨rfl, (by repeat (first | exact Ext.refl _ | apply Ext.plus | apply Ext.alloc | apply Ext.drew))⟩)); (case hv => kernel_rfl))
      (apply YReg.val (.int .i64 T); (case h => (intro w' hw' hF'; obtain ⟨X', rfl⟩ := hw'; have HF' := Lib.hid hF'; clear hF'; go_wp2_with (fail); exact ⟨rfl, (by repeat (first | exact Ext.refl _ | apply Ext.plus | apply Ext.alloc | apply Ext.drew))⟩)); (case hv => kernel_rfl))
      (apply YReg.val (.slice ar rs.length kr); (case h => (intro w' hw' hF'; obtain ⟨X', rfl⟩ := hw'; have HF' := Lib.hid hF'; clear hF'; go_wp2_with (fail); exact ⟨rfl, (by repeat (first | exact Ext.refl _ | apply Ext.plus | apply Ext.alloc | apply Ext.drew))⟩)); (case hv => kernel_rfl))
      (apply YReg.val (.int .i64 need); (case h => (intro w' hw' hF'; obtain ⟨X', rfl⟩ := hw'; have HF' := Lib.hid hF'; clear hF'; go_wp2_with (fail); exact ⟨rfl, (by repeat (first | exact Ext.refl _ | apply Ext.plus | apply Ext.alloc | apply Ext.drew))⟩)); (case hv => kernel_rfl))
      (apply YReg.val (.int .i64 len); (case h => (intro w' hw' hF'; obtain ⟨X', rfl⟩ := hw'; have HF' := Lib.hid hF'; clear hF'; go_wp2_with (fail); exact ⟨rfl, (by repeat (first | exact Ext.refl _ | apply Ext.plus | apply Ext.alloc | apply Ext.drew))⟩)); (case hv => kernel_rfl))
      (apply YReg.val (.int .i64 now); (case h => (intro w' hw' hF'; obtain ⟨X', rfl⟩ := hw'; have HF' := Lib.hid hF'; clear hF'; go_wp2_with (fail); exact ⟨rfl, (by repeat (first | exact Ext.refl _ | apply Ext.plus | apply Ext.alloc | apply Ext.drew))⟩)); (case hv => kernel_rfl))
      (apply YReg.val (.int .i64 T); (case h => (intro w' hw' hF'; obtain ⟨X', rfl⟩ := hw'; have HF' := Lib.hid hF'; clear hF'; go_wp2_with ((go_at_call 28; refine (specFirstFit_any _ rs need len now _ (HRS.out.ext rSpnS_stable (by repeat (first | exact Ext.refl _ | apply Ext.plus | apply Ext.alloc | apply Ext.drew))) HRL.out).mono ?_; rintro e _ ⟨rfl, Y3, rfl⟩; rw [HTE.out])); exact ⟨rfl, (by repeat (first | exact Ext.refl _ | apply Ext.plus | apply Ext.alloc | apply Ext.drew))⟩)); (case hv => kernel_rfl))
      iterate 3 (apply YReg.val (.bool false); (case h => (intro w' hw' hF'; obtain ⟨X', rfl⟩ := hw'; have HF' := Lib.hid hF'; clear hF'; go_wp2_with (fail); exact ⟨rfl, (by repeat (first | exact Ext.refl _ | apply Ext.plus | apply Ext.alloc | apply Ext.drew))⟩)); (case hv => kernel_rfl))
      (apply YReg.val (.slice aw ws.length kw); (case h => (intro w' hw' hF'; obtain ⟨X', rfl⟩ := hw'; have HF' := Lib.hid hF'; clear hF'; go_wp2_with (fail); exact ⟨rfl, (by repeat (first | exact Ext.refl _ | apply Ext.plus | apply Ext.alloc | apply Ext.drew))⟩)); (case hv => kernel_rfl))
      (apply YReg.val (.int .i64 n); (case h => (intro w' hw' hF'; obtain ⟨X', rfl⟩ := hw'; have HF' := Lib.hid hF'; clear hF'; go_wp2_with (fail); exact ⟨rfl, (by repeat (first | exact Ext.refl _ | apply Ext.plus | apply Ext.alloc | apply Ext.drew))⟩)); (case hv => kernel_rfl))
      (apply YReg.val (.agg #[(.int .i64 yf), (.int .i64 yt)]); (case h => (intro w' hw' hF'; obtain ⟨X', rfl⟩ := hw'; have HF' := Lib.hid hF'; clear hF'; go_wp2_with (fail); exact ⟨rfl, (by repeat (first | exact Ext.refl _ | apply Ext.plus | apply Ext.alloc | apply Ext.drew))⟩)); (case hv => kernel_rfl))
      refine YReg.kind (fun w' hw' hF' => ?_) (fun v w1 hK => ?_)
      · obtain ⟨X', rfl⟩ := hw'
        clear hF'
        go_wp2_with fail
        refine (implFitNodes_any _ ws n ⟨yf, yt⟩ _ (HWS.out.ext rSpnS_stable (by repeat (first | exact Ext.refl _ | apply Ext.plus | apply Ext.alloc | apply Ext.drew))) HWL.out).mono ?_
        rintro e _ ⟨v3, rfl, ⟨X3, rfl⟩, hO⟩
        have H3 := Lib.hid (by rw [HNE.out] at hO; exact row_int hO HN.out)
        clear hO
        obtain ⟨b3, d3, rfl⟩ := H3.out.len
        go_wp2
        exact ⟨(by repeat (first | exact Ext.refl _ | apply Ext.plus | apply Ext.alloc | apply Ext.drew)), _, _, rfl, H3.out⟩
      obtain ⟨b4, d4, rfl, hs3⟩ := hK
      clear hs3 w1
      (apply YReg.val (.slice aw ws.length kw); (case h => (intro w' hw' hF'; obtain ⟨X', rfl⟩ := hw'; have HF' := Lib.hid hF'; clear hF'; go_wp2_with (fail); exact ⟨rfl, (by repeat (first | exact Ext.refl _ | apply Ext.plus | apply Ext.alloc | apply Ext.drew))⟩)); (case hv => kernel_rfl))
      (apply YReg.val (.int .i64 n); (case h => (intro w' hw' hF'; obtain ⟨X', rfl⟩ := hw'; have HF' := Lib.hid hF'; clear hF'; go_wp2_with (fail); exact ⟨rfl, (by repeat (first | exact Ext.refl _ | apply Ext.plus | apply Ext.alloc | apply Ext.drew))⟩)); (case hv => kernel_rfl))
      (apply YReg.val (.agg #[(.int .i64 yf), (.int .i64 yt)]); (case h => (intro w' hw' hF'; obtain ⟨X', rfl⟩ := hw'; have HF' := Lib.hid hF'; clear hF'; go_wp2_with (fail); exact ⟨rfl, (by repeat (first | exact Ext.refl _ | apply Ext.plus | apply Ext.alloc | apply Ext.drew))⟩)); (case hv => kernel_rfl))
      refine YReg.kind (fun w' hw' hF' => ?_) (fun v w1 hK => ?_)
      · obtain ⟨X', rfl⟩ := hw'
        clear hF'
        go_wp2_with fail
        refine (specFitNodes_any _ ws n ⟨yf, yt⟩ _ (HWS.out.ext rSpnS_stable (by repeat (first | exact Ext.refl _ | apply Ext.plus | apply Ext.alloc | apply Ext.drew))) HWL.out).mono ?_
        rintro e _ ⟨v3, rfl, ⟨X3, rfl⟩, hO⟩
        have H3 := Lib.hid (by rw [HNE.out] at hO; exact row_int hO HN.out)
        clear hO
        obtain ⟨b3, d3, rfl⟩ := H3.out.len
        go_wp2
        exact ⟨(by repeat (first | exact Ext.refl _ | apply Ext.plus | apply Ext.alloc | apply Ext.drew)), _, _, rfl, H3.out⟩
      obtain ⟨b5, d5, rfl, hs3⟩ := hK
      clear hs3 w1
      (apply YReg.val (.bool true); (case h => (intro w' hw' hF'; obtain ⟨X', rfl⟩ := hw'; have HF' := Lib.hid hF'; clear hF'; go_wp2_with ((go_at_call 29; refine (lwNums_self _ _ N _ (kSl_r (HF'.out.get 19 (p := (kSl 1 rInt N, .slice b4 N.length d4)) (by kernel_rfl) (by kernel_rfl))) (kSl_r (HF'.out.get 23 (p := (kSl 1 rInt N, .slice b5 N.length d5)) (by kernel_rfl) (by kernel_rfl)))).mono ?_; rintro e _ ⟨rfl, Y3, rfl⟩)); exact ⟨rfl, (by repeat (first | exact Ext.refl _ | apply Ext.plus | apply Ext.alloc | apply Ext.drew))⟩)); (case hv => kernel_rfl))
      iterate 3 (apply YReg.val (.bool false); (case h => (intro w' hw' hF'; obtain ⟨X', rfl⟩ := hw'; have HF' := Lib.hid hF'; clear hF'; go_wp2_with (fail); exact ⟨rfl, (by repeat (first | exact Ext.refl _ | apply Ext.plus | apply Ext.alloc | apply Ext.drew))⟩)); (case hv => kernel_rfl))
      (apply YReg.val (.slice af fs.length kf); (case h => (intro w' hw' hF'; obtain ⟨X', rfl⟩ := hw'; have HF' := Lib.hid hF'; clear hF'; go_wp2_with (fail); exact ⟨rfl, (by repeat (first | exact Ext.refl _ | apply Ext.plus | apply Ext.alloc | apply Ext.drew))⟩)); (case hv => kernel_rfl))
      (apply YReg.val (.agg #[(.int .i64 zf), (.int .i64 zt)]); (case h => (intro w' hw' hF'; obtain ⟨X', rfl⟩ := hw'; have HF' := Lib.hid hF'; clear hF'; go_wp2_with (fail); exact ⟨rfl, (by repeat (first | exact Ext.refl _ | apply Ext.plus | apply Ext.alloc | apply Ext.drew))⟩)); (case hv => kernel_rfl))
      (apply YReg.val (.bool F); (case h => (intro w' hw' hF'; obtain ⟨X', rfl⟩ := hw'; have HF' := Lib.hid hF'; clear hF'; go_wp2_with ((go_at_call 32; refine (implIsFree_any _ fs zf zt _ (HFS.out.ext rSpn_stable (by repeat (first | exact Ext.refl _ | apply Ext.plus | apply Ext.alloc | apply Ext.drew)))).mono ?_; rintro e _ ⟨rfl, Y3, rfl⟩; rw [HFE.out])); exact ⟨rfl, (by repeat (first | exact Ext.refl _ | apply Ext.plus | apply Ext.alloc | apply Ext.drew))⟩)); (case hv => kernel_rfl))
      (apply YReg.val (.slice af fs.length kf); (case h => (intro w' hw' hF'; obtain ⟨X', rfl⟩ := hw'; have HF' := Lib.hid hF'; clear hF'; go_wp2_with (fail); exact ⟨rfl, (by repeat (first | exact Ext.refl _ | apply Ext.plus | apply Ext.alloc | apply Ext.drew))⟩)); (case hv => kernel_rfl))
      (apply YReg.val (.agg #[(.int .i64 zf), (.int .i64 zt)]); (case h => (intro w' hw' hF'; obtain ⟨X', rfl⟩ := hw'; have HF' := Lib.hid hF'; clear hF'; go_wp2_with (fail); exact ⟨rfl, (by repeat (first | exact Ext.refl _ | apply Ext.plus | apply Ext.alloc | apply Ext.drew))⟩)); (case hv => kernel_rfl))
      (apply YReg.val (.bool F); (case h => (intro w' hw' hF'; obtain ⟨X', rfl⟩ := hw'; have HF' := Lib.hid hF'; clear hF'; go_wp2_with ((go_at_call 33; refine (specIsFree_any _ fs zf zt _ (HFS.out.ext rSpn_stable (by repeat (first | exact Ext.refl _ | apply Ext.plus | apply Ext.alloc | apply Ext.drew)))).mono ?_; rintro e _ ⟨rfl, Y3, rfl⟩; rw [HFE.out])); exact ⟨rfl, (by repeat (first | exact Ext.refl _ | apply Ext.plus | apply Ext.alloc | apply Ext.drew))⟩)); (case hv => kernel_rfl))
      iterate 3 (apply YReg.val (.bool false); (case h => (intro w' hw' hF'; obtain ⟨X', rfl⟩ := hw'; have HF' := Lib.hid hF'; clear hF'; go_wp2_with (fail); exact ⟨rfl, (by repeat (first | exact Ext.refl _ | apply Ext.plus | apply Ext.alloc | apply Ext.drew))⟩)); (case hv => kernel_rfl))
      (apply YReg.val (.slice al ls.length kl); (case h => (intro w' hw' hF'; obtain ⟨X', rfl⟩ := hw'; have HF' := Lib.hid hF'; clear hF'; go_wp2_with (fail); exact ⟨rfl, (by repeat (first | exact Ext.refl _ | apply Ext.plus | apply Ext.alloc | apply Ext.drew))⟩)); (case hv => kernel_rfl))
      (apply YReg.val (.bool S); (case h => (intro w' hw' hF'; obtain ⟨X', rfl⟩ := hw'; have HF' := Lib.hid hF'; clear hF'; go_wp2_with ((go_at_call 34; refine (implSpansRight_any _ ls _ (HL.out.ext rSpn_stable (by repeat (first | exact Ext.refl _ | apply Ext.plus | apply Ext.alloc | apply Ext.drew)))).mono ?_; rintro e _ ⟨rfl, Y3, rfl⟩; rw [HSE.out])); exact ⟨rfl, (by repeat (first | exact Ext.refl _ | apply Ext.plus | apply Ext.alloc | apply Ext.drew))⟩)); (case hv => kernel_rfl))
      (apply YReg.val (.slice al ls.length kl); (case h => (intro w' hw' hF'; obtain ⟨X', rfl⟩ := hw'; have HF' := Lib.hid hF'; clear hF'; go_wp2_with (fail); exact ⟨rfl, (by repeat (first | exact Ext.refl _ | apply Ext.plus | apply Ext.alloc | apply Ext.drew))⟩)); (case hv => kernel_rfl))
      (apply YReg.val (.bool S); (case h => (intro w' hw' hF'; obtain ⟨X', rfl⟩ := hw'; have HF' := Lib.hid hF'; clear hF'; go_wp2_with ((go_at_call 35; refine (specSpansRight_any _ ls _ (HL.out.ext rSpn_stable (by repeat (first | exact Ext.refl _ | apply Ext.plus | apply Ext.alloc | apply Ext.drew)))).mono ?_; rintro e _ ⟨rfl, Y3, rfl⟩; rw [HSE.out])); exact ⟨rfl, (by repeat (first | exact Ext.refl _ | apply Ext.plus | apply Ext.alloc | apply Ext.drew))⟩)); (case hv => kernel_rfl))
      iterate 2 (apply YReg.val (.bool false); (case h => (intro w' hw' hF'; obtain ⟨X', rfl⟩ := hw'; have HF' := Lib.hid hF'; clear hF'; go_wp2_with (fail); exact ⟨rfl, (by repeat (first | exact Ext.refl _ | apply Ext.plus | apply Ext.alloc | apply Ext.drew))⟩)); (case hv => kernel_rfl))
      refine YReg.doneN (fun X7 _ => ?_)
      clear HN HNL HNE HFE HSE HFS HWS HWL
      have HTE' := HTE
      by_cases hc : ((spnsOk ls && spnOk ⟨xf, xt⟩ && freeL ls ⟨xf, xt⟩) = true ∧ ls.length < 20)
      · obtain ⟨hc1, hc2⟩ := hc
        obtain ⟨hp1, hp2, hp3⟩ := putL_free hc1 hc2
        rw [HPE.out] at hp1 hp2 hp3
        have hp4 : (spnsOk P && spnOk ⟨xf, xt⟩ && freeL P ⟨xf, xt⟩) = false := by rw [hp3, Bool.and_false]
        have hq1 : decide ((ls.length : Int) < 20) = true := decide_eq_true (by omega)
        have hq2 : ((P.length : Int) != (ls.length : Int) + 1) = false := by rw [hp1]; simp
        have hlw : wrap64 ((ls.length : Int) + 1) = (ls.length : Int) + 1 := by unfold wrap64; omega
        have HC1 := Lib.hid hc1
        have HP2 := Lib.hid hp2
        have HP4 := Lib.hid hp4
        clear hc1 hc2 hp1 hp2 hp3 hp4 HTE'
        go_wp2_with fail
        refine (specIsFree_any _ ls xf xt _ (HL.out.ext rSpn_stable (by repeat (first | exact Ext.refl _ | apply Ext.plus | apply Ext.alloc | apply Ext.drew)))).mono ?_
        rintro e _ ⟨rfl, Y1, rfl⟩
        rw [HC1.out]
        go_wp2_with fail
        refine (implIsFree_any _ P xf xt _ (HP.out.ext rSpn_stable (by repeat (first | exact Ext.refl _ | apply Ext.plus | apply Ext.alloc | apply Ext.drew)))).mono ?_
        rintro e _ ⟨rfl, Y2, rfl⟩
        rw [HP4.out]
        go_wp2_with fail
        refine (specSpansRight_any _ P _ (HP.out.ext rSpn_stable (by repeat (first | exact Ext.refl _ | apply Ext.plus | apply Ext.alloc | apply Ext.drew)))).mono ?_
        rintro e _ ⟨rfl, Y3, rfl⟩
        rw [HP2.out]
        clear HC1 HP2 HP4
        go_upto_region 13 with fail
        refine gen_world ?_
        intro W hW
        have HEW := Lib.hid (show Ext w W by rw [hW]; exact (by repeat (first | exact Ext.refl _ | apply Ext.plus | apply Ext.alloc | apply Ext.drew)))
        have HRW := Lib.hid (HRS.out.ext rSpnS_stable (show Ext _ W by rw [hW]; exact (by repeat (first | exact Ext.refl _ | apply Ext.plus | apply Ext.alloc | apply Ext.drew))))
        clear hW
        clear HRS HL HP HPO HPE HXO HLL
        by_cases hT : T < 0
        · have hb : decide (T < 0) = true := decide_eq_true hT
          clear hT HTE
          go_wp2
          go_ret
          exact ⟨rfl, HEW.out.trans (by repeat (first | exact Ext.refl _ | apply Ext.plus | apply Ext.alloc | apply Ext.drew))⟩
        · have hb : decide (T < 0) = false := decide_eq_false hT
          have hT' : ¬ firstFit rs need len now < 0 := by rw [HTE.out]; exact hT
          have hbd := firstFit_bd hT'
          rw [HTE.out] at hbd
          have HBD := Lib.hid hbd
          have hfit := fit_first hT'
          rw [HTE.out] at hfit
          have HFA : Hid (∀ k, now ≤ k → k < T → fitNodes rs need ⟨k, k + len⟩ = []) := Lib.hid (fun k hk hk2 => fit_before hT' hk (by rw [HTE.out]; exact hk2))
          have hw1 : wrap64 (T + len) = T + len := by unfold wrap64; omega
          have hq : (((fitNodes rs need ⟨T, T + len⟩).length : Int) != need) = false := by simp [hfit]
          clear hT hT' hbd hfit HTE
          go_wp2_with fail
          refine (implFitNodes_any _ rs need ⟨T, T + len⟩ _ (HRW.out.ext rSpnS_stable (by repeat (first | exact Ext.refl _ | apply Ext.plus | apply Ext.alloc | apply Ext.drew))) HRL.out).mono ?_
          rintro e _ ⟨v3, rfl, ⟨X8, rfl⟩, hO⟩
          obtain ⟨a9, c9, rfl⟩ := hO.shape
          clear hO
          generalize (fitNodes rs need ⟨T, T + len⟩).length = m9 at hq
          go_wp2
          clear hq hw1 hb
          go_loopw [18] (fun i wr => ∃ k : Int, i = (.int .i64 k) ∧ Hid (now ≤ k) ∧ Hid (k ≤ T) ∧ Ext W wr) (fun i _ => (T - intOf i).toNat)
          case atStart => exact ⟨now, rfl, Lib.hid (Int.le_refl _), Lib.hid HBD.out.2.1, (by repeat (first | exact Ext.refl _ | apply Ext.plus | apply Ext.alloc | apply Ext.drew))⟩
          case round =>
            obtain ⟨k, rfl, HK1, HK2, ⟨X, rfl⟩⟩ := hrel
            cases hlt : decide (k < T)
            · have hn : ¬ k < T := of_decide_eq_false hlt
              clear hn
              go_wp2
              go_ret
              exact ⟨rfl, HEW.out.trans (by repeat (first | exact Ext.refl _ | apply Ext.plus | apply Ext.alloc | apply Ext.drew))⟩
            · have hk : k < T := of_decide_eq_true hlt
              have HE9 := Lib.hid (HFA.out k HK1.out hk)
              have HK3 := Lib.hid hk
              have h1 := HK1.out
              have h2 := HBD.out
              have hw1 : wrap64 (k + len) = k + len := by unfold wrap64; omega
              have hw2 : wrap64 (k + 1) = k + 1 := by unfold wrap64; omega
              clear hk h1 h2
              go_wp2_with fail
              refine (implFitNodes_any _ rs need ⟨k, k + len⟩ _ (HRW.out.ext rSpnS_stable (by repeat (first | exact Ext.refl _ | apply Ext.plus | apply Ext.alloc | apply Ext.drew))) HRL.out).mono ?_
              rintro e _ ⟨v3, rfl, ⟨X9, rfl⟩, hO⟩
              rw [HE9.out] at hO
              obtain ⟨a9, c9, rfl⟩ := hO.shape
              clear hO
              go_wp2
              exact ⟨⟨k + 1, by rw [hw2], Lib.hid (by have := HK1.out; omega), Lib.hid (by have := HK3.out; omega), (by repeat (first | exact Ext.refl _ | apply Ext.plus | apply Ext.alloc | apply Ext.drew))⟩, by have := HK3.out; simp [intOf, hw2]; omega⟩
      · cases hc1 : (spnsOk ls && spnOk ⟨xf, xt⟩ && freeL ls ⟨xf, xt⟩)
        · have HC1 := Lib.hid hc1
          clear hc1 hc HTE'
          go_wp2_with fail
          refine (specIsFree_any _ ls xf xt _ (HL.out.ext rSpn_stable (by repeat (first | exact Ext.refl _ | apply Ext.plus | apply Ext.alloc | apply Ext.drew)))).mono ?_
          rintro e _ ⟨rfl, Y1, rfl⟩
          rw [HC1.out]
          clear HC1
          go_upto_region 13 with fail
          refine gen_world ?_
          intro W hW
          have HEW := Lib.hid (show Ext w W by rw [hW]; exact (by repeat (first | exact Ext.refl _ | apply Ext.plus | apply Ext.alloc | apply Ext.drew)))
          have HRW := Lib.hid (HRS.out.ext rSpnS_stable (show Ext _ W by rw [hW]; exact (by repeat (first | exact Ext.refl _ | apply Ext.plus | apply Ext.alloc | apply Ext.drew))))
          clear hW
          clear HRS HL HP HPO HPE HXO HLL
          by_cases hT : T < 0
          · have hb : decide (T < 0) = true := decide_eq_true hT
            clear hT HTE
            go_wp2
            go_ret
            exact ⟨rfl, HEW.out.trans (by repeat (first | exact Ext.refl _ | apply Ext.plus | apply Ext.alloc | apply Ext.drew))⟩
          · have hb : decide (T < 0) = false := decide_eq_false hT
            have hT' : ¬ firstFit rs need len now < 0 := by rw [HTE.out]; exact hT
            have hbd := firstFit_bd hT'
            rw [HTE.out] at hbd
            have HBD := Lib.hid hbd
            have hfit := fit_first hT'
            rw [HTE.out] at hfit
            have HFA : Hid (∀ k, now ≤ k → k < T → fitNodes rs need ⟨k, k + len⟩ = []) := Lib.hid (fun k hk hk2 => fit_before hT' hk (by rw [HTE.out]; exact hk2))
            have hw1 : wrap64 (T + len) = T + len := by unfold wrap64; omega
            have hq : (((fitNodes rs need ⟨T, T + len⟩).length : Int) != need) = false := by simp [hfit]
            clear hT hT' hbd hfit HTE
            go_wp2_with fail
            refine (implFitNodes_any _ rs need ⟨T, T + len⟩ _ (HRW.out.ext rSpnS_stable (by repeat (first | exact Ext.refl _ | apply Ext.plus | apply Ext.alloc | apply Ext.drew))) HRL.out).mono ?_
            rintro e _ ⟨v3, rfl, ⟨X8, rfl⟩, hO⟩
            obtain ⟨a9, c9, rfl⟩ := hO.shape
            clear hO
            generalize (fitNodes rs need ⟨T, T + len⟩).length = m9 at hq
            go_wp2
            clear hq hw1 hb
            go_loopw [18] (fun i wr => ∃ k : Int, i = (.int .i64 k) ∧ Hid (now ≤ k) ∧ Hid (k ≤ T) ∧ Ext W wr) (fun i _ => (T - intOf i).toNat)
            case atStart => exact ⟨now, rfl, Lib.hid (Int.le_refl _), Lib.hid HBD.out.2.1, (by repeat (first | exact Ext.refl _ | apply Ext.plus | apply Ext.alloc | apply Ext.drew))⟩
            case round =>
              obtain ⟨k, rfl, HK1, HK2, ⟨X, rfl⟩⟩ := hrel
              cases hlt : decide (k < T)
              · have hn : ¬ k < T := of_decide_eq_false hlt
                clear hn
                go_wp2
                go_ret
                exact ⟨rfl, HEW.out.trans (by repeat (first | exact Ext.refl _ | apply Ext.plus | apply Ext.alloc | apply Ext.drew))⟩
              · have hk : k < T := of_decide_eq_true hlt
                have HE9 := Lib.hid (HFA.out k HK1.out hk)
                have HK3 := Lib.hid hk
                have h1 := HK1.out
                have h2 := HBD.out
                have hw1 : wrap64 (k + len) = k + len := by unfold wrap64; omega
                have hw2 : wrap64 (k + 1) = k + 1 := by unfold wrap64; omega
                clear hk h1 h2
                go_wp2_with fail
                refine (implFitNodes_any _ rs need ⟨k, k + len⟩ _ (HRW.out.ext rSpnS_stable (by repeat (first | exact Ext.refl _ | apply Ext.plus | apply Ext.alloc | apply Ext.drew))) HRL.out).mono ?_
                rintro e _ ⟨v3, rfl, ⟨X9, rfl⟩, hO⟩
                rw [HE9.out] at hO
                obtain ⟨a9, c9, rfl⟩ := hO.shape
                clear hO
                go_wp2
                exact ⟨⟨k + 1, by rw [hw2], Lib.hid (by have := HK1.out; omega), Lib.hid (by have := HK3.out; omega), (by repeat (first | exact Ext.refl _ | apply Ext.plus | apply Ext.alloc | apply Ext.drew))⟩, by have := HK3.out; simp [intOf, hw2]; omega⟩
        · have hq1 : decide ((ls.length : Int) < 20) = false := decide_eq_false (fun h => hc ⟨hc1, by omega⟩)
          have HC1 := Lib.hid hc1
          clear hc1 hc HTE'
          go_wp2_with fail
          refine (specIsFree_any _ ls xf xt _ (HL.out.ext rSpn_stable (by repeat (first | exact Ext.refl _ | apply Ext.plus | apply Ext.alloc | apply Ext.drew)))).mono ?_
          rintro e _ ⟨rfl, Y1, rfl⟩
          rw [HC1.out]
          clear HC1
          go_upto_region 13 with fail
          refine gen_world ?_
          intro W hW
          have HEW := Lib.hid (show Ext w W by rw [hW]; exact (by repeat (first | exact Ext.refl _ | apply Ext.plus | apply Ext.alloc | apply Ext.drew)))
          have HRW := Lib.hid (HRS.out.ext rSpnS_stable (show Ext _ W by rw [hW]; exact (by repeat (first | exact Ext.refl _ | apply Ext.plus | apply Ext.alloc | apply Ext.drew))))
          clear hW
          clear HRS HL HP HPO HPE HXO HLL
          by_cases hT : T < 0
          · have hb : decide (T < 0) = true := decide_eq_true hT
            clear hT HTE
            go_wp2
            go_ret
            exact ⟨rfl, HEW.out.trans (by repeat (first | exact Ext.refl _ | apply Ext.plus | apply Ext.alloc | apply Ext.drew))⟩
          · have hb : decide (T < 0) = false := decide_eq_false hT
            have hT' : ¬ firstFit rs need len now < 0 := by rw [HTE.out]; exact hT
            have hbd := firstFit_bd hT'
            rw [HTE.out] at hbd
            have HBD := Lib.hid hbd
            have hfit := fit_first hT'
            rw [HTE.out] at hfit
            have HFA : Hid (∀ k, now ≤ k → k < T → fitNodes rs need ⟨k, k + len⟩ = []) := Lib.hid (fun k hk hk2 => fit_before hT' hk (by rw [HTE.out]; exact hk2))
            have hw1 : wrap64 (T + len) = T + len := by unfold wrap64; omega
            have hq : (((fitNodes rs need ⟨T, T + len⟩).length : Int) != need) = false := by simp [hfit]
            clear hT hT' hbd hfit HTE
            go_wp2_with fail
            refine (implFitNodes_any _ rs need ⟨T, T + len⟩ _ (HRW.out.ext rSpnS_stable (by repeat (first | exact Ext.refl _ | apply Ext.plus | apply Ext.alloc | apply Ext.drew))) HRL.out).mono ?_
            rintro e _ ⟨v3, rfl, ⟨X8, rfl⟩, hO⟩
            obtain ⟨a9, c9, rfl⟩ := hO.shape
            clear hO
            generalize (fitNodes rs need ⟨T, T + len⟩).length = m9 at hq
            go_wp2
            clear hq hw1 hb
            go_loopw [18] (fun i wr => ∃ k : Int, i = (.int .i64 k) ∧ Hid (now ≤ k) ∧ Hid (k ≤ T) ∧ Ext W wr) (fun i _ => (T - intOf i).toNat)
            case atStart => exact ⟨now, rfl, Lib.hid (Int.le_refl _), Lib.hid HBD.out.2.1, (by repeat (first | exact Ext.refl _ | apply Ext.plus | apply Ext.alloc | apply Ext.drew))⟩
            case round =>
              obtain ⟨k, rfl, HK1, HK2, ⟨X, rfl⟩⟩ := hrel
              cases hlt : decide (k < T)
              · have hn : ¬ k < T := of_decide_eq_false hlt
                clear hn
                go_wp2
                go_ret
                exact ⟨rfl, HEW.out.trans (by repeat (first | exact Ext.refl _ | apply Ext.plus | apply Ext.alloc | apply Ext.drew))⟩
              · have hk : k < T := of_decide_eq_true hlt
                have HE9 := Lib.hid (HFA.out k HK1.out hk)
                have HK3 := Lib.hid hk
                have h1 := HK1.out
                have h2 := HBD.out
                have hw1 : wrap64 (k + len) = k + len := by unfold wrap64; omega
                have hw2 : wrap64 (k + 1) = k + 1 := by unfold wrap64; omega
                clear hk h1 h2
                go_wp2_with fail
                refine (implFitNodes_any _ rs need ⟨k, k + len⟩ _ (HRW.out.ext rSpnS_stable (by repeat (first | exact Ext.refl _ | apply Ext.plus | apply Ext.alloc | apply Ext.drew))) HRL.out).mono ?_
                rintro e _ ⟨v3, rfl, ⟨X9, rfl⟩, hO⟩
                rw [HE9.out] at hO
                obtain ⟨a9, c9, rfl⟩ := hO.shape
                clear hO
                go_wp2
                exact ⟨⟨k + 1, by rw [hw2], Lib.hid (by have := HK1.out; omega), Lib.hid (by have := HK3.out; omega), (by repeat (first | exact Ext.refl _ | apply Ext.plus | apply Ext.alloc | apply Ext.drew))⟩, by have := HK3.out; simp [intOf, hw2]; omega⟩
    · go_enter Try.func4, Try.ntmps4
      go_wp2
      go_ret
      exact ⟨rfl, (by repeat (first | exact Ext.refl _ | apply Ext.plus | apply Ext.alloc | apply Ext.drew))⟩
  · go_enter Try.func4, Try.ntmps4
    go_wp2
    go_ret
    exact ⟨rfl, (by repeat (first | exact Ext.refl _ | apply Ext.plus | apply Ext.alloc | apply Ext.drew))⟩
end Go.Proofs.Ytkekfncgpbileaa
