/- The implementation's desk: maps of words; which lines are right. -/
import Derived.Test.YtbmbanelodabgaaGreatDoorKMI1
import Derived.Test.YtbmbanelodabgaaGreatDoorKMS3
import Derived.Maps.OwnOps
set_option maxRecDepth 100000
set_option linter.unusedVariables false
set_option linter.unusedSimpArgs false
namespace Go.Proofs.YtbmbanelodabgaaGreatDoor
open Go.RowKit Go.Fin1 Go.Maps Go.WideMaps
theorem keyedS:Keyed Tryz.prog 9:=string_keyed Tryz.underlying9
structure MapW (e:TypeId) (w0 w:World) (b n:Nat) (D:DataW Unit):Prop where
 own:w.ownsMap Tryz.prog 9 (plainElem Tryz.prog e) b n D
 ext:Ext w0 w
 new:w0.heap.size≤b
theorem mapW_made (e:TypeId) {w0 w:World} (h:Ext w0 w):MapW e w0 (w.alloc (.map #[] 0)) w.heap.size 0 (.map []) :=
 ⟨World.ownsMap_made _ _ _ _,h.alloc _,h.below.size⟩
theorem ins_step {e:TypeId} {w0 w:World} {ops:Array Oper} {rest:List Oper} {o:Oper} {a:Act} {Q:Exit→Act→World→Prop} {b n:Nat} {D:DataW Unit}
  (hg:o.guard=none) (m x v:Operand) (t:TypeId) (hop:o.op=Op.insert t m x v) (he:Tryz.prog.underlying e=some (.int .i64)) (ht:Tryz.prog.underlying t=some (.map 9 e))
  (hM:MapW e w0 w b n D) (hm:a.eval m=.map (some b)) (s:ByteArray) (c:Int) (hx:a.eval x=.string s) (hv:a.eval v=(.int .i64 c)) (hs:s.size≤100) (hc:(Lit.int .i64 c).wf=true) (hn:n < 100)
  (hK:∀ w',MapW e w0 w' b (n+1) (D.put (.string s.data.toList) (.lit (.int .i64 c)))→wpList Tryz.prog ops Q rest (a.put o.dst undef) w') :
  wpList Tryz.prog ops Q (o :: rest) a w:=by
 refine wpList_plain hg fun K' hK'=>?_
 obtain⟨w',hrun,r1,r2⟩:=hM.own.update (val:=(.int .i64 c)) (d:=.lit (.int .i64 c)) (ps:=[]) keyedS ht (by unfold maxLen;omega) (keyOf_string_mk Tryz.underlying9 (show s.size≤maxLen by unfold maxLen;omega)) (plainElem_int he hc)
 unfold Oper.wp
 simp only[execOp,hop,hm,hx,hv]
 simp[hrun,Result.andThen]
 exact hK' _ _ (hK w' ⟨r1,hM.ext.grown r2 (fun k hk=>by cases hk;exact hM.new),hM.new⟩)
theorem look_step {e:TypeId} {w0 w:World} {ops:Array Oper} {rest:List Oper} {o:Oper} {a:Act} {Q:Exit→Act→World→Prop} {b n:Nat} {D:DataW Unit}
  (hg:o.guard=none) (m x:Operand) (t:TypeId) (hop:o.op=Op.lookup t m x false) (he:Tryz.prog.underlying e=some (.int .i64)) (ht:Tryz.prog.underlying t=some (.map 9 e)) (hz:(zeroValue e).run Tryz.prog w=.ok (.int .i64 0) w)
  (hM:MapW e w0 w b n D) (hm:a.eval m=.map (some b)) (s:ByteArray) (hx:a.eval x=.string s) (hs:s.size≤100000)
  (hK:∀ c:Int,D.atKey (.string s.data.toList) (.lit (.int .i64 0))=.lit (.int .i64 c)→wpList Tryz.prog ops Q rest (a.put o.dst (.int .i64 c)) w) :
  wpList Tryz.prog ops Q (o :: rest) a w :=
 wpList_lookup_own_int w hg m x t hop 9 e .i64 keyedS ht he hz b n D hm hM.own _ _ hx (keyOf_string_mk Tryz.underlying9 (show s.size≤maxLen by unfold maxLen;omega)) (fun c h1 _=>hK c h1)
abbrev dM (l:List (Bs×Int)):DataW Unit:=l.foldl (fun D p=>D.put (.string p.1) (.lit (.int .i64 p.2))) (.map [])
def manyM:DataW Unit:=dM [([115,117,98,109,105,116],5),([100,111,110,101],3),([104,111,108,100],3),([119,97,105,116],3),([116,105,99,107],2),([115,101,101],2),([112,108,97,110],2)]
def stateM:DataW Unit:=dM [([100,111,110,101],3),([104,111,108,100],4),([119,97,105,116],1)]
theorem lit_inj {c d:Int} (h:(DataW.lit (.int .i64 c):DataW Unit)=.lit (.int .i64 d)):d=c:=by
 injection h with h
 injection h with _ h
 exact h.symm
theorem key_ne {t u:Bs} (h:¬ t=u):(Lit.string t)≠(Lit.string u):=fun e=>h (by injection e)
theorem many_at {t:Bs} {c:Int} (h:manyM.atKey (.string t) (.lit (.int .i64 0))=.lit (.int .i64 c)):c=(manyW t:Int):=by
 unfold manyW
 by_cases h1:t=kSubmit
 ·rw[if_pos h1];subst h1;unfold kSubmit at h
  exact lit_inj (show (DataW.lit (.int .i64 5):DataW Unit)=_ from h)
 rw[if_neg h1]
 by_cases h2:t=kDone
 ·rw[if_pos (Or.inl h2)];subst h2;unfold kDone at h
  exact lit_inj (show (DataW.lit (.int .i64 3):DataW Unit)=_ from h)
 by_cases h3:t=kHold
 ·rw[if_pos (Or.inr (Or.inl h3))];subst h3;unfold kHold at h
  exact lit_inj (show (DataW.lit (.int .i64 3):DataW Unit)=_ from h)
 by_cases h4:t=kWait
 ·rw[if_pos (Or.inr (Or.inr h4))];subst h4;unfold kWait at h
  exact lit_inj (show (DataW.lit (.int .i64 3):DataW Unit)=_ from h)
 rw[if_neg (by rintro (e | e | e);exact h2 e;exact h3 e;exact h4 e)]
 by_cases h5:t=kTick
 ·rw[if_pos (Or.inl h5)];subst h5;unfold kTick at h
  exact lit_inj (show (DataW.lit (.int .i64 2):DataW Unit)=_ from h)
 by_cases h6:t=kSee
 ·rw[if_pos (Or.inr (Or.inl h6))];subst h6;unfold kSee at h
  exact lit_inj (show (DataW.lit (.int .i64 2):DataW Unit)=_ from h)
 by_cases h7:t=kPlan
 ·rw[if_pos (Or.inr (Or.inr h7))];subst h7;unfold kPlan at h
  exact lit_inj (show (DataW.lit (.int .i64 2):DataW Unit)=_ from h)
 rw[if_neg (by rintro (e | e | e);exact h5 e;exact h6 e;exact h7 e)]
 unfold kSubmit at h1
 unfold kDone at h2
 unfold kHold at h3
 unfold kWait at h4
 unfold kTick at h5
 unfold kSee at h6
 unfold kPlan at h7
 unfold manyM dM at h
 simp only[List.foldl_cons,List.foldl_nil] at h
 rw[atKey_put_other (key_ne h7),atKey_put_other (key_ne h6),atKey_put_other (key_ne h5),atKey_put_other (key_ne h4),atKey_put_other (key_ne h3),atKey_put_other (key_ne h2),atKey_put_other (key_ne h1)] at h
 exact lit_inj (show (DataW.lit (.int .i64 0):DataW Unit)=_ from h)
theorem state_at {t:Bs} {c:Int} (hk:t=kDone∨t=kHold∨t=kWait) (h:stateM.atKey (.string t) (.lit (.int .i64 0))=.lit (.int .i64 c)):c=if t=kDone then 3 else if t=kHold then 4 else 1:=by
 rcases hk with rfl | rfl | rfl
 ·rw[if_pos rfl];unfold kDone at h
  exact lit_inj (show (DataW.lit (.int .i64 3):DataW Unit)=_ from h)
 ·rw[if_neg (by unfold kHold kDone;decide),if_pos rfl];unfold kHold at h
  exact lit_inj (show (DataW.lit (.int .i64 4):DataW Unit)=_ from h)
 ·rw[if_neg (by unfold kWait kDone;decide),if_neg (by unfold kWait kHold;decide)];unfold kWait at h
  exact lit_inj (show (DataW.lit (.int .i64 1):DataW Unit)=_ from h)
theorem manyW_two (t:Bs):manyW t=0∨2≤manyW t:=by
 unfold manyW
 split
 ·exact .inr (by omega)
 ·split
  ·exact .inr (by omega)
  ·split
   ·exact .inr (by omega)
   ·exact .inl rfl
theorem okW_tick {ws:List Bs} (hk:ws.getD 0 []=kTick) (hl:ws.length=2):okW ws=decide (0≤numW (ws.getD 1 [])∧numW (ws.getD 1 [])≤30):=by
 unfold okW
 rw[if_pos hk,hk,decide_eq_true (by rw[hl];unfold manyW kTick kSubmit kDone kHold kWait;rfl),Bool.true_and]
theorem okW_last {ws:List Bs} (hk:¬ ws.getD 0 []=kTick) (hl:ws.length=manyW (ws.getD 0 [])) (h:∀ t∈ws.drop 2,0≤numW t):okW ws=decide ((rdB (ws.getD 1 [])).2=0):=by
 have h1:(ws.drop 2).all (fun t=>decide (0≤numW t))=true:=List.all_eq_true.2 fun t ht=>decide_eq_true (h t ht)
 unfold okW;rw[if_neg hk,h1,decide_eq_true hl,Bool.true_and,Bool.true_and]
theorem Int.beq_eq_decide (a b:Int):(a == b)=decide (a=b):=rfl
set_option maxHeartbeats 1600000 in
theorem isDeskLine_any (xs:List ByteArray) (xa:Option Addr) (xc:Nat) (w:World) (hS:SlR w 1 (rc sCell) (.slice xa xs.length xc) xs) (h0:0 < xs.length) (hl:xs.length≤10000) (hz:∀ x∈xs,x.size≤8000) (hL:LibW w) :
  Calls Tryz.prog 21 #[.slice xa xs.length xc] w fun e w'=>e=.returned (.bool (okW (xs.map dl)))∧Ext w w':=by
 have HL:=tH hL
 have HZ:=tH hz
 have HS:=tH hS
 clear hL hz hS
 obtain⟨bW,oW,rfl⟩:=slr_some HS.out h0
 obtain⟨ho,hc0⟩:=str_at HS.out h0
 rw[Nat.add_zero] at hc0
 have hzi:xs[0].size≤8000:=HZ.out _ (List.getElem_mem h0)
 have HG0:=tH (show (xs.map dl).getD 0 []=dl xs[0] by simp[List.getD,h0])
 have hmm:=@run_makeMap Tryz.prog
 have hM0:=mapW_made 3 (Ext.refl w)
 have hzr:∀ w,(zeroValue 3).run Tryz.prog w=.ok (.int .i64 0) w:=fun w=>by kernel_rfl
 generalize hx0:xs[0]=x0 at hc0 HG0 hzi
 go_enter Tryz.func21,Tryz.ntmps21
 go_upto_region 2 with (first | (refine ins_step rfl _ _ _ _ rfl Tryz.underlying3 Tryz.underlying83 (by assumption) rfl _ _ rfl rfl (by decide) (by decide) (by omega) ?_;intro w9 hM9;have hc9:=hM9.ext.cell hc0) | (at_lookup;refine look_step rfl _ _ _ rfl Tryz.underlying3 Tryz.underlying83 (hzr _) (by assumption) rfl _ rfl (by omega) ?_;intro c hc))
 have hcm:=many_at (t:=dl x0) (c:=c) hc
 refine gen_world (fun W2 hW=>?_)
 have HX2:=tH (show Ext w W2 by rw[hW];exact hM9.ext)
 clear hW hc hmm hM0
 iterate 7 clear hM9 hc9
 iterate 7 clear w9
 subst hcm
 have HS2:=tH (HS.out.ext (rc_stable _) HX2.out)
 have HL2:=tH (HL.out.ext HX2.out)
 clear ho hc0 HL HS
 obtain⟨ho,hc0⟩:=str_at HS2.out h0
 rw[Nat.add_zero,hx0] at hc0
 obtain⟨m,hm⟩:∃ m,manyW (dl x0)=m:=⟨_,rfl⟩
 rw[hm]
 have HM:=tH hm
 clear hm
 by_cases hlen:xs.length=m
 case neg =>
  have hne:((xs.length:Int) != (m:Int))=true:=by simp;omega
  have HNO:=tH (show okW (xs.map dl)=false from okW_len (by rw[HG0.out,HM.out,List.length_map];exact hlen))
  clear hlen
  go_wp2
  go_ret
  exact⟨by rw[HNO.out];rfl,HX2.out⟩
 have hne:((xs.length:Int) != (m:Int))=false:=by simp;omega
 have h2:2≤xs.length:=by
  rcases manyW_two (dl x0) with h | h
  ·rw[HM.out] at h;omega
  ·rw[HM.out] at h;omega
 have HM2:=tH (show xs.length=manyW (dl x0) by rw[HM.out];exact hlen)
 clear hlen HM
 obtain⟨ho1,hc1⟩:=str_at HS2.out (show 1 < xs.length by omega)
 have HG1:=tH (show (xs.map dl).getD 1 []=dl xs[1] by simp[List.getD,show 1 < xs.length by omega])
 have hz1:xs[1].size≤8000:=HZ.out _ (List.getElem_mem _)
 generalize hx1:xs[1]=x1 at hc1 HG1 hz1
 by_cases hk:dl x0=kTick
 ·have htk:(x0.toList == [116,105,99,107])=true:=by
   rw[ByteArray.toList_eq]
   have:kTick=[116,105,99,107]:=by unfold kTick;rfl
   rw[← this]
   exact beq_iff_eq.2 hk
  have HTK:=tH (okW_tick (ws:=xs.map dl) (by rw[HG0.out];exact hk) (by rw[List.length_map,HM2.out,hk];unfold manyW kTick kSubmit kDone kHold kWait;rfl))
  clear hk
  by_cases hn:0≤numW (dl x1)
  ·have hnd:decide (0≤numW (dl x1))=true:=decide_eq_true hn
   have HN:=tH hn
   clear hn
   go_wp2_with (first | (go_at_call 43;refine(isNumber_any x1 _ (by omega) (HL2.out.ext xE)).mono ?_;rintro e _ ⟨rfl,X3,rfl⟩;rw[hnd]) | (go_at_call 44;refine(number_any x1 _ (by omega) HN.out (HL2.out.ext xE)).mono ?_;rintro e _ ⟨rfl,X4,rfl⟩))
   go_ret
   refine⟨?_,HX2.out.trans xE⟩
   rw[HTK.out,HG1.out]
   have hnn:=HN.out
   simp[hnn]
  ·have hnd:decide (0≤numW (dl x1))=false:=decide_eq_false hn
   have HN:=tH hn
   clear hn
   go_wp2_with (go_at_call 43;refine(isNumber_any x1 _ (by omega) (HL2.out.ext xE)).mono ?_;rintro e _ ⟨rfl,X3,rfl⟩;rw[hnd])
   go_ret
   refine⟨?_,HX2.out.trans xE⟩
   rw[HTK.out,HG1.out,decide_eq_false (fun e=>by have h8:=HN.out;omega)]
   rfl
 ·have htk:(x0.toList == [116,105,99,107])=false:=by
   rw[ByteArray.toList_eq]
   have:kTick=[116,105,99,107]:=by unfold kTick;rfl
   rw[← this]
   exact beq_eq_false_iff_ne.2 hk
  have HNK:=tH (show ¬ (xs.map dl).getD 0 []=kTick by rw[HG0.out];exact hk)
  clear hk
  obtain⟨-,hlc,hcm⟩:=slr_len HS2.out
  have hfp:∀ (a b c:Value) w,(Instr.field 71 (.agg #[a,b,c]) 1).run Tryz.prog w=.ok c w:=fun a b c w=>by kernel_rfl
  go_wp2
  case inl h =>
   go_loopw [34] (fun i wr=>∃ j:Nat,j≤xs.length-2∧i=(.int .i64 (j:Int))∧Hid (∀ t∈((xs.map dl).drop 2).take j,0≤numW t)∧Hid (Ext w wr)∧Hid (Ext W2 wr)) (fun i _=>xs.length-(intOf i).toNat)
   case atStart=>exact⟨0,Nat.zero_le _,rfl,tH (by simp),HX2,tH (Ext.refl _)⟩
   case round =>
    obtain⟨j,hj,rfl,HP,HX,HXW⟩:=hrel
    have HSr:=tH (HS2.out.ext (rc_stable _) HXW.out)
    by_cases hlt:j < xs.length-2
    ·exfalso;omega
    ·skip
     have hltb:decide ((j:Int) < ((xs.length-2:Nat):Int))=false:=decide_eq_false (by omega)
     have HAL:=tH (show ∀ t∈(xs.map dl).drop 2,0≤numW t by
      have h:=HP.out
      rw[List.take_of_length_le (by rw[List.length_drop,List.length_map];omega)] at h
      exact h)
     obtain⟨ho1,hc1⟩:=str_at HSr.out (show 1 < xs.length by omega)
     rw[hx1] at hc1
     go_wp2_with (go_at_call 45;refine(implLabelRead_any x1 _ (by omega)).mono ?_;rintro e _ ⟨rfl,X3,rfl⟩)
     go_ret
     refine⟨?_,HX.out.trans xE⟩
     rw[okW_last HNK.out (by rw[HG0.out,List.length_map];exact HM2.out) HAL.out,HG1.out,rdB_dl]
     show Ending.returned (.bool ((rdL x1).2 == 0))=_
     rw[Int.beq_eq_decide]
  case inr h =>
   go_loopw [34] (fun i wr=>∃ j:Nat,j≤xs.length-2∧i=(.int .i64 (j:Int))∧Hid (∀ t∈((xs.map dl).drop 2).take j,0≤numW t)∧Hid (Ext w wr)∧Hid (Ext W2 wr)) (fun i _=>xs.length-(intOf i).toNat)
   case atStart=>exact⟨0,Nat.zero_le _,rfl,tH (by simp),HX2,tH (Ext.refl _)⟩
   case round =>
    obtain⟨j,hj,rfl,HP,HX,HXW⟩:=hrel
    have HSr:=tH (HS2.out.ext (rc_stable _) HXW.out)
    by_cases hlt:j < xs.length-2
    ·skip
     have hltb:decide ((j:Int) < ((xs.length-2:Nat):Int))=true:=decide_eq_true (by omega)
     obtain⟨hoj,hcj⟩:=str_at HSr.out (show 2+j < xs.length by omega)
     rw[show oW+(2+j)=oW+2+j by omega] at hcj
     have hzj:(xs[2+j]'(by omega)).size≤8000:=HZ.out _ (List.getElem_mem _)
     have HMJ:=tH (mem_drop9 (xs:=xs) (F:=2) (j:=2+j) (by omega) (by omega))
     have HTJ:=tH (show ((xs.map dl).drop 2).take (j+1)=((xs.map dl).drop 2).take j++[dl (xs[2+j]'(by omega))] by
      rw[List.take_succ_eq_append_getElem (by rw[List.length_drop,List.length_map];omega),List.getElem_drop,List.getElem_map])
     generalize hxj:(xs[2+j]'(by omega))=xj at hcj hzj HMJ HTJ
     clear hxj
     by_cases hn:0≤numW (dl xj)
     ·have hnd:decide (0≤numW (dl xj))=true:=decide_eq_true hn
      have HN:=tH hn
      clear hn
      go_wp2_with (go_at_call 43;refine(isNumber_any xj _ (by omega) (HL2.out.ext (HXW.out.trans xE))).mono ?_;rintro e _ ⟨rfl,X3,rfl⟩;rw[hnd])
      refine⟨⟨j+1,by omega,by go_num,?_,tH (HX.out.trans xE),tH (HXW.out.trans xE)⟩,?_⟩
      ·refine tH ?_
       rw[HTJ.out]
       intro t ht
       rcases List.mem_append.1 ht with h | h
       ·exact HP.out t h
       ·obtain rfl:=List.mem_singleton.1 h;exact HN.out
      ·simp[intOf];omega
     ·have hnd:decide (0≤numW (dl xj))=false:=decide_eq_false hn
      have HNO:=tH (okW_num HNK.out HMJ.out hn)
      clear hn
      go_wp2_with (go_at_call 43;refine(isNumber_any xj _ (by omega) (HL2.out.ext (HXW.out.trans xE))).mono ?_;rintro e _ ⟨rfl,X3,rfl⟩;rw[hnd])
      go_ret
      exact⟨by rw[HNO.out];rfl,HX.out.trans xE⟩
    ·skip
     have hltb:decide ((j:Int) < ((xs.length-2:Nat):Int))=false:=decide_eq_false (by omega)
     have HAL:=tH (show ∀ t∈(xs.map dl).drop 2,0≤numW t by
      have h:=HP.out
      rw[List.take_of_length_le (by rw[List.length_drop,List.length_map];omega)] at h
      exact h)
     obtain⟨ho1,hc1⟩:=str_at HSr.out (show 1 < xs.length by omega)
     rw[hx1] at hc1
     go_wp2_with (go_at_call 45;refine(implLabelRead_any x1 _ (by omega)).mono ?_;rintro e _ ⟨rfl,X3,rfl⟩)
     go_ret
     refine⟨?_,HX.out.trans xE⟩
     rw[okW_last HNK.out (by rw[HG0.out,List.length_map];exact HM2.out) HAL.out,HG1.out,rdB_dl]
     show Ending.returned (.bool ((rdL x1).2 == 0))=_
     rw[Int.beq_eq_decide]
end Go.Proofs.YtbmbanelodabgaaGreatDoor
