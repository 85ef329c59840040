/- The laws' helpers over lines. -/
import Derived.Test.YtbmbanelodabgaaGreatDoorKMXD
import Derived.Test.YtbmbanelodabgaaGreatDoorKMF1
import Derived.Test.YtbmbanelodabgaaGreatDoorKLU2
import Derived.Test.YtbmbanelodabgaaGreatDoorKPA1
set_option maxRecDepth 100000
set_option linter.unusedVariables false
set_option linter.unusedSimpArgs false
namespace Go.Proofs.YtbmbanelodabgaaGreatDoor
open Go.RowKit Go.Fin1
theorem flat_take_len:∀ (l:List Bs) (k:Nat),((l.take k).flatten).length≤l.flatten.length:=fun l k=>by
 have h:=congrArg (fun x=>(List.flatten x).length) (List.take_append_drop k l)
 simp only[List.flatten_append,List.length_append] at h
 omega
theorem dropLast_ne {a:Bs} {r:List Bs} (h:r≠[]):(a :: r).dropLast=a :: r.dropLast:=by
 cases r with
 | nil=>exact absurd rfl h
 | cons x y=>rfl
set_option maxHeartbeats 800000 in
theorem lwLines_any (t:ByteArray) (w:World) (ht:t.size≤1000000) :
  Calls Tryz.prog 12 #[.string t] w fun e w'=>∃ (a:Option Addr) (cp:Nat) (xs:List ByteArray),e=.returned (.slice a xs.length cp)∧Ext w w'∧Row w.heap.size w' 9 1 sCell (.slice a xs.length cp) xs∧xs.map dl=(splitL 10 (dl t)).dropLast.map (·++[10]):=by
 go_enter Tryz.func12,Tryz.ntmps12
 go_wp2
 go_loopw [3,4,5] (fun o f i wr=>∃ (xs:List ByteArray) (fr j:Nat),j≤t.size∧fr≤j∧xs.length≤j∧f=(.int .i64 (fr:Int))∧i=(.int .i64 (j:Int))∧Hid (Row w.heap.size wr 9 1 sCell o xs)∧Hid (xs.map dl++(splitL 10 ((dl t).drop fr)).dropLast.map (·++[10])=(splitL 10 (dl t)).dropLast.map (·++[10]))∧Hid (∀ b∈((dl t).drop fr).take (j-fr),b≠10)∧Hid (Ext w wr)) (fun _ _ i _=>t.size-(intOf i).toNat)
 case atStart=>exact⟨[],0,0,Nat.zero_le _,Nat.le_refl _,Nat.le_refl _,rfl,rfl,tH (Row.madeB' (by simp) (by simp)),tH rfl,tH (by simp),tH xE⟩
 case round =>
  obtain⟨xs,fr,j,hj,hfr,hxl,rfl,rfl,HR,HM,HB,HX⟩:=hrel
  obtain⟨oa,oc,rfl⟩:=HR.out.shape
  have hsz:=tH HX.out.below.size
  by_cases hlt:j < t.size
  ·have HD:=tH (drop_parts t hfr hlt)
   have HT:=tH (take_parts t hfr hlt)
   by_cases hc:t[j]=10
   ·have hcb:(((t[j]).toNat:Int) == 10)=true:=by rw[hc];rfl
    have HC:=tH hc
    clear hc
    go_wp2_with (at_builtin;go_must (refine Row.appN (f:=sCell) el_Str9 rfl _ _ rfl w.heap.size (by simpa using hsz.out) _ xs rfl HR.out (t.extract fr (j+1)) rfl _ ?_ rfl (fun _=>rfl) ?_ ?_ ?_ ?_);(simp);(simp[Value.oneCell']);(unfold maxLen;omega);(omega);intro v' w8 hR8 hc8;have HR8:=tH hR8;have HC8:=tH hc8;clear hR8 hc8)
    exact⟨⟨xs++[t.extract fr (j+1)],j+1,j+1,by omega,Nat.le_refl _,by simp;omega,by go_num,by go_num,HR8,tH (by
     rw[← HM.out,HD.out,HC.out,splitL_pre HB.out,dropLast_ne (splitL_nil 10 _),List.map_append,List.map_cons,List.map_nil,dl_extract,HT.out,HC.out,List.append_assoc];rfl),tH (by simp),tH (HC8.out.ext HX.out (fun b hb=>(HR.out.blk b hb).1))⟩,by simp[intOf];omega⟩
   ·have hcb:(((t[j]).toNat:Int) == 10)=false:=by
     rw[beq_eq_false_iff_ne]
     intro e
     have e10:(10:UInt8).toNat=10:=rfl
     exact hc (UInt8.toNat_inj.1 (by omega))
    have HN:=tH (show ∀ b∈((dl t).drop fr).take (j+1-fr),b≠10 from fun b hb=>by
     rw[HT.out] at hb
     rcases List.mem_append.1 hb with hb | hb
     ·exact HB.out b hb
     ·obtain rfl:=List.mem_singleton.1 hb;exact hc)
    clear hc
    go_wp2
    exact⟨⟨xs,fr,j+1,by omega,by omega,by omega,rfl,by go_num,HR,HM,HN,HX⟩,by simp[intOf];omega⟩
  ·obtain rfl:j=t.size:=by omega
   have HE:=tH (show xs.map dl=(splitL 10 (dl t)).dropLast.map (·++[10]) by
    rw[← HM.out]
    have h1:=HB.out
    rw[List.take_of_length_le (by rw[List.length_drop,ba_len];exact Nat.le_refl _)] at h1
    rw[splitL_none h1]
    simp)
   clear hj hlt
   go_wp2
   go_ret
   exact⟨oa,oc,xs,rfl,HX.out,HR.out,by rw[HE.out];simp⟩
set_option maxHeartbeats 800000 in
theorem lwJoin_any (xa:Option Addr) (xc:Nat) (xs:List ByteArray) (w:World) (h:SlR w 1 (rc sCell) (.slice xa xs.length xc) xs) (hl:((xs.map dl).flatten).length≤1000000) (hxl:xs.length≤1000000) :
  Calls Tryz.prog 14 #[.slice xa xs.length xc] w fun e w'=>∃ z,e=.returned (.string z)∧dl z=(xs.map dl).flatten∧Ext w w':=by
 have HS:=tH h
 have HL:=tH hl
 clear h hl
 go_enter Tryz.func14,Tryz.ntmps14
 go_wp2
 go_loopw [3,4] (fun o i wr=>∃ (j:Nat) (out:Bs),j≤xs.length∧i=(.int .i64 (j:Int))∧Hid (out=((xs.map dl).take j).flatten)∧Hid (Row w.heap.size wr 5 1 bCell o out)∧Hid (Ext w wr)) (fun _ i _=>xs.length-(intOf i).toNat)
 case atStart=>exact⟨0,[],Nat.zero_le _,rfl,tH rfl,tH (Row.madeB' (by simp) (by simp)),tH xE⟩
 case round =>
  obtain⟨j,out,hj,rfl,HE,HR,HX⟩:=hrel
  obtain⟨oa,oc,rfl⟩:=HR.out.shape
  have hsz:=tH HX.out.below.size
  by_cases hlt:j < xs.length
  ·obtain⟨bW,oW,hxa⟩:=slr_some HS.out hlt
   subst hxa
   have HSr:=tH (HS.out.ext (rc_stable _) HX.out)
   obtain⟨ho,hc0⟩:=str_at HSr.out hlt
   have HT:=tH (show ((xs.map dl).take (j+1)).flatten=((xs.map dl).take j).flatten++dl xs[j] by
    rw[List.take_succ_eq_append_getElem (by rw[List.length_map];exact hlt),List.flatten_append,List.getElem_map];simp)
   have HB:=tH (show out.length+xs[j].size≤1000000 by
    have h1:=flat_take_len (xs.map dl) (j+1)
    rw[HT.out,List.length_append] at h1
    have h2:(dl xs[j]).length=xs[j].size:=ba_len _
    have h3:=HL.out
    have h4:=congrArg List.length HE.out
    omega)
   generalize hx:xs[j]=x at hc0 HT HB
   go_wp2_with (at_builtin;go_must (refine Row.appT rfl _ _ rfl w.heap.size hsz.out _ out rfl HR.out x rfl ?_ ?_);(have:=HB.out;omega);intro v8 w8 hR8 hc8;have HR8:=tH hR8;have HC8:=tH hc8;clear hR8 hc8)
   exact⟨⟨j+1,out++dl x,by omega,by go_num,tH (by rw[HT.out,HE.out]),HR8,tH (HC8.out.ext HX.out (fun b hb=>(HR.out.blk b hb).1))⟩,by simp[intOf];omega⟩
  ·obtain rfl:j=xs.length:=by omega
   obtain⟨z,hcv,hz⟩:=row_string HR.out
   have HZ:=tH hz
   clear hz
   go_wp2
   go_ret
   exact⟨z,rfl,by rw[HZ.out,HE.out,List.take_of_length_le (by rw[List.length_map];exact Nat.le_refl _)],HX.out⟩
end Go.Proofs.YtbmbanelodabgaaGreatDoor
set_option maxRecDepth 100000
set_option linter.unusedVariables false
set_option linter.unusedSimpArgs false
namespace Go.Proofs.YtbmbanelodabgaaGreatDoor
open Go.RowKit Go.Fin1
set_option maxHeartbeats 800000 in
@[go_sem high] theorem equalIn_dk (w:World) (z:ByteArray) (a b:Int):(Op.equalIn 10000 23 (.agg #[.string z,(.int .i64 a),(.int .i64 b)]) (.agg #[.string z,(.int .i64 a),(.int .i64 b)])).run Tryz.prog w=.ok true w:=by
 simp[go_sem,Tryz.underlying23]
theorem lines_n {t:ByteArray} {xs:List ByteArray} (h:xs.map dl=(splitL 10 (dl t)).dropLast.map (·++[10])):xs.length=(dl t).count 10:=by
 have h1:=congrArg List.length h
 rw[List.length_map,List.length_map,lines_len] at h1
 exact h1
set_option maxHeartbeats 3200000 in
theorem fnDesk_any (a b:Arg (List Int)) (w:World) (ha:SlR w 1 rU8 a.v a.x) (hb:SlR w 1 rU8 b.v b.x) (hL:LibW w) :
  Calls Tryz.prog 5 #[a.v,b.v] w fun e w'=>e=.returned (.bool true)∧Ext w w':=by
 obtain⟨v1,l1⟩:=a
 obtain⟨v2,l2⟩:=b
 change SlR w 1 rU8 v1 l1 at ha
 change SlR w 1 rU8 v2 l2 at hb
 change Calls Tryz.prog 5 #[v1,v2] w _
 obtain⟨ad1,cp1,rfl⟩:=ha.len
 obtain⟨ad2,cp2,rfl⟩:=hb.len
 have H1:=tH ha
 have H2:=tH hb
 have HL:=tH hL
 clear ha hb hL
 by_cases hl1:l1.length≤1048576
 case neg =>
  have hb1:decide ((1048576:Int) < (l1.length:Int))=true:=decide_eq_true (by omega)
  clear hl1
  go_enter Tryz.func5,Tryz.ntmps5
  go_wp2
  go_ret
  exact⟨rfl,xE⟩
 have hb1:decide ((1048576:Int) < (l1.length:Int))=false:=decide_eq_false (by omega)
 by_cases hl2:l2.length≤1048576
 case neg =>
  have hb2:decide ((1048576:Int) < (l2.length:Int))=true:=decide_eq_true (by omega)
  clear hl1 hl2
  go_enter Tryz.func5,Tryz.ntmps5
  go_wp2
  go_ret
  exact⟨rfl,xE⟩
 have hb2:decide ((1048576:Int) < (l2.length:Int))=false:=decide_eq_false (by omega)
 go_enter Tryz.func5,Tryz.ntmps5
 go_wp2_with fail
 refine(drawDeskRun_any _ l1 _ (H1.out.ext rU8_stable xE) hl1).mono ?_
 rintro e _ ⟨t,rfl,ht,⟨X0,rfl⟩⟩
 obtain⟨zt,hzt⟩:∃ z,txR t=z:=⟨_,rfl⟩
 obtain⟨ln,hln⟩:∃ z,(deskR t).2.1=z:=⟨_,rfl⟩
 obtain⟨cd,hcd⟩:∃ z,(deskR t).2.2=z:=⟨_,rfl⟩
 go_wp2_with fail
 refine(specDeskRunT_any t _).mono ?_
 rintro e _ ⟨rfl,X1,rfl⟩
 rw[hzt,hln,hcd]
 go_wp2_with fail
 refine(implDeskRunT_any t _ (HL.out.ext xE)).mono ?_
 rintro e _ ⟨rfl,X2,rfl⟩
 rw[hzt,hln,hcd]
 have HZT:=tH hzt
 have HLN:=tH hln
 have HCD:=tH hcd
 clear hzt hln hcd hb1 hb2 hl1
 go_upto_region 6 with fail
 refine gen_world (fun W1 hW=>?_)
 have HX1:=tH (show Ext w W1 by rw[hW];exact xE)
 have HA1:=tH (show Blk W1 (w.heap.size+X0.n+X1.n) [.string zt,(.int .i64 ln),(.int .i64 cd)] 23 by rw[hW];exact(Blk.new (w:=(w.plus X0).plus X1) (cs:=#[.string zt,(.int .i64 ln),(.int .i64 cd)]) (by simp)).ext xE)
 have HB1:=tH (show Blk W1 (w.heap.size+X0.n+X1.n+1+X2.n) [.string zt,(.int .i64 ln),(.int .i64 cd)] 23 by rw[hW];exact Blk.new (cs:=#[.string zt,(.int .i64 ln),(.int .i64 cd)]) (by simp))
 clear hW
 generalize w.heap.size+X0.n+X1.n+1+X2.n=b7 at HB1 ⊢
 generalize w.heap.size+X0.n+X1.n=b6 at HA1 ⊢
 have a0:W1.cell? ⟨b6,0,none⟩=some (.string zt):=HA1.out.cell 0
 have a1:W1.cell? ⟨b6,1,none⟩=some (.int .i64 ln):=HA1.out.cell 1
 have a2:W1.cell? ⟨b6,2,none⟩=some (.int .i64 cd):=HA1.out.cell 2
 have ao:=HA1.out.old
 have c0:W1.cell? ⟨b7,0,none⟩=some (.string zt):=HB1.out.cell 0
 have c1:W1.cell? ⟨b7,1,none⟩=some (.int .i64 ln):=HB1.out.cell 1
 have c2:W1.cell? ⟨b7,2,none⟩=some (.int .i64 cd):=HB1.out.cell 2
 have co:=HB1.out.old
 have HLW:=tH (HL.out.ext HX1.out)
 (refine wp_region_x 13 (by kernel_rfl) (by kernel_rfl) (by kernel_rfl) ?_;(iterate 13 (apply XReg.step;(case h=>(intro w' hw';obtain⟨X',rfl⟩:=hw';go_wp2_with ((go_at_call 10;refine(implDeskFault_any t _ (HLW.out.ext xE)).mono ?_;rintro e _ ⟨rfl,Y,rfl⟩;rw[HLN.out,HCD.out]));exact⟨rfl,xE⟩));(case hv=>kernel_rfl)));refine XReg.doneN (fun X=>?_))
 have HX2:=tH (HX1.out.plus X)
 have HA2:=tH (HA1.out.ext ((Ext.refl W1).plus X))
 have HB2:=tH (HB1.out.ext ((Ext.refl W1).plus X))
 clear a0 a1 a2 ao c0 c1 c2 co HX1 HA1 HB1 HLW
 generalize W1.plus X=W2 at HX2 HA2 HB2 ⊢
 have a0:W2.cell? ⟨b6,0,none⟩=some (.string zt):=HA2.out.cell 0
 have a1:W2.cell? ⟨b6,1,none⟩=some (.int .i64 ln):=HA2.out.cell 1
 have a2:W2.cell? ⟨b6,2,none⟩=some (.int .i64 cd):=HA2.out.cell 2
 have ao:=HA2.out.old
 have c0:W2.cell? ⟨b7,0,none⟩=some (.string zt):=HB2.out.cell 0
 have co:=HB2.out.old
 have HLW:=tH (HL.out.ext HX2.out)
 by_cases hcd:cd=0
 case neg =>
  have hcb:(cd != 0)=true:=by simp;exact hcd
  have hze:zt=⟨#[]⟩:=by
   rw[← HZT.out]
   unfold txR
   rw[desk_none (by rw[HCD.out];exact hcd)]
  subst hze
  clear hcd
  go_wp2
  go_ret
  exact⟨rfl,HX2.out⟩
 subst hcd
 clear a1
 have HTL:=tH (show dl zt=(deskR t).1 by rw[← HZT.out];exact dl_list _)
 have hzs:zt.size≤500000:=by
  have h1:=deskR_len t
  rw[← HTL.out] at h1
  have h2:(dl zt).length=zt.size:=ba_len zt
  omega
 have hfd:∀ (a b c:Value) w,(Instr.field 23 (.agg #[a,b,c]) 0).run Tryz.prog w=.ok a w:=fun a b c w=>by kernel_rfl
 go_wp2_with fail
 refine(lwLines_any t _ (by omega)).mono ?_
 rintro e _ ⟨xa,xc,xs,rfl,⟨X3,rfl⟩,hR,hM⟩
 have hxn:=lines_n hM
 have hcn:(dl t).count 10≤1000:=by
  have h1:=List.count_le_length (a:=(10:UInt8)) (l:=dl t)
  have h2:(dl t).length=t.size:=ba_len t
  omega
 have hxl:xs.length≤1000:=by omega
 obtain⟨-,hlc,-⟩:=slr_len (row_rc (f:=sCell) (fun _=>rfl) hR)
 have HM:=tH hM
 have HXN:=tH hxn
 have HSX:=tH (row_rc (f:=sCell) (fun _=>rfl) hR)
 clear hM hxn hcn hR
 go_wp2_with fail
 refine(lwAt_any _ l2 0 ((xs.length:Int)+1) _ (H2.out.ext rU8_stable (HX2.out.trans xE)) hl2 (by decide)).mono ?_
 rintro e _ ⟨rfl,rfl⟩
 obtain⟨k,hk,hkb⟩:=lwV_nat l2 0 ((xs.length:Int)+1)
 rw[hk]
 have hkn:k≤xs.length:=by omega
 clear hk hkb
 have hlk:(xs.take k).length=k:=by rw[List.length_take];omega
 have HLK:=tH hlk
 have HSK:=tH (slr_take HSX.out hkn)
 have HFL:=tH (show ((xs.take k).map dl).flatten=lnT ((splitL 10 (dl t)).dropLast.take k) by
  rw[List.map_take,HM.out]
  unfold lnT
  rw[List.map_take])
 have HFB:=tH (show (((xs.take k).map dl).flatten).length≤1000000 by
  rw[HFL.out]
  have h1:=lnT_take_len (splitL 10 (dl t)).dropLast k
  have h2:=lnT_split_len (dl t)
  have h3:(dl t).length=t.size:=ba_len t
  omega)
 clear hlk
 have HJ:=tH (fun (W:World) (h:SlR W 1 (rc sCell) (.slice xa k xc) (xs.take k))=>(by
  have h1:=lwJoin_any xa xc (xs.take k) W (by rw[HLK.out];exact h) HFB.out (by rw[List.length_take];omega)
  rw[HLK.out] at h1
  exact h1:Calls Tryz.prog 14 #[.slice xa k xc] W fun e w'=>∃ z,e=.returned (.string z)∧dl z=((xs.take k).map dl).flatten∧Ext W w'))
 go_wp2_with fail
 refine(HJ.out _ HSK.out).mono ?_
 rintro e _ ⟨zp,rfl,hzp,⟨X4,rfl⟩⟩
 have hkd:k≤(splitL 10 (dl t)).dropLast.length:=by rw[lines_len,← HXN.out];exact hkn
 obtain⟨-,-,-,hn1,hn2,rr,hn3⟩:=desk_law HCD.out hkd (hzp.trans HFL.out)
 obtain⟨zy,hzy⟩:∃ z,txR zp=z:=⟨_,rfl⟩
 have hyl:dl zy=(deskR zp).1:=by rw[← hzy];exact dl_list _
 rw[← HTL.out] at hn1 hn3
 rw[← hyl] at hn2 hn3
 rw[lines_len,← HXN.out] at hn1
 have hl3:=congrArg List.length hn3
 rw[List.length_append] at hl3
 have hls:(dl zt).length=zt.size:=ba_len zt
 have hys:(dl zy).length=zy.size:=ba_len zy
 have hle:zy.size≤zt.size:=by omega
 have hb3:decide ((zy.size:Int)≤(zt.size:Int))=true:=decide_eq_true (by omega)
 have hb5:decide (zy.size≤zt.size)=true:=decide_eq_true hle
 have hb4:((zt.extract 0 zy.size).toList == zy.toList)=true:=by
  rw[beq_iff_eq,ByteArray.toList_eq,ByteArray.toList_eq]
  show dl (zt.extract 0 zy.size)=dl zy
  rw[dl_extract,hn3,List.drop_zero,Nat.sub_zero,← hys,List.take_left]
 have HN1:=tH hn1
 have HN2:=tH hn2
 have HZY:=tH hzy
 have hzys:zy.size≤500000:=by omega
 clear hzp hkd hn1 hn2 hn3 hyl hl3 hls hys hzy HJ HSK HSX HFL HFB HM HTL
 go_wp2_with fail
 refine(implDeskRunT_any zp _ (HLW.out.ext xE)).mono ?_
 rintro e _ ⟨rfl,X5,rfl⟩
 rw[HZY.out]
 go_wp2_with fail
 refine(lwLines_any zt _ (by omega)).mono ?_
 rintro e _ ⟨ya,yc,ys,rfl,⟨X6,rfl⟩,hR,hM⟩
 have hyn:ys.length=xs.length:=by rw[lines_n hM];exact HN1.out
 have hb1:((ys.length:Int) == (xs.length:Int))=true:=by rw[hyn];simp
 clear hR hM hyn
 go_wp2_with fail
 refine(lwLines_any zy _ (by omega)).mono ?_
 rintro e _ ⟨ua,uc,us,rfl,⟨X7,rfl⟩,hR,hM⟩
 have hun:us.length=k:=by rw[lines_n hM];exact HN2.out
 have hb2:((us.length:Int) == (k:Int))=true:=by rw[hun];simp
 clear hR hM hun
 go_wp2
 go_ret
 exact⟨rfl,HX2.out.trans xE⟩
end Go.Proofs.YtbmbanelodabgaaGreatDoor
set_option maxRecDepth 100000
set_option linter.unusedVariables false
namespace Go.Proofs.YtbmbanelodabgaaGreatDoor
open Go.ChangeShapes Go.WideShapes Go.ChangeAt Go.RowKit Go.Fin1
section
variable {H:Type} {enc:TypeId×Value→H} {w:World} {base:Nat} {spare:Nat→Bool} {held:Bool} {fuel:Nat} {cs:List Value} {x:DataW H×List MemPlace}
theorem b_u8 (h:DataW.trod enc Tryz.prog w base spare held fuel 5 cs=some x):∃ n:Int,rU8 w cs n:=by
 obtain⟨n,h1,_,h2⟩:=DataW.trod_int Tryz.underlying5 h
 have h3:0≤n∧n≤255:=by
  simpa [Lit.wf,IntKind.min,IntKind.max,IntKind.signed,IntKind.bits] using h2
 exact⟨n,h1,h3.1,h3.2⟩
theorem b_bytes (h:DataW.trod enc Tryz.prog w base spare held fuel 27 cs=some x):∃ v xs,cs=[v]∧SlR w 1 rU8 v xs :=
 b_slice Tryz.underlying27 (by kernel_rfl) (by decide) (fun _ _ _ h=>b_u8 h) h
end
section
variable {H:Type} {enc:TypeId×Value→H} {w:World} {base:Nat} {spare:Nat→Bool} {held:Bool} {r:Reach} {b0:Nat} {v:Value} {d:DataW H} {ps:List MemPlace}
theorem open_bytes (hv:Value.okWide Tryz.prog w r b0 27 v) (h:DataW.Trod enc Tryz.prog w base spare held 27 v d ps):∃ a:Arg (List Int),v=a.v∧SlR w 1 rU8 a.v a.x:=slice_arg Tryz.underlying27 hv (fun _ _ _ h=>b_bytes h) h
end
end Go.Proofs.YtbmbanelodabgaaGreatDoor
