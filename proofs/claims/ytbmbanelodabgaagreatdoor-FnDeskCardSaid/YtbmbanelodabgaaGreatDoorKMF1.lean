/- The draws of the desk's texts. -/
import Derived.Test.YtbmbanelodabgaaGreatDoorKMXD
import Derived.Test.YtbmbanelodabgaaGreatDoorKLU2
set_option maxRecDepth 100000
set_option linter.unusedVariables false
set_option linter.unusedSimpArgs false
namespace Go.Proofs.YtbmbanelodabgaaGreatDoor
open Go.RowKit Go.Fin1
set_option maxHeartbeats 1600000 in
theorem l01SourceZ_any (v:Value) (l:List Int) (w:World) (h:SlR w 1 rU8 v l) (hl:l.length≤1048576) :
  Calls Tryz.prog 24 #[v] w fun e w'=>∃ g,e=.returned (.pointer (some ⟨g,0,none⟩))∧w.heap.size≤g∧Ext w w'∧SrcA w' g v l∧∃ z:Nat,z≤12∧w'.cell? ⟨g,3,none⟩=some (.int .i64 (z:Int)):=by
 obtain⟨a,cap,rfl⟩:=h.len
 have HS:=tH h
 clear h
 go_enter Tryz.func24,Tryz.ntmps24
 go_wp2
 go_loopw [4] (fun i wr=>∃ k:Nat,∃ m:Int,k≤l.length∧i=.int .i64 k∧0≤m∧m≤18446744073709551615∧Hid (SrcM w wr w.heap.size (.slice a l.length cap) 0 m)∧Hid (wr.cell? ⟨w.heap.size,3,none⟩=some (.int .i64 0))) (fun i _=>l.length-(intOf i).toNat)
 case atStart=>exact⟨0,88172645463325252,Nat.zero_le _,rfl,by omega,by omega,tH ⟨by simp[World.old],by simp,by simp,by simp,fun j=>by simp,(Chg.refl _ _).alloc _⟩,tH (by simp)⟩
 case round =>
  obtain⟨k,m,hk,rfl,hm0,hm1,HM,H3⟩:=hrel
  obtain⟨ho,c0,c1,c2,hfz,hch⟩:=HM.out
  have c3:=H3.out
  have HS1:=tH (u8s_past HS.out hch (by simp))
  clear hch
  by_cases hlt:k < l.length
  ·by_cases h64:k < 64
   ·have hb64:decide ((k:Int) < 64)=true:=decide_eq_true (by omega)
    obtain⟨b,off,rfl⟩:=slr_some HS1.out hlt
    obtain⟨hob,b0,b1,hcb⟩:=u8_at HS1.out hlt
    have hbw:b≠w.heap.size:=by have:=(u8_at HS.out hlt).1;unfold World.old at this;omega
    clear c3
    go_upto_region 5 with fail
    (refine wp_region_x 14 (by kernel_rfl) (by kernel_rfl) (by kernel_rfl) ?_;(iterate 14 (apply XReg.step;(case h=>(intro w' hw';obtain⟨X',rfl⟩:=hw';go_wp2_with (fail);exact⟨rfl,xE⟩));(case hv=>kernel_rfl)));refine XReg.done1 (fun X=>?_))
    go_upto_region 4 with fail
    refine gen_world (fun W2 hW=>?_)
    obtain⟨m2,hn0,hn1,hn⟩:∃ n:Int,0≤n∧n≤18446744073709551615∧SrcM w W2 w.heap.size _ 0 n:=⟨_,(u64_wrap_bd _).1,(u64_wrap_bd _).2,by rw[hW];exact(HM.out.set2 _).plus _⟩
    have H33:Hid (W2.cell? ⟨w.heap.size,3,none⟩=some (.int .i64 0)):=tH (by
     rw[hW]
     refine((Ext.refl _).plus _).cell ?_
     rw[World.cell?_setCell_other _ _ _ _ (by simp)]
     exact H3.out)
    have HN:=tH hn
    clear hn hW c0 c1 c2 hfz ho hcb hob
    go_wp2
    exact⟨⟨k+1,m2,by omega,by go_num,hn0,hn1,HN,H33⟩,by simp[intOf];omega⟩
   ·have hb64:decide ((k:Int) < 64)=false:=decide_eq_false (by omega)
    go_wp2
    all_goals go_ret
    all_goals (refine⟨w.heap.size,rfl,Nat.le_refl _,(SrcM.fin (by first | exact HM.out.set3 _ | exact(HM.out.set3 _).set3 _) hm0 hm1 HS.out).1,(SrcM.fin (by first | exact HM.out.set3 _ | exact(HM.out.set3 _).set3 _) hm0 hm1 HS.out).2,?_⟩;first | exact⟨12,Nat.le_refl _,World.cell?_setCell_same _ _ _ (World.cell?_setCell_same _ _ _ c3)⟩ | exact⟨l.length / 20,by omega,by push_cast;exact World.cell?_setCell_same _ _ _ c3⟩)
  ·have hkk:decide ((k:Int) < (l.length:Int))=false:=decide_eq_false (by omega)
   go_wp2
   all_goals go_ret
   all_goals (refine⟨w.heap.size,rfl,Nat.le_refl _,(SrcM.fin (by first | exact HM.out.set3 _ | exact(HM.out.set3 _).set3 _) hm0 hm1 HS.out).1,(SrcM.fin (by first | exact HM.out.set3 _ | exact(HM.out.set3 _).set3 _) hm0 hm1 HS.out).2,?_⟩;first | exact⟨12,Nat.le_refl _,World.cell?_setCell_same _ _ _ (World.cell?_setCell_same _ _ _ c3)⟩ | exact⟨l.length / 20,by omega,by push_cast;exact World.cell?_setCell_same _ _ _ c3⟩)
set_option maxHeartbeats 800000 in
theorem srcPick3_any (g:Nat) (a b c:ByteArray) (w:World) (B:Nat) (cv:Value) (l:List Int) (h:SrcA w g cv l) (hB:Blk w B [.string a,.string b,.string c] 9) (hBg:B≠g) (hm:∀ x∈[a,b,c],x.size≤5) :
  Calls Tryz.prog 85 #[.pointer (some ⟨g,0,none⟩),.slice (some ⟨B,0,none⟩) 3 3] w fun e w'=>∃ s:ByteArray,e=.returned (.string s)∧s.size≤5∧Chg [g] w w'∧SrcA w' g cv l:=by
 have HS:=tH h
 have HB:=tH hB
 have HM:=tH hm
 have H3:Hid (I64 3):=tH (by unfold I64;omega)
 clear h hB hm
 go_enter Tryz.func85,Tryz.ntmps85
 go_wp2_with fail
 refine(srcN' g 3 _ cv l HS.out H3.out).mono ?_
 rintro e w2 ⟨k,rfl,hb,hc,hs⟩
 have hk:k < 3:=by omega
 have HB2:=tH (HB.out.chg hc (by simpa using hBg))
 have HC:=tH hc
 have HA:=tH hs
 obtain⟨s,hss,hsm⟩:∃ s:ByteArray,([.string a,.string b,.string c]:List Value)[k]?=some (.string s)∧s∈[a,b,c]:=by
  have:k=0∨k=1∨k=2:=by omega
  rcases this with rfl | rfl | rfl<;>exact⟨_,rfl,by simp⟩
 have hc0:w2.cell? ⟨B,k,none⟩=some (.string s):=by rw[HB2.out.cell k];exact hss
 have hbo:=HB2.out.old
 have HSM:=tH (HM.out s hsm)
 clear hc hs hb hss hsm
 go_wp2
 go_ret
 exact⟨s,rfl,HSM.out,HC.out,HA.out⟩
theorem szTick (z:ByteArray):((⟨#[116,105,99,107,32]⟩:ByteArray)++z).size=5+z.size:=by rw[ByteArray.size_append];rfl
set_option maxHeartbeats 1600000 in
theorem src8One_any (g:Nat) (w:World) (cv:Value) (l:List Int) (h:SrcA w g cv l) :
  Calls Tryz.prog 53 #[.pointer (some ⟨g,0,none⟩)] w fun e w'=>∃ s:ByteArray,e=.returned (.string s)∧s.size≤40∧Chg [g] w w'∧SrcA w' g cv l:=by
 have HS:=tH h
 clear h
 go_enter Tryz.func53,Tryz.ntmps53
 go_wp2_with fail
 refine(srcPick3_any g ⟨#[48,58]⟩ ⟨#[49,58]⟩ ⟨#[50,58,97]⟩ _ w.heap.size cv l (HS.out.ext xE) (Blk.new (w:=w) (cs:=#[.string ⟨#[48,58]⟩,.string ⟨#[49,58]⟩,.string ⟨#[50,58,97]⟩]) rfl) (by have h:=HS.out.old;omega) (by decide)).mono ?_
 rintro e w2 ⟨a,rfl,ha,hc,hs⟩
 have HC:=tH ((((Ext.refl w).alloc (.cells #[.string ⟨#[48,58]⟩,.string ⟨#[49,58]⟩,.string ⟨#[50,58,97]⟩] 9)).chg [g]).trans hc)
 have HA:=tH hs
 clear hc hs
 go_wp2_with fail
 refine(srcN' g 8 _ cv l HA.out (by unfold I64;omega)).mono ?_
 rintro e w9 ⟨q,rfl,hb,hc,hs⟩
 have hq:q < 8:=by omega
 have HC8:=tH (HC.out.trans hc)
 have HA8:=tH hs
 clear hc hs hb HC HA
 have HC:=HC8
 have HA:=HA8
 clear HC8 HA8
 have hq8:q=0∨q=1∨q=2∨q=3∨q=4∨q=5∨q=6∨q=7:=by omega
 clear hq
 rcases hq8 with rfl | rfl | rfl | rfl | rfl | rfl | rfl | rfl
 iterate 3
  ·skip
   go_wp2_with fail
   refine(srcN' g 2 _ cv l HA.out (by unfold I64;omega)).mono ?_
   rintro e w9 ⟨n1,rfl,hb,hc,hs⟩
   have hn1:n1 < 2:=by omega
   have HC8:=tH (HC.out.trans hc)
   have HA8:=tH hs
   clear hc hs hb HC HA
   have HC:=HC8
   have HA:=HA8
   clear HC8 HA8
   go_wp2_with fail
   rw[show (1:Int)+(n1:Int)=((1+n1:Nat):Int) by push_cast;rfl]
   refine(l01DecN_any ((1+n1)) _ (by omega)).mono ?_
   rintro e _ ⟨rfl,Y,rfl⟩
   obtain⟨z1,hzz1⟩:∃ z,(⟨(Lib.decDigits (1+n1)).toArray⟩:ByteArray)=z:=⟨_,rfl⟩
   have hsz1:(z1).size≤7:=by rw[← hzz1];show (Lib.decDigits (1+n1)).toArray.size≤7;rw[List.size_toArray];exact dec_len_pow 6 _ (by omega)
   rw[hzz1]
   clear hzz1
   have HC8:=tH (HC.out.plus Y)
   have HA8:=tH (HA.out.ext ((Ext.refl w9).plus Y))
   clear HC HA
   have HC:=HC8
   have HA:=HA8
   clear HC8 HA8
   generalize w9.plus Y=w9 at HC HA ⊢
   go_wp2_with fail
   refine(srcN' g 6 _ cv l HA.out (by unfold I64;omega)).mono ?_
   rintro e w9 ⟨n2,rfl,hb,hc,hs⟩
   have hn2:n2 < 6:=by omega
   have HC8:=tH (HC.out.trans hc)
   have HA8:=tH hs
   clear hc hs hb HC HA
   have HC:=HC8
   have HA:=HA8
   clear HC8 HA8
   go_wp2_with fail
   rw[show (1:Int)+(n2:Int)=((1+n2:Nat):Int) by push_cast;rfl]
   refine(l01DecN_any ((1+n2)) _ (by omega)).mono ?_
   rintro e _ ⟨rfl,Y,rfl⟩
   obtain⟨z2,hzz2⟩:∃ z,(⟨(Lib.decDigits (1+n2)).toArray⟩:ByteArray)=z:=⟨_,rfl⟩
   have hsz2:(z2).size≤7:=by rw[← hzz2];show (Lib.decDigits (1+n2)).toArray.size≤7;rw[List.size_toArray];exact dec_len_pow 6 _ (by omega)
   rw[hzz2]
   clear hzz2
   have HC8:=tH (HC.out.plus Y)
   have HA8:=tH (HA.out.ext ((Ext.refl w9).plus Y))
   clear HC HA
   have HC:=HC8
   have HA:=HA8
   clear HC8 HA8
   generalize w9.plus Y=w9 at HC HA ⊢
   go_wp2_with fail
   refine(srcN' g 3 _ cv l HA.out (by unfold I64;omega)).mono ?_
   rintro e w9 ⟨n3,rfl,hb,hc,hs⟩
   have hn3:n3 < 3:=by omega
   have HC8:=tH (HC.out.trans hc)
   have HA8:=tH hs
   clear hc hs hb HC HA
   have HC:=HC8
   have HA:=HA8
   clear HC8 HA8
   go_wp2_with fail
   skip
   refine(l01DecN_any (n3) _ (by omega)).mono ?_
   rintro e _ ⟨rfl,Y,rfl⟩
   obtain⟨z3,hzz3⟩:∃ z,(⟨(Lib.decDigits n3).toArray⟩:ByteArray)=z:=⟨_,rfl⟩
   have hsz3:(z3).size≤7:=by rw[← hzz3];show (Lib.decDigits n3).toArray.size≤7;rw[List.size_toArray];exact dec_len_pow 6 _ (by omega)
   rw[hzz3]
   clear hzz3
   have HC8:=tH (HC.out.plus Y)
   have HA8:=tH (HA.out.ext ((Ext.refl w9).plus Y))
   clear HC HA
   have HC:=HC8
   have HA:=HA8
   clear HC8 HA8
   generalize w9.plus Y=w9 at HC HA ⊢
   go_wp2
   go_ret
   exact⟨_,rfl,by have e1:(⟨#[32]⟩:ByteArray).size=1:=rfl;have e7:(⟨#[115,117,98,109,105,116,32]⟩:ByteArray).size=7:=rfl;simp only[ByteArray.size_append,e1,e7];omega,HC.out,HA.out⟩
 iterate 2
  ·skip
   go_wp2_with fail
   refine(srcN' g 4 _ cv l HA.out (by unfold I64;omega)).mono ?_
   rintro e w9 ⟨n1,rfl,hb,hc,hs⟩
   have hn1:n1 < 4:=by omega
   have HC8:=tH (HC.out.trans hc)
   have HA8:=tH hs
   clear hc hs hb HC HA
   have HC:=HC8
   have HA:=HA8
   clear HC8 HA8
   go_wp2_with fail
   skip
   refine(l01DecN_any (n1) _ (by omega)).mono ?_
   rintro e _ ⟨rfl,Y,rfl⟩
   obtain⟨z1,hzz1⟩:∃ z,(⟨(Lib.decDigits n1).toArray⟩:ByteArray)=z:=⟨_,rfl⟩
   have hsz1:(z1).size≤7:=by rw[← hzz1];show (Lib.decDigits n1).toArray.size≤7;rw[List.size_toArray];exact dec_len_pow 6 _ (by omega)
   rw[hzz1]
   clear hzz1
   have HC8:=tH (HC.out.plus Y)
   have HA8:=tH (HA.out.ext ((Ext.refl w9).plus Y))
   clear HC HA
   have HC:=HC8
   have HA:=HA8
   clear HC8 HA8
   generalize w9.plus Y=w9 at HC HA ⊢
   go_wp2
   go_ret
   exact⟨_,rfl,by rw[szTick];omega,HC.out,HA.out⟩
 ·skip
  go_wp2_with fail
  refine(srcPick3_any g ⟨#[100,111,110,101,32]⟩ ⟨#[104,111,108,100,32]⟩ ⟨#[119,97,105,116,32]⟩ _ w9.heap.size cv l (HA.out.ext xE) (Blk.new (w:=w9) (cs:=#[.string ⟨#[100,111,110,101,32]⟩,.string ⟨#[104,111,108,100,32]⟩,.string ⟨#[119,97,105,116,32]⟩]) rfl) (by have h:=HA.out.old;omega) (by decide)).mono ?_
  rintro e w8 ⟨b,rfl,hb,hc,hs⟩
  have HC8:=tH (HC.out.trans ((((Ext.refl w9).alloc (.cells #[.string ⟨#[100,111,110,101,32]⟩,.string ⟨#[104,111,108,100,32]⟩,.string ⟨#[119,97,105,116,32]⟩] 9)).chg [g]).trans hc))
  have HA8:=tH hs
  clear hc hs HC HA
  have HC:=HC8
  have HA:=HA8
  clear HC8 HA8
  go_wp2_with fail
  refine(srcN' g 2 _ cv l HA.out (by unfold I64;omega)).mono ?_
  rintro e w9 ⟨n1,rfl,hb,hc,hs⟩
  have hn1:n1 < 2:=by omega
  have HC8:=tH (HC.out.trans hc)
  have HA8:=tH hs
  clear hc hs hb HC HA
  have HC:=HC8
  have HA:=HA8
  clear HC8 HA8
  go_wp2_with fail
  rw[show (1:Int)+(n1:Int)=((1+n1:Nat):Int) by push_cast;rfl]
  refine(l01DecN_any ((1+n1)) _ (by omega)).mono ?_
  rintro e _ ⟨rfl,Y,rfl⟩
  obtain⟨z1,hzz1⟩:∃ z,(⟨(Lib.decDigits (1+n1)).toArray⟩:ByteArray)=z:=⟨_,rfl⟩
  have hsz1:(z1).size≤7:=by rw[← hzz1];show (Lib.decDigits (1+n1)).toArray.size≤7;rw[List.size_toArray];exact dec_len_pow 6 _ (by omega)
  rw[hzz1]
  clear hzz1
  have HC8:=tH (HC.out.plus Y)
  have HA8:=tH (HA.out.ext ((Ext.refl w9).plus Y))
  clear HC HA
  have HC:=HC8
  have HA:=HA8
  clear HC8 HA8
  generalize w9.plus Y=w9 at HC HA ⊢
  go_wp2
  go_ret
  exact⟨_,rfl,by have e1:(⟨#[32]⟩:ByteArray).size=1:=rfl;simp only[ByteArray.size_append,e1];omega,HC.out,HA.out⟩
 ·go_wp2
  go_ret
  exact⟨_,rfl,by rw[ByteArray.size_append,show (⟨#[115,101,101,32]⟩:ByteArray).size=4 from rfl];omega,HC.out,HA.out⟩
 ·go_wp2
  go_ret
  exact⟨_,rfl,by rw[ByteArray.size_append,show (⟨#[112,108,97,110,32]⟩:ByteArray).size=5 from rfl];omega,HC.out,HA.out⟩
theorem sz10 (z:ByteArray):(z++(⟨#[10]⟩:ByteArray)).size=z.size+1:=by rw[ByteArray.size_append];rfl
set_option maxHeartbeats 1600000 in
theorem src8Text_any (g:Nat) (w:World) (cv:Value) (l:List Int) (zs:Nat) (hz:zs≤12) (h3:w.cell? ⟨g,3,none⟩=some (.int .i64 (zs:Int))) (h:SrcA w g cv l) :
  Calls Tryz.prog 25 #[.pointer (some ⟨g,0,none⟩)] w fun e w'=>∃ s:ByteArray,e=.returned (.string s)∧s.size≤900∧Chg [g] w w'∧SrcA w' g cv l:=by
 have HS:=tH h
 clear h
 have hgo:=World.old_of_cell h3
 have hq:0≤(zs:Int) / 2∧(zs:Int) / 2≤6:=by omega
 have hdv:(zs:Int).tdiv 2=(zs:Int) / 2:=Int.tdiv_eq_ediv_of_nonneg (by omega)
 go_enter Tryz.func25,Tryz.ntmps25
 go_wp2_with fail
 refine(srcN' g (10+(zs:Int) / 2) _ cv l HS.out (by unfold I64;omega)).mono ?_
 rintro e w2 ⟨v,rfl,hb,hc,hs⟩
 have hv:v≤15:=by omega
 have HC:=tH hc
 have HA:=tH hs
 clear hc hs hb HS h3 hgo hdv hq
 go_wp2
 go_loopw [3,4] (fun t k wr=>∃ (s:ByteArray) (m:Nat),m≤16∧t=.string s∧k=(.int .i64 (m:Int))∧s.size+41*m≤656∧Hid (Chg [g] w wr)∧Hid (SrcA wr g cv l)) (fun _ k _=>(intOf k).toNat)
 case atStart=>exact⟨⟨#[]⟩,1+v,by omega,rfl,by push_cast;rfl,by show 0+41*(1+v)≤656;omega,HC,HA⟩
 case round =>
  clear HC HA
  obtain⟨s,m,hm,rfl,rfl,hsm,HC,HA⟩:=hrel
  by_cases h0:0 < m
  ·have hb1:decide ((0:Int) < (m:Int))=true:=decide_eq_true (by omega)
   have hb2:decide (0 < m)=true:=decide_eq_true h0
   obtain⟨q,rfl⟩:∃ q,m=q+1:=⟨m-1,by omega⟩
   go_wp2_with fail
   refine(src8One_any g _ cv l HA.out).mono ?_
   rintro e w3 ⟨z,rfl,hz4,hc,hs⟩
   have HC3:=tH (HC.out.trans hc)
   have HA3:=tH hs
   clear hc hs HC HA
   go_wp2
   exact⟨⟨s++z++(⟨#[10]⟩:ByteArray),q,by omega,rfl,by go_num,by rw[sz10,ByteArray.size_append];omega,HC3,HA3⟩,by simp[intOf]⟩
  ·obtain rfl:m=0:=by omega
   go_wp2
   go_ret
   exact⟨s,rfl,by omega,HC.out,HA.out⟩
set_option maxHeartbeats 1600000 in
theorem drawDeskRun_any (v:Value) (l:List Int) (w:World) (h:SlR w 1 rU8 v l) (hl:l.length≤1048576) :
  Calls Tryz.prog 11 #[v] w fun e w'=>∃ s:ByteArray,e=.returned (.string s)∧s.size≤1000∧Ext w w':=by
 have HS:=tH h
 clear h
 go_enter Tryz.func11,Tryz.ntmps11
 go_wp2_with fail
 refine(l01SourceZ_any v l _ HS.out hl).mono ?_
 rintro e w2 ⟨g,rfl,hg,hx,hs,zs,hz,h3⟩
 have HX:=tH hx
 have HA:=tH hs
 clear hx hs
 go_wp2_with fail
 refine(src8Text_any g _ v l zs hz h3 HA.out).mono ?_
 rintro e w3 ⟨t,rfl,ht,hc,hs⟩
 have HX3:=tH (hc.ext HX.out (fun b hb=>by obtain rfl:=List.mem_singleton.1 hb;exact hg))
 have HA3:=tH hs
 clear hc hs HX HA h3
 go_wp2_with fail
 refine(srcOne_any g 8 _ v l HA3.out (by unfold I64;omega)).mono ?_
 rintro e w4 ⟨b,rfl,hc,hs⟩
 have HX4:=tH (hc.ext HX3.out (fun b hb=>by obtain rfl:=List.mem_singleton.1 hb;exact hg))
 have HA4:=tH hs
 clear hc hs HX3 HA3
 cases b
 ·go_wp2
  go_ret
  exact⟨t,rfl,by omega,HX4.out⟩
 ·go_wp2_with fail
  refine(srcSpoil_any g t _ v l HA4.out (by omega)).mono ?_
  rintro e w5 ⟨s,rfl,hs1,hc,-⟩
  have HX5:=tH (hc.ext HX4.out (fun b hb=>by obtain rfl:=List.mem_singleton.1 hb;exact hg))
  clear hc
  go_wp2
  go_ret
  exact⟨s,rfl,by omega,HX5.out⟩
end Go.Proofs.YtbmbanelodabgaaGreatDoor
