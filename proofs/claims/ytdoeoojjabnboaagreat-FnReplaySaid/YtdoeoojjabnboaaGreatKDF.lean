/- The laws' own comparison of lists; bytes as arguments. -/
import Derived.Test.YtdoeoojjabnboaaGreatKDR3
import Derived.Test.YtdoeoojjabnboaaGreatKPA1
import Derived.Test.YtdoeoojjabnboaaGreatKRRC
import Derived.Test.YtdoeoojjabnboaaGreatKPGM
import Derived.Test.YtdoeoojjabnboaaGreatKJE
import Derived.Test.YtdoeoojjabnboaaGreatKDP
import Derived.Test.YtdoeoojjabnboaaGreatKDE
import Derived.Test.YtdoeoojjabnboaaGreatKRX
import Derived.Test.YtdoeoojjabnboaaGreatKW10
import Derived.Test.YtdoeoojjabnboaaGreatKN
set_option maxRecDepth 100000
set_option linter.unusedVariables false
namespace Go.Proofs.YtdoeoojjabnboaaGreat
open Go.ChangeShapes Go.WideShapes Go.ChangeAt Go.RowKit Go.Fin1
section
variable {H:Type} {enc:TypeId×Value→H} {w:World} {base:Nat} {spare:Nat→Bool} {held:Bool} {fuel:Nat} {cs:List Value} {x:DataW H×List MemPlace}
theorem b_u8 (h:DataW.trod enc Tryz.prog w base spare held fuel 5 cs=some x):∃ n:Int,rU8 w cs n:=by
 obtain⟨n,h1,_,h2⟩:=DataW.trod_int Tryz.underlying5 h
 have h3:0≤n∧n≤255:=by
  simpa [Lit.wf,IntKind.min,IntKind.max,IntKind.signed,IntKind.bits] using h2
 exact⟨n,h1,h3.1,h3.2⟩
theorem b_bytes (h:DataW.trod enc Tryz.prog w base spare held fuel 22 cs=some x):∃ v xs,cs=[v]∧SlR w 1 rU8 v xs :=
 b_slice Tryz.underlying22 (by kernel_rfl) (by decide) (fun _ _ _ h=>b_u8 h) h
end
section
variable {H:Type} {enc:TypeId×Value→H} {w:World} {base:Nat} {spare:Nat→Bool} {held:Bool} {r:Reach} {b0:Nat} {v:Value} {d:DataW H} {ps:List MemPlace}
theorem open_bytes (hv:Value.okWide Tryz.prog w r b0 22 v) (h:DataW.Trod enc Tryz.prog w base spare held 22 v d ps):∃ a:Arg (List Int),v=a.v∧SlR w 1 rU8 a.v a.x:=slice_arg Tryz.underlying22 hv (fun _ _ _ h=>b_bytes h) h
end
set_option maxHeartbeats 800000 in
theorem lwNums_self (v v':Value) (l:List Int) (w:World) (h:SlR w 1 rInt v l) (h':SlR w 1 rInt v' l) :
  Calls Tryz.prog 127 #[v,v'] w fun e w'=>e=.returned (.bool true)∧Ext w w':=by
 obtain⟨ad,cap,rfl⟩:=h.len
 obtain⟨ad',cap',rfl⟩:=h'.len
 obtain⟨-,hlc,hcm⟩:=slr_len h
 have hlm:l.length≤9223372036854775807:=by unfold maxLen at hcm;omega
 clear hcm hlc
 have HS:=tH h
 have HS':=tH h'
 clear h h'
 go_enter Tryz.func127,Tryz.ntmps127
 go_wp2
 go_loopw [5] (fun i wr=>∃ k:Nat,k≤l.length∧i=.int .i64 k∧Ext w wr) (fun i _=>l.length-(intOf i).toNat)
 case atStart=>exact⟨0,Nat.zero_le _,rfl,xE⟩
 case round =>
  obtain⟨k,hk,rfl,⟨X,rfl⟩⟩:=hrel
  by_cases hlt:k < l.length
  ·obtain⟨b,off,rfl⟩:=slr_some HS.out hlt
   obtain⟨b',off',rfl⟩:=slr_some HS'.out hlt
   obtain⟨ho,-,h0⟩:=int_at HS.out hlt;obtain⟨ho',-,h0'⟩:=int_at HS'.out hlt
   skip
   go_wp2_with fail
   (refine wp_region_x 9 (by kernel_rfl) (by kernel_rfl) (by kernel_rfl) ?_;(iterate 9 (apply XReg.step;(case h=>(intro w' hw';obtain⟨X',rfl⟩:=hw';go_wp2_with (fail);exact⟨rfl,xE⟩));(case hv=>kernel_rfl)));refine XReg.doneN (fun X=>?_))
   go_wp2
   exact⟨⟨k+1,by omega,by go_num,xE⟩,by simp[intOf];omega⟩
  ·go_wp2
   go_ret
   exact⟨rfl,xE⟩
end Go.Proofs.YtdoeoojjabnboaaGreat
set_option maxRecDepth 100000
set_option linter.unusedVariables false
namespace Go.Proofs.YtdoeoojjabnboaaGreat
open Go.RowKit Go.Fin1
end Go.Proofs.YtdoeoojjabnboaaGreat
set_option maxRecDepth 100000
set_option linter.unusedVariables false
namespace Go.Proofs.YtdoeoojjabnboaaGreat
open Go.RowKit Go.Fin1
theorem chg_old9 {w w0 w1:World} {g:Nat} (hx:Ext w w0) (hc:Chg [g] w0 w1) (hg:w.heap.size≤g):Ext w w1:=hc.ext hx (by simpa using hg)
end Go.Proofs.YtdoeoojjabnboaaGreat
set_option maxRecDepth 100000
set_option linter.unusedVariables false
namespace Go.Proofs.YtdoeoojjabnboaaGreat
open Go.RowKit Go.Fin1
theorem ownsOneR (w:World) (a:Int):(w.alloc (.cells #[.int .u8 a] 5)).ownsRow w.heap.size 5 1 (.slice (some ⟨w.heap.size,0,none⟩) 1 1) 1 ([a].map (Value.int .u8)) :=
 ⟨rfl,.inr ⟨w.heap.size,1,#[.int .u8 a],rfl,Nat.le_refl _,Array.getElem?_push_size,by decide,by decide,rfl,rfl⟩⟩
set_option maxHeartbeats 3200000 in
theorem srcSpoil9_any (g:Nat) (t:ByteArray) (w:World) (cv:Value) (l:List Int) (h:SrcA w g cv l) (ht:t.size≤1000) :
  Calls Tryz.prog 78 #[.pointer (some ⟨g,0,none⟩),.string t] w fun e w'=>∃ s:ByteArray,e=.returned (.string s)∧s.size≤t.size+1∧Chg [g] w w'∧SrcA w' g cv l:=by
 have HS:=tH h
 clear h
 have H17:Hid (I64 17):=tH (by unfold I64;omega)
 have H3:Hid (I64 3):=tH (by unfold I64;omega)
 have H2:Hid (I64 2):=tH (by unfold I64;omega)
 have HT1:Hid (I64 ((t.size:Int)+1)):=tH (by unfold I64;omega)
 have hw1:wrap64 ((t.size:Int)+1)=(t.size:Int)+1:=by unfold wrap64;omega
 go_enter Tryz.func78,Tryz.ntmps78
 go_wp2_with fail
 refine(srcN' g _ _ cv l HS.out HT1.out).mono ?_
 rintro e w2 ⟨k,rfl,hb,hc,hs⟩
 have hk:k≤t.size:=by omega
 have HC:=tH hc
 have HA:=tH hs
 clear hc hs hb hw1
 go_wp2_with fail
 refine(srcN' g 17 _ cv l HA.out H17.out).mono ?_
 rintro e w3 ⟨q,rfl,hb,hc,hs⟩
 have hq:q < 17:=by omega
 have HC2:=tH (HC.out.trans hc)
 have HA2:=tH hs
 clear hc hs hb HC HA
 have hs:=run_string_own (P:=Tryz.prog) (src:=22) (dst:=9) Tryz.underlying22 Tryz.underlying5 Tryz.underlying9 (ownsOneR w3 ((((⟨#[32,10,48,97,45,110,44,58,93,255,40,120,126,49,128,225,59]⟩:ByteArray)[q]'hq).toNat:Nat):Int))
 obtain⟨cs,hcs,hz1⟩:∃ cs:ByteArray,cs=strOfNums [((((⟨#[32,10,48,97,45,110,44,58,93,255,40,120,126,49,128,225,59]⟩:ByteArray)[q]'hq).toNat:Nat):Int)]∧cs.size=1:=⟨_,rfl,strOfNums_size _⟩
 rw[← hcs] at hs
 clear hcs
 have HA3:=tH (HA2.out.ext ((Ext.refl w3).alloc (.cells #[.int .u8 ((((⟨#[32,10,48,97,45,110,44,58,93,255,40,120,126,49,128,225,59]⟩:ByteArray)[q]'hq).toNat:Nat):Int)] 5)))
 have HC3:=tH (HC2.out.trans (((Ext.refl w3).alloc (.cells #[.int .u8 ((((⟨#[32,10,48,97,45,110,44,58,93,255,40,120,126,49,128,225,59]⟩:ByteArray)[q]'hq).toNat:Nat):Int)] 5)).chg [g]))
 have hx1:(t.extract 0 k).size=k:=by rw[ByteArray.size_extract];omega
 have hx2:(t.extract k t.size).size=t.size-k:=by rw[ByteArray.size_extract];omega
 go_upto_region 3 with fail
 refine gen_world (fun w4 hW=>?_)
 rw[← hW] at HA3 HC3
 clear hW HA2 HC2 hs
 by_cases hkt:k=t.size
 ·have hkb:((k:Int) == (t.size:Int))=true:=by simp[hkt]
  clear hkt
  go_upto_region 4 with fail
  (refine wp_region_x 10 (by kernel_rfl) (by kernel_rfl) (by kernel_rfl) ?_;(iterate 10 (apply XReg.step;(case h=>(intro w' hw';obtain⟨X',rfl⟩:=hw';go_wp2_with (fail);exact⟨rfl,xE⟩));(case hv=>kernel_rfl)));refine XReg.doneN (fun X=>?_))
  go_wp2
  go_ret
  exact⟨_,rfl,by simp only[ByteArray.size_append,hx1,hx2,hz1];omega,HC3.out.trans (Ext.chg xE _),HA3.out.ext xE⟩
 ·have hkb:((k:Int) == (t.size:Int))=false:=by simp;omega
  have hk1:k+1≤t.size:=by omega
  have hw2:wrap64 ((k:Int)+1)=(k:Int)+1:=by unfold wrap64;omega
  have hx3:(t.extract (k+1) t.size).size=t.size-(k+1):=by rw[ByteArray.size_extract];omega
  clear hkt
  go_wp2_with fail
  refine(srcOne_any g 3 _ cv l HA3.out H3.out).mono ?_
  rintro e w5 ⟨b,rfl,hc,hs⟩
  have HC4:=tH (HC3.out.trans hc)
  have HA4:=tH hs
  clear hc hs HC3 HA3
  cases b
  ·go_wp2_with fail
   refine(srcOne_any g 2 _ cv l HA4.out H2.out).mono ?_
   rintro e w6 ⟨b,rfl,hc,hs⟩
   have HC5:=tH (HC4.out.trans hc)
   have HA5:=tH hs
   clear hc hs HC4 HA4
   cases b
   ·go_upto_region 7 with fail
    (refine wp_region_x 11 (by kernel_rfl) (by kernel_rfl) (by kernel_rfl) ?_;(iterate 11 (apply XReg.step;(case h=>(intro w' hw';obtain⟨X',rfl⟩:=hw';go_wp2_with (fail);exact⟨rfl,xE⟩));(case hv=>kernel_rfl)));refine XReg.doneN (fun X=>?_))
    go_wp2
    go_ret
    exact⟨_,rfl,by simp only[ByteArray.size_append,hx1,hx3,hz1];omega,HC5.out.trans (Ext.chg xE _),HA5.out.ext xE⟩
   ·go_upto_region 6 with fail
    (refine wp_region_x 9 (by kernel_rfl) (by kernel_rfl) (by kernel_rfl) ?_;(iterate 9 (apply XReg.step;(case h=>(intro w' hw';obtain⟨X',rfl⟩:=hw';go_wp2_with (fail);exact⟨rfl,xE⟩));(case hv=>kernel_rfl)));refine XReg.doneN (fun X=>?_))
    go_wp2
    go_ret
    exact⟨_,rfl,by simp only[ByteArray.size_append,hx1,hx3];omega,HC5.out.trans (Ext.chg xE _),HA5.out.ext xE⟩
  ·go_upto_region 4 with fail
   (refine wp_region_x 10 (by kernel_rfl) (by kernel_rfl) (by kernel_rfl) ?_;(iterate 10 (apply XReg.step;(case h=>(intro w' hw';obtain⟨X',rfl⟩:=hw';go_wp2_with (fail);exact⟨rfl,xE⟩));(case hv=>kernel_rfl)));refine XReg.doneN (fun X=>?_))
   go_wp2
   go_ret
   exact⟨_,rfl,by simp only[ByteArray.size_append,hx1,hx2,hz1];omega,HC4.out.trans (Ext.chg xE _),HA4.out.ext xE⟩
theorem unsealS_le (s:ByteArray):(unsealS s).t.size≤s.size:=by
 unfold unsealS
 split
 ·exact Nat.zero_le _
 ·split
  ·exact Nat.zero_le _
  ·split
   ·simp only[ByteArray.size_extract];omega
   ·exact Nat.zero_le _
theorem sealS_le (s:ByteArray):(sealS s).size≤s.size+4:=by
 unfold sealS
 split
 ·rw[ByteArray.size_append,four_size];exact Nat.le_refl _
 ·exact Nat.zero_le _
set_option maxHeartbeats 1600000 in
theorem drawEntryBytes_any (v:Value) (l:List Int) (w:World) (h:SlR w 1 rU8 v l) (hl:l.length≤1048576) :
  Calls Tryz.prog 27 #[v] w fun e w'=>∃ x:Ent,e=.returned x.val∧x.ok∧Ext w w':=by
 have HS:=tH h
 clear h
 go_enter Tryz.func27,Tryz.ntmps27
 go_wp2_with fail
 refine(l01Source_any v l _ (HS.out.ext rU8_stable xE) hl).mono ?_
 rintro e w2 ⟨g,rfl,hg,hx,hs⟩
 have HG9:=tH (show w.heap.size < g by simp at hg;omega)
 have HG:=tH (show w.heap.size≤g by have:=HG9.out;omega)
 have HR:=tH ((Blk.new (w:=w) (cs:=#[(.int .i64 0),(.int .i64 0),(.int .i64 0),(.int .i64 0),(.int .i64 0),(.int .i64 0)]) (ty:=57) rfl).ext hx)
 have HX:=tH ((Ext.refl w).alloc (.cells #[(.int .i64 0),(.int .i64 0),(.int .i64 0),(.int .i64 0),(.int .i64 0),(.int .i64 0)] 57) |>.trans hx)
 have HA:=tH hs
 clear hx hs hg
 go_wp2_with fail
 refine(srcEntry_any g _ v l HA.out).mono ?_
 rintro e w3 ⟨⟨k,⟨lv,st⟩,a,b,c⟩,rfl,hk,hc,hs⟩
 have HX3:=tH (chg_old9 HX.out hc HG.out)
 have HR3:=tH (HR.out.chg hc (by have:=HG9.out;simp;omega))
 have HK:=tH hk
 clear hc hs hk HA HX HR
 have r0:=HR3.out.cell 0
 have r1:=HR3.out.cell 1
 have r2:=HR3.out.cell 2
 have r3:=HR3.out.cell 3
 have r4:=HR3.out.cell 4
 have r5:=HR3.out.cell 5
 simp only[List.getElem?_cons_zero,List.getElem?_cons_succ] at r0 r1 r2 r3 r4 r5
 have ro:=HR3.out.old
 have rf:=HR3.out.fz
 unfold Ent.val
 go_wp2
 have hC:=set6_chg9 w3 w.heap.size (.int .i64 k) (.int .i64 lv) (.int .i64 st) (.int .i64 a) (.int .i64 b) (.int .i64 c)
 exact bodyPost_ret (v:=.agg #[(.int .i64 k),(.int .i64 lv),(.int .i64 st),(.int .i64 a),(.int .i64 b),(.int .i64 c)]) (by simp[results,Tryz.results27,go_sem,r0,r1,r2,r3,r4,r5]) rfl ⟨⟨k,⟨lv,st⟩,a,b,c⟩,rfl,HK.out,hC.ext HX3.out (by simp)⟩
set_option maxHeartbeats 3200000 in
theorem drawEntryRead_any (v:Value) (l:List Int) (w:World) (h:SlR w 1 rU8 v l) (hl:l.length≤1048576) :
  Calls Tryz.prog 29 #[v] w fun e w'=>∃ s:ByteArray,e=.returned (.string s)∧s.size≤1000∧Ext w w':=by
 have HS:=tH h
 have H5:Hid (I64 5):=tH (by unfold I64;omega)
 clear h
 go_enter Tryz.func29,Tryz.ntmps29
 go_wp2_with fail
 refine(l01Source_any v l _ (HS.out.ext rU8_stable xE) hl).mono ?_
 rintro e w2 ⟨g,rfl,hg,hx,hs⟩
 have HG:=tH hg
 have HX:=tH hx
 have HA:=tH hs
 clear hx hs hg
 go_wp2_with fail
 refine(srcEntry_any g _ v l HA.out).mono ?_
 rintro e w3 ⟨x,rfl,hxo,hc,hs⟩
 have HC:=tH hc
 have HA3:=tH hs
 have HK:=tH hxo
 clear hc hs hxo HA
 go_wp2_with fail
 refine(specEntryBytes_any x _ HK.out).mono ?_
 rintro e _ ⟨rfl,X,rfl⟩
 obtain⟨t,htt,hts⟩:∃ t:ByteArray,entB x=t∧t.size≤64:=⟨_,rfl,entB_size x⟩
 rw[htt]
 clear htt
 go_wp2_with fail
 refine(srcN' g 5 _ v l (HA3.out.ext xE) H5.out).mono ?_
 rintro e w4 ⟨k,rfl,hb,hc,hs⟩
 have HC4:=tH ((HC.out.trans (((Ext.refl w3).plus X).chg [g])).trans hc)
 have HA4:=tH hs
 clear hc hs hb HC HA3
 have HTS:=tH hts
 clear hts
 by_cases k0:k=0
 ·subst k0
  go_wp2_with fail
  refine(srcSpoil9_any g t _ v l HA4.out (by have:=HTS.out;omega)).mono ?_
  rintro e w5 ⟨s,rfl,hss,hc,hs⟩
  have HC5:=tH (HC4.out.trans hc)
  have HSS:=tH hss
  clear hc hs hss
  go_wp2
  go_ret
  exact⟨s,rfl,by have:=HSS.out;have:=HTS.out;omega,HC5.out.ext HX.out (by simpa using HG.out)⟩
 ·have kb0:((k:Int) == 0)=false:=by simp;omega
  by_cases k1:k=1
  ·subst k1
   have HT1:Hid (I64 ((t.size:Int)+1)):=tH (by have:=HTS.out;unfold I64;omega)
   have hw1:wrap64 ((t.size:Int)+1)=(t.size:Int)+1:=by have:=HTS.out;unfold wrap64;omega
   clear k0
   go_wp2_with fail
   refine(srcN' g _ _ v l HA4.out HT1.out).mono ?_
   rintro e w5 ⟨q,rfl,hb,hc,hs⟩
   have HC5:=tH (HC4.out.trans hc)
   have hq:q≤t.size:=by omega
   clear hc hs hb hw1
   go_wp2
   go_ret
   exact⟨_,rfl,by have:=HTS.out;simp only[ByteArray.size_extract];omega,HC5.out.ext HX.out (by simpa using HG.out)⟩
  ·have kb1:((k:Int) == 1)=false:=by simp;omega
   by_cases k2:k=2
   ·subst k2
    clear k0 k1
    go_wp2_with fail
    have hfd:∀ (w:World) (s:ByteArray) (b c:Int),(Instr.field 107 (.agg #[.string s,(.int .i64 b),(.int .i64 c)]) 0).run Tryz.prog w=.ok (.string s) w:=fun _ _ _ _=>by kernel_rfl
    refine(specUnseal_any t _ (by have:=HTS.out;omega)).mono ?_
    rintro e _ ⟨rfl,X2,rfl⟩
    obtain⟨u,huu,hus⟩:∃ u:TextO,unsealS t=u∧u.t.size≤t.size:=⟨_,rfl,unsealS_le t⟩
    rw[huu]
    clear huu
    have HU:=tH hus
    clear hus
    unfold textV
    go_wp2_with fail
    refine(srcSpoil9_any g u.t _ v l (HA4.out.ext xE) (by have:=HU.out;have:=HTS.out;omega)).mono ?_
    rintro e w5 ⟨s,rfl,hss,hc,hs⟩
    have HC5:=tH ((HC4.out.trans (((Ext.refl w4).plus X2).chg [g])).trans hc)
    have HSS:=tH hss
    clear hc hs hss
    go_wp2_with fail
    refine(specSeal_any s _ (by have:=HSS.out;have:=HU.out;have:=HTS.out;unfold maxLen;omega)).mono ?_
    rintro e _ ⟨rfl,X3,rfl⟩
    go_wp2
    go_ret
    exact⟨_,rfl,by have:=HSS.out;have:=HU.out;have:=HTS.out;have:=sealS_le s;omega,(HC5.out.trans (((Ext.refl w5).plus X3).chg [g])).ext HX.out (by simpa using HG.out)⟩
   ·have kb2:((k:Int) == 2)=false:=by simp;omega
    clear k0 k1 k2
    go_wp2
    go_ret
    exact⟨t,rfl,by have:=HTS.out;omega,HC4.out.ext HX.out (by simpa using HG.out)⟩
end Go.Proofs.YtdoeoojjabnboaaGreat
