/- The draw of a log. -/
import Derived.Test.YtdoeoojjabnboaaGreatKDF
import Derived.Test.YtdoeoojjabnboaaGreatKZZ3
import Derived.Test.YtdoeoojjabnboaaGreatKZZ9
set_option maxRecDepth 100000
set_option linter.unusedVariables false
namespace Go.Proofs.YtdoeoojjabnboaaGreat
open Go.RowKit Go.Fin1
def cl9:List (List Lab):=[[⟨0,0⟩,⟨1,0⟩],[⟨0,0⟩,⟨1,0⟩]]
theorem slr_two {w:World} {b:Nat} (hb:Blk w b [(.int .i64 0),(.int .i64 0),(.int .i64 1),(.int .i64 0)] 28):SlR w 2 rLab (.slice (some ⟨b,0,none⟩) 2 2) [⟨0,0⟩,⟨1,0⟩]:=by
 refine⟨_,2,rfl,Nat.le_refl _,by decide,fun i hi=>?_⟩
 have hi2:i=0∨i=1:=by simp at hi;omega
 rcases hi2 with rfl | rfl
 ·refine⟨b,0,[(.int .i64 0),(.int .i64 0)],rfl,rfl,fun j u hu=>?_,rfl,by simp[Lab.ok,I64]⟩
  rw[hb.cell]
  have:j=0∨j=1∨2≤j:=by omega
  rcases this with rfl | rfl | h
  ·simpa using hu
  ·simpa using hu
  ·rw[List.getElem?_eq_none (by simpa using h)] at hu;cases hu
 ·refine⟨b,0,[(.int .i64 1),(.int .i64 0)],rfl,rfl,fun j u hu=>?_,rfl,by simp[Lab.ok,I64]⟩
  rw[hb.cell]
  have:j=0∨j=1∨2≤j:=by omega
  rcases this with rfl | rfl | h
  ·simpa using hu
  ·simpa using hu
  ·rw[List.getElem?_eq_none (by simpa using h)] at hu;cases hu
theorem slr_cl9 {w:World} {b b1 b2:Nat} (hb:Blk w b [.slice (some ⟨b1,0,none⟩) 2 2,.slice (some ⟨b2,0,none⟩) 2 2] 78) (h1:Blk w b1 [(.int .i64 0),(.int .i64 0),(.int .i64 1),(.int .i64 0)] 28) (h2:Blk w b2 [(.int .i64 0),(.int .i64 0),(.int .i64 1),(.int .i64 0)] 28) :
  SlR w 1 rLabS (.slice (some ⟨b,0,none⟩) 2 2) cl9:=by
 refine⟨_,2,rfl,Nat.le_refl _,by decide,fun i hi=>?_⟩
 have hi2:i=0∨i=1:=by simp[cl9] at hi;omega
 rcases hi2 with rfl | rfl
 ·refine⟨b,0,[_],rfl,rfl,fun j u hu=>?_,_,rfl,slr_two h1⟩
  rw[hb.cell]
  have:j=0∨1≤j:=by omega
  rcases this with rfl | h
  ·simpa using hu
  ·rw[List.getElem?_eq_none (by simpa using h)] at hu;cases hu
 ·refine⟨b,0,[_],rfl,rfl,fun j u hu=>?_,_,rfl,slr_two h2⟩
  rw[hb.cell]
  have:j=0∨1≤j:=by omega
  rcases this with rfl | h
  ·simpa using hu
  ·rw[List.getElem?_eq_none (by simpa using h)] at hu;cases hu
structure RpD (w:World) (g:Nat) (cv:Value) (l:List Int) (W:World):Prop where
 s0:SrcA w g cv l
 c:Chg [g] w W
 s:SrcA W g cv l
 b0:Blk W w.heap.size [(.int .i64 0),(.int .i64 0),(.int .i64 1),(.int .i64 0)] 28
 b1:Blk W (w.heap.size+1) [(.int .i64 0),(.int .i64 0),(.int .i64 1),(.int .i64 0)] 28
 b2:Blk W (w.heap.size+1+1) [.slice (some ⟨w.heap.size,0,none⟩) 2 2,.slice (some ⟨w.heap.size+1,0,none⟩) 2 2] 78
theorem RpD.src {w:World} {g:Nat} {cv:Value} {l:List Int} {W W':World} (h:RpD w g cv l W) (hc:Chg [g] W W') (hs:SrcA W' g cv l):RpD w g cv l W':=by
 have:=h.s0.old
 unfold World.old at this
 exact⟨h.s0,h.c.trans hc,hs,h.b0.chg hc (by simp;omega),h.b1.chg hc (by simp;omega),h.b2.chg hc (by simp;omega)⟩
theorem RpD.ext {w:World} {g:Nat} {cv:Value} {l:List Int} {W W':World} (h:RpD w g cv l W) (hx:Ext W W'):RpD w g cv l W':=h.src (hx.chg _) (h.s.ext hx)
theorem RpD.start {w:World} {g:Nat} {cv:Value} {l:List Int} (h:SrcA w g cv l):RpD w g cv l (((w.alloc (.cells #[(.int .i64 0),(.int .i64 0),(.int .i64 1),(.int .i64 0)] 28)).alloc (.cells #[(.int .i64 0),(.int .i64 0),(.int .i64 1),(.int .i64 0)] 28)).alloc (.cells #[.slice (some ⟨w.heap.size,0,none⟩) 2 2,.slice (some ⟨w.heap.size+1,0,none⟩) 2 2] 78)) :=
 ⟨h,((((Ext.refl w).alloc _).alloc _).alloc _).chg _,h.ext ((((Ext.refl w).alloc _).alloc _).alloc _),(Blk.new (w:=w) rfl).ext (((Ext.refl _).alloc _).alloc _),(Blk.new (cs:=#[(.int .i64 0),(.int .i64 0),(.int .i64 1),(.int .i64 0)]) (by simp)).ext ((Ext.refl _).alloc _),Blk.new (cs:=#[.slice (some ⟨w.heap.size,0,none⟩) 2 2,.slice (some ⟨w.heap.size+1,0,none⟩) 2 2]) (by simp)⟩
set_option maxHeartbeats 3200000 in
theorem drawReplay_any (v:Value) (l:List Int) (w:World) (h:SlR w 1 rU8 v l) (hl:l.length≤1048576) :
  Calls Tryz.prog 24 #[v] w fun e w'=>∃ (a:Option Addr) (c:Nat) (L:List (List Lab)) (s:ByteArray),e=.returned (.tuple #[.slice a L.length c,.string s])∧SlR w' 1 rLabS (.slice a L.length c) L∧szL List.length L≤100∧s.size≤1000∧Ext w w':=by
 have HS:=tH h
 have H4:Hid (I64 4):=tH (by unfold I64;omega)
 have H10:Hid (I64 10):=tH (by unfold I64;omega)
 have H12:Hid (I64 12):=tH (by unfold I64;omega)
 clear h
 go_enter Tryz.func24,Tryz.ntmps24
 go_wp2_with fail
 refine(l01Source_any v l _ (HS.out.ext rU8_stable xE) hl).mono ?_
 rintro e w2 ⟨g,rfl,hg,hx,hs⟩
 have HG:=tH hg
 have HX:=tH hx
 have HA:=tH hs
 clear hx hs hg
 go_wp2_with fail
 refine(srcN' g 10 _ v l (HA.out.ext xE) H10.out).mono ?_
 rintro e w3 ⟨n,rfl,hb,hc,hs⟩
 have hn:n < 10:=by omega
 have HR:=tH ((RpD.start HA.out).src hc hs)
 clear hc hs hb HA
 go_wp2
 go_loopw [6,7] (fun t k wr=>∃ (m:Nat) (s:ByteArray),m≤n∧k=(.int .i64 m)∧t=.string s∧Hid (s.size+74*m≤74*9)∧Hid (RpD w2 g v l wr)) (fun _ k _=>(intOf k).toNat)
 case atStart=>exact⟨n,_,Nat.le_refl _,rfl,rfl,tH (by have:(⟨#[]⟩:ByteArray).size=0:=rfl;omega),HR⟩
 case round =>
  obtain⟨m,s,hm,rfl,rfl,HZ,HW⟩:=hrel
  by_cases m0:m=0
  ·subst m0
   clear hm
   go_wp2_with fail
   refine(srcN' g 4 _ v l HW.out.s H4.out).mono ?_
   rintro e w4 ⟨k,rfl,hb,hc,hs⟩
   have HR4:=tH (HW.out.src hc hs)
   clear hc hs hb HW
   by_cases k0:k=0
   ·subst k0
    go_wp2_with fail
    refine(srcSpoil9_any g s _ v l HR4.out.s (by have:=HZ.out;omega)).mono ?_
    rintro e w5 ⟨t,rfl,hss,hc,hs⟩
    have HR5:=tH (HR4.out.src hc hs)
    have HS2:=tH (show t.size≤1000 by have:=HZ.out;omega)
    clear hc hs hss
    go_wp2_with fail
    refine(srcOne_any g 12 _ v l HR5.out.s H12.out).mono ?_
    rintro e wz ⟨b,rfl,hc,hs⟩
    have HRz:=tH (HR5.out.src hc hs)
    clear hc hs HR5
    cases b
    ·go_wp2
     refine bodyPost_ret (v:=.tuple #[.slice (some ⟨w2.heap.size+1+1,0,none⟩) 2 2,.string t]) (by simp[results,Tryz.results24,go_sem]) rfl ?_
     exact⟨_,2,cl9,t,rfl,slr_cl9 HRz.out.b2 HRz.out.b0 HRz.out.b1,by unfold szL;decide,by have:=HS2.out;first | omega | (simp only[ByteArray.size_extract];omega),HRz.out.c.ext HX.out (by simpa using HG.out)⟩
    ·go_wp2
     refine bodyPost_ret (v:=.tuple #[.slice none 0 0,.string t]) (by simp[results,Tryz.results24,go_sem]) rfl ?_
     exact⟨none,0,[],t,rfl,slr_nil rfl (by decide),by unfold szL;decide,by have:=HS2.out;first | omega | (simp only[ByteArray.size_extract];omega),HRz.out.c.ext HX.out (by simpa using HG.out)⟩
   ·have kb0:((k:Int) == 0)=false:=by simp;omega
    by_cases k1:k=1
    ·subst k1
     have HT1:Hid (I64 ((s.size:Int)+1)):=tH (by have:=HZ.out;unfold I64;omega)
     have hw1:wrap64 ((s.size:Int)+1)=(s.size:Int)+1:=by have:=HZ.out;unfold wrap64;omega
     clear k0
     go_wp2_with fail
     refine(srcN' g _ _ v l HR4.out.s HT1.out).mono ?_
     rintro e w5 ⟨q,rfl,hb,hc,hs⟩
     have HR5:=tH (HR4.out.src hc hs)
     have hq:q≤s.size:=by omega
     clear hc hs hb hw1
     go_wp2_with fail
     refine(srcOne_any g 12 _ v l HR5.out.s H12.out).mono ?_
     rintro e wz ⟨b,rfl,hc,hs⟩
     have HRz:=tH (HR5.out.src hc hs)
     clear hc hs HR5
     cases b
     ·go_wp2
      refine bodyPost_ret (v:=.tuple #[.slice (some ⟨w2.heap.size+1+1,0,none⟩) 2 2,.string (s.extract 0 q)]) (by simp[results,Tryz.results24,go_sem]) rfl ?_
      exact⟨_,2,cl9,(s.extract 0 q),rfl,slr_cl9 HRz.out.b2 HRz.out.b0 HRz.out.b1,by unfold szL;decide,by have:=HZ.out;first | omega | (simp only[ByteArray.size_extract];omega),HRz.out.c.ext HX.out (by simpa using HG.out)⟩
     ·go_wp2
      refine bodyPost_ret (v:=.tuple #[.slice none 0 0,.string (s.extract 0 q)]) (by simp[results,Tryz.results24,go_sem]) rfl ?_
      exact⟨none,0,[],(s.extract 0 q),rfl,slr_nil rfl (by decide),by unfold szL;decide,by have:=HZ.out;first | omega | (simp only[ByteArray.size_extract];omega),HRz.out.c.ext HX.out (by simpa using HG.out)⟩
    ·have kb1:((k:Int) == 1)=false:=by simp;omega
     clear k0 k1
     go_wp2_with fail
     refine(srcOne_any g 12 _ v l HR4.out.s H12.out).mono ?_
     rintro e wz ⟨b,rfl,hc,hs⟩
     have HRz:=tH (HR4.out.src hc hs)
     clear hc hs HR4
     cases b
     ·go_wp2
      refine bodyPost_ret (v:=.tuple #[.slice (some ⟨w2.heap.size+1+1,0,none⟩) 2 2,.string s]) (by simp[results,Tryz.results24,go_sem]) rfl ?_
      exact⟨_,2,cl9,s,rfl,slr_cl9 HRz.out.b2 HRz.out.b0 HRz.out.b1,by unfold szL;decide,by have:=HZ.out;first | omega | (simp only[ByteArray.size_extract];omega),HRz.out.c.ext HX.out (by simpa using HG.out)⟩
     ·go_wp2
      refine bodyPost_ret (v:=.tuple #[.slice none 0 0,.string s]) (by simp[results,Tryz.results24,go_sem]) rfl ?_
      exact⟨none,0,[],s,rfl,slr_nil rfl (by decide),by unfold szL;decide,by have:=HZ.out;first | omega | (simp only[ByteArray.size_extract];omega),HRz.out.c.ext HX.out (by simpa using HG.out)⟩
  ·have hmd:decide ((0:Int) < (m:Int))=true:=decide_eq_true (by omega)
   have hmw:wrap64 ((m:Int)-1)=((m-1:Nat):Int):=by unfold wrap64;omega
   have hm1:1≤m:=by omega
   clear m0
   go_wp2_with fail
   refine(srcEntry_any g _ v l HW.out.s).mono ?_
   rintro e w4 ⟨x,rfl,hxo,hc,hs⟩
   have HR4:=tH (HW.out.src hc hs)
   have HK:=tH hxo
   clear hc hs hxo HW
   go_wp2_with fail
   refine(specEntryBytes_any x _ HK.out).mono ?_
   rintro e _ ⟨rfl,X,rfl⟩
   obtain⟨t,htt,hts⟩:∃ t:ByteArray,entB x=t∧t.size≤64:=⟨_,rfl,entB_size x⟩
   rw[htt]
   clear htt
   go_wp2_with fail
   refine(specPutText_any t _ (by unfold maxLen;omega)).mono ?_
   rintro e _ ⟨rfl,Y,rfl⟩
   obtain⟨u,huu,hus⟩:∃ u:ByteArray,putText t=u∧u.size≤74:=⟨_,rfl,putText_size hts⟩
   rw[huu]
   clear huu hts
   have HS2:=tH (show (s++u).size+74*(m-1)≤74*9 by have:=HZ.out;rw[ByteArray.size_append];omega)
   have hsz:s.size+u.size≤2000:=by have:=HZ.out;omega
   go_wp2
   exact⟨⟨m-1,_,by omega,by rw[show ((m-1:Nat):Int)=(m:Int)-1 by omega],rfl,HS2,tH ((HR4.out.ext ((Ext.refl w4).plus X)).ext ((Ext.refl _).plus Y))⟩,by simp[intOf];omega⟩
end Go.Proofs.YtdoeoojjabnboaaGreat
set_option maxRecDepth 100000
set_option linter.unusedVariables false
namespace Go.Proofs.YtdoeoojjabnboaaGreat
open Go.RowKit Go.Fin1
def kEnt9:XReg.Kind:=fun v _=>∃ x:Ent,v=x.val∧x.ok
theorem kEnt9_good {R:World→World→Prop}:XReg.GoodKL R kEnt9:=⟨fun _ _ _ _ h=>h,Ent.val ⟨0,⟨0,0⟩,0,0,0⟩,default,⟨0,⟨0,0⟩,0,0,0⟩,rfl,by simp[Ent.ok,Lab.ok,I64]⟩
set_option maxHeartbeats 3200000 in
theorem drawAct_any (v:Value) (l:List Int) (w:World) (h:SlR w 1 rU8 v l) (hl:l.length≤1048576) :
  Calls Tryz.prog 31 #[v] w fun e w'=>∃ (p:Pl) (ca:Option Addr) (cc:Nat) (ja:Option Addr) (jc:Nat) (x:Ent),e=.returned (.tuple #[.agg #[.slice ca p.clear.length cc,.slice ja p.jobs.length jc,(.int .i64 p.now)],x.val])∧Ext w w'∧ePool w' (p.val (.slice ca p.clear.length cc) (.slice ja p.jobs.length jc)) p∧PlB p∧x.ok:=by
 have HS:=tH h
 clear h
 go_enter Tryz.func31,Tryz.ntmps31
 go_wp2_with fail
 refine(l01Source_any v l _ (HS.out.ext rU8_stable xE) hl).mono ?_
 rintro e w2 ⟨g,rfl,hg,hx,hs⟩
 have HG9:=tH (show w.heap.size+1 < g by simp at hg;omega)
 have HG:=tH (show w.heap.size≤g by have:=HG9.out;omega)
 have HRa:=tH ((Blk.new (w:=w) (cs:=#[.slice none 0 0,.slice none 0 0,(.int .i64 0)]) (ty:=26) rfl).ext ((Ext.refl _).alloc (.cells #[(.int .i64 0),(.int .i64 0),(.int .i64 0),(.int .i64 0),(.int .i64 0),(.int .i64 0)] 57) |>.trans hx))
 have HRb:=tH ((Blk.new (w:=w.alloc (.cells #[.slice none 0 0,.slice none 0 0,(.int .i64 0)] 26)) (b:=w.heap.size+1) (cs:=#[(.int .i64 0),(.int .i64 0),(.int .i64 0),(.int .i64 0),(.int .i64 0),(.int .i64 0)]) (ty:=57) (by simp)).ext hx)
 have HX:=tH ((Ext.refl w).alloc (.cells #[.slice none 0 0,.slice none 0 0,(.int .i64 0)] 26) |>.alloc (.cells #[(.int .i64 0),(.int .i64 0),(.int .i64 0),(.int .i64 0),(.int .i64 0),(.int .i64 0)] 57) |>.trans hx)
 have HA:=tH hs
 have HWG:=tH (show w.heap.size < w2.heap.size from HRa.out.old)
 have HWG1:=tH (show w.heap.size+1 < w2.heap.size from HRb.out.old)
 clear hx hs hg
 go_wp2_with fail
 refine(srcPool_any g _ v l HA.out).mono ?_
 rintro e w3 ⟨p,c,j,rfl,hc,hs,hP,hB⟩
 obtain⟨⟨ca,cc,rfl⟩,⟨ja,jc,rfl⟩⟩:=hP.shape
 have HX3:=tH (chg_old9 HX.out hc HG.out)
 have HRa3:=tH (HRa.out.chg hc (by have:=HG9.out;simp;omega))
 have HRb3:=tH (HRb.out.chg hc (by have:=HG9.out;simp;omega))
 have HG2:=tH HA.out.old
 have HP:=tH hP
 have HA3:=tH hs
 have HB:=tH hB
 clear hc hs hP hB HA HX HRa HRb
 unfold Pl.val
 go_upto_region 3 with fail
 refine gen_world (fun W4 hW=>?_)
 have HX4:=tH (show Ext w W4 by rw[hW];exact HX3.out.trans xE)
 have HRa4:=tH (show Blk W4 w.heap.size _ _ by rw[hW];exact HRa3.out.ext xE)
 have HRb4:=tH (show Blk W4 (w.heap.size+1) _ _ by rw[hW];exact HRb3.out.ext xE)
 have HP4:=tH (show PlR w2.heap.size W4 _ _ p by rw[hW];exact HP.out.ext xE)
 have HA4:=tH (show SrcA W4 g v l by rw[hW];exact HA3.out.ext xE)
 have HB4:=tH (show Blk W4 w3.heap.size [.slice ca p.clear.length cc,.slice ja p.jobs.length jc,(.int .i64 p.now)] 26 by rw[hW];exact Blk.new (cs:=#[.slice ca p.clear.length cc,.slice ja p.jobs.length jc,(.int .i64 p.now)]) rfl)
 have HZ4:=tH (show g < w3.heap.size from HA3.out.old)
 clear hW HX3 HRa3 HRb3 HP HA3
 generalize w3.heap.size=bB at HB4 HZ4 ⊢
 (refine wp_region_l (R:=SrcR g v l) (SrcR.trans) 3 [(fun u _=>u=(.agg #[.slice ca p.clear.length cc,.slice ja p.jobs.length jc,(.int .i64 p.now)])),(fun u _=>u=(.pointer (some ⟨g,0,none⟩))),kEnt9] (by kernel_rfl) (by kernel_rfl) (by kernel_rfl) rfl ?_ (by repeat' (first | exact trivial | exact XReg.GoodKL.same _ _ default | exact kI64_good | exact kLt_good (by decide) | exact kArr_good | exact kPt_good (by decide) | exact kEnt9_good | refine And.intro ?_ ?_)) (SrcR.ext (Ext.refl _).drew))
 apply LReg.val (.agg #[.slice ca p.clear.length cc,.slice ja p.jobs.length jc,(.int .i64 p.now)])
 case h =>
  intro w' hw' hF'
  have hB:=HB4.out.chg hw'.1 (by have:=HZ4.out;simp;omega)
  have e0:w'.cell? ⟨bB,0,none⟩=some (.slice ca p.clear.length cc):=hB.cell 0
  have e1:w'.cell? ⟨bB,1,none⟩=some (.slice ja p.jobs.length jc):=hB.cell 1
  have e2:w'.cell? ⟨bB,2,none⟩=some (.int .i64 p.now):=hB.cell 2
  have eo:=hB.old
  clear hF' hw' hB
  go_wp2_with fail
  exact⟨rfl,SrcR.ext xE⟩
 case hv=>kernel_rfl
 (apply LReg.val (.pointer (some ⟨g,0,none⟩));(case h=>(intro w' hw' hF';have HW':=tH hw';clear hF' hw';go_wp2_with fail;exact⟨rfl,SrcR.ext xE⟩));(case hv=>kernel_rfl))
 refine LReg.kind (fun w' hw' hF'=>?_) (fun v1 w1 hK=>?_)
 ·have HW':=tH (hw'.2 HA4.out)
  clear hF' hw'
  go_wp2_with fail
  refine(srcEntry_any g _ v l (HW'.out.ext xE)).mono ?_
  rintro e w8 ⟨x,rfl,hx,hc,hs⟩
  have HR8:=tH (SrcR.of (w:=w') xE hc hs)
  have HK:=tH hx
  clear hc hs hx
  go_wp2
  exact⟨HR8.out,_,rfl,HK.out⟩
 obtain⟨⟨k,⟨lv,st⟩,a,b,c⟩,rfl,hx⟩:=hK
 have HK:=tH hx
 clear w1 hx
 refine LReg.done (fun w5 hw9 hF=>?_)
 have HX5:=tH (chg_old9 HX4.out hw9.1 HG.out)
 have HRa5:=tH (HRa4.out.chg hw9.1 (by have:=HG9.out;simp;omega))
 have HRb5:=tH (HRb4.out.chg hw9.1 (by have:=HG9.out;simp;omega))
 have HP5:=tH (HP4.out.low hw9.1 HG2.out)
 clear hF hw9 HX4 HRa4 HRb4 HP4 HA4 HB4
 have r0:w5.cell? ⟨w.heap.size,0,none⟩=some (.slice none 0 0):=HRa5.out.cell 0
 have r1:w5.cell? ⟨w.heap.size,1,none⟩=some (.slice none 0 0):=HRa5.out.cell 1
 have r2:w5.cell? ⟨w.heap.size,2,none⟩=some (.int .i64 0):=HRa5.out.cell 2
 have q0:w5.cell? ⟨w.heap.size+1,0,none⟩=some (.int .i64 0):=HRb5.out.cell 0
 have q1:w5.cell? ⟨w.heap.size+1,1,none⟩=some (.int .i64 0):=HRb5.out.cell 1
 have q2:w5.cell? ⟨w.heap.size+1,2,none⟩=some (.int .i64 0):=HRb5.out.cell 2
 have q3:w5.cell? ⟨w.heap.size+1,3,none⟩=some (.int .i64 0):=HRb5.out.cell 3
 have q4:w5.cell? ⟨w.heap.size+1,4,none⟩=some (.int .i64 0):=HRb5.out.cell 4
 have q5:w5.cell? ⟨w.heap.size+1,5,none⟩=some (.int .i64 0):=HRb5.out.cell 5
 have ro:=HRa5.out.old
 have rf:=HRa5.out.fz
 have qo:=HRb5.out.old
 have qf:=HRb5.out.fz
 unfold Ent.val
 go_wp2
 have hC:=(set3_chg9 w5 w.heap.size (.slice ca p.clear.length cc) (.slice ja p.jobs.length jc) (.int .i64 p.now))
 have hC2:=set6_chg9 (((w5.setCell ⟨w.heap.size,0,none⟩ (.slice ca p.clear.length cc)).setCell ⟨w.heap.size,1,none⟩ (.slice ja p.jobs.length jc)).setCell ⟨w.heap.size,2,none⟩ (.int .i64 p.now)) (w.heap.size+1) (.int .i64 k) (.int .i64 lv) (.int .i64 st) (.int .i64 a) (.int .i64 b) (.int .i64 c)
 exact bodyPost_ret (v:=.tuple #[.agg #[.slice ca p.clear.length cc,.slice ja p.jobs.length jc,(.int .i64 p.now)],.agg #[(.int .i64 k),(.int .i64 lv),(.int .i64 st),(.int .i64 a),(.int .i64 b),(.int .i64 c)]]) (by simp[results,Tryz.results31,go_sem,r0,r1,r2,q0,q1,q2,q3,q4,q5]) rfl ⟨p,ca,cc,ja,jc,⟨k,⟨lv,st⟩,a,b,c⟩,rfl,hC2.ext (hC.ext HX5.out (by simp)) (by simp),((HP5.out.off hC (offP_g HWG.out)).off hC2 (offP_g HWG1.out)).e,HB.out,HK.out⟩
end Go.Proofs.YtdoeoojjabnboaaGreat
set_option maxRecDepth 100000
set_option linter.unusedVariables false
namespace Go.Proofs.YtdoeoojjabnboaaGreat
open Go.RowKit Go.Fin1
set_option maxHeartbeats 1600000 in
theorem lwJob9_self (j:Jb) (nv nv':Value) (w:World) (h:SlR w 1 rInt nv j.nodes) (h':SlR w 1 rInt nv' j.nodes) :
  Calls Tryz.prog 87 #[j.val nv,j.val nv'] w fun e w'=>e=.returned (.bool true)∧Ext w w':=by
 obtain⟨a,c,rfl⟩:=h.len
 obtain⟨b,d,rfl⟩:=h'.len
 have H1:=tH h
 have H2:=tH h'
 clear h h'
 have hs:sameL ⟨j.l.lv,j.l.st⟩ ⟨j.l.lv,j.l.st⟩=true:=sameL_self _
 unfold Jb.val
 go_enter Tryz.func87,Tryz.ntmps87
 go_wp2_with fail
 refine(lwNums_self _ _ j.nodes _ (H1.out.ext rInt_stable xE) (H2.out.ext rInt_stable xE)).mono ?_
 rintro e _ ⟨rfl,X,rfl⟩
 go_wp2
 go_ret
 exact⟨rfl,xE⟩
set_option maxHeartbeats 3200000 in
theorem lwPool_self (p:Pl) (v v':Value) (w:World) (h:ePool w v p) (h':ePool w v' p) :
  Calls Tryz.prog 32 #[v,v'] w fun e w'=>e=.returned (.bool true)∧Ext w w':=by
 obtain⟨a,c,b,d,rfl,h0,h1,h2⟩:=h
 obtain⟨a',c',b',d',rfl,_,h1',h2'⟩:=h'
 obtain⟨-,hlc,hcm⟩:=slr_len h1
 obtain⟨-,hlj,hjm⟩:=slr_len h2
 have hcl:p.clear.length≤9223372036854775807:=by unfold maxLen at hcm;omega
 have hjl:p.jobs.length≤9223372036854775807:=by unfold maxLen at hjm;omega
 clear hcm hlc hjm hlj
 have HC:=tH h1
 have HJ:=tH h2
 have HC':=tH h1'
 have HJ':=tH h2'
 clear h0 h1 h2 h1' h2'
 go_enter Tryz.func32,Tryz.ntmps32
 unfold Pl.val
 go_wp2
 go_loopw [5] (fun i wr=>∃ k:Nat,k≤p.jobs.length∧i=.int .i64 k∧Ext ((w.alloc (.cells #[.slice a p.clear.length c,.slice b p.jobs.length d,(.int .i64 p.now)] 26)).alloc (.cells #[.slice a' p.clear.length c',.slice b' p.jobs.length d',(.int .i64 p.now)] 26)) wr) (fun i _=>p.jobs.length-(intOf i).toNat)
 case atStart=>exact⟨0,Nat.zero_le _,rfl,Ext.refl _⟩
 case round =>
  obtain⟨k,hk,rfl,⟨X,rfl⟩⟩:=hrel
  by_cases hlt:k < p.jobs.length
  ·obtain⟨b1,off,rfl⟩:=slr_some HJ.out hlt
   obtain⟨b2,off',rfl⟩:=slr_some HJ'.out hlt
   obtain⟨ho,aj,cj,hjok,hn,g0,g1,g2,g3,g4,g5,g6,g7,g8⟩:=job_at HJ.out hlt
   obtain⟨ho',aj',cj',hjok',hn',g0',g1',g2',g3',g4',g5',g6',g7',g8'⟩:=job_at HJ'.out hlt
   have HN:=tH hn
   have HN':=tH hn'
   clear hn hn' hjok hjok'
   go_upto_region 6 with fail
   (refine wp_region_x 12 (by kernel_rfl) (by kernel_rfl) (by kernel_rfl) ?_;(iterate 12 (apply XReg.step;(case h=>(intro w' hw';obtain⟨X',rfl⟩:=hw';go_wp2_with ((go_at_call 87;refine(lwJob9_self p.jobs[k] _ _ _ (HN.out.ext rInt_stable xE) (HN'.out.ext rInt_stable xE)).mono ?_;rintro e _ ⟨rfl,Y,rfl⟩));exact⟨rfl,xE⟩));(case hv=>kernel_rfl)));refine XReg.doneN (fun X=>?_))
   go_wp2
   exact⟨⟨k+1,by omega,by go_num,xE⟩,by simp[intOf];omega⟩
  ·obtain rfl:k=p.jobs.length:=by omega
   clear hk hlt
   go_wp2
   go_loopw [6,7] (fun i _ wr=>∃ k:Nat,k≤p.clear.length∧i=.int .i64 k∧Ext ((w.alloc (.cells #[.slice a p.clear.length c,.slice b p.jobs.length d,(.int .i64 p.now)] 26)).alloc (.cells #[.slice a' p.clear.length c',.slice b' p.jobs.length d',(.int .i64 p.now)] 26)) wr) (fun i _ _=>p.clear.length-(intOf i).toNat)
   case atStart=>exact⟨0,Nat.zero_le _,rfl,xE⟩
   case round =>
    obtain⟨k,hk,rfl,⟨Y,rfl⟩⟩:=hrel
    by_cases hlt:k < p.clear.length
    ·obtain⟨b1,off,rfl⟩:=slr_some HC.out hlt
     obtain⟨b2,off',rfl⟩:=slr_some HC'.out hlt
     obtain⟨ho,vx,hsx,g0⟩:=sl_at HC.out hlt
     obtain⟨ho',vx',hsx',g0'⟩:=sl_at HC'.out hlt
     obtain⟨ax,cx,rfl⟩:=hsx.len
     obtain⟨ax',cx',rfl⟩:=hsx'.len
     obtain⟨-,hlx,hxm⟩:=slr_len hsx
     have hxl:p.clear[k].length≤9223372036854775807:=by unfold maxLen at hxm;omega
     clear hlx hxm
     have HN:=tH hsx
     have HN':=tH hsx'
     clear hsx hsx'
     go_upto_region 11 with fail
     (refine wp_region_x 13 (by kernel_rfl) (by kernel_rfl) (by kernel_rfl) ?_;(iterate 13 (apply XReg.step;(case h=>(intro w' hw';obtain⟨X',rfl⟩:=hw';go_wp2_with (fail);exact⟨rfl,xE⟩));(case hv=>kernel_rfl)));refine XReg.doneN (fun X=>?_))
     go_wp2
     go_loopw [7] (fun i wr=>∃ m:Nat,m≤p.clear[k].length∧i=.int .i64 m∧Ext ((w.alloc (.cells #[.slice (some ⟨b1,off,none⟩) p.clear.length c,.slice b p.jobs.length d,(.int .i64 p.now)] 26)).alloc (.cells #[.slice (some ⟨b2,off',none⟩) p.clear.length c',.slice b' p.jobs.length d',(.int .i64 p.now)] 26)) wr) (fun i _=>p.clear[k].length-(intOf i).toNat)
     case atStart=>exact⟨0,Nat.zero_le _,rfl,xE⟩
     case round =>
      obtain⟨m,hm,rfl,⟨Z,rfl⟩⟩:=hrel
      by_cases hlt2:m < p.clear[k].length
      ·obtain⟨b3,off3,rfl⟩:=slr_some HN.out hlt2
       obtain⟨b4,off4,rfl⟩:=slr_some HN'.out hlt2
       obtain⟨ho3,_,l0,l1⟩:=lab_at HN.out hlt2
       obtain⟨ho4,_,l0',l1'⟩:=lab_at HN'.out hlt2
       have hs:sameL ⟨p.clear[k][m].lv,p.clear[k][m].st⟩ ⟨p.clear[k][m].lv,p.clear[k][m].st⟩=true:=sameL_self _
       go_upto_region 16 with fail
       (refine wp_region_x 17 (by kernel_rfl) (by kernel_rfl) (by kernel_rfl) ?_;(iterate 17 (apply XReg.step;(case h=>(intro w' hw';obtain⟨X',rfl⟩:=hw';go_wp2_with (fail);exact⟨rfl,xE⟩));(case hv=>kernel_rfl)));refine XReg.doneN (fun X=>?_))
       go_wp2
       exact⟨⟨m+1,by omega,by go_num,xE⟩,by simp[intOf];omega⟩
      ·obtain rfl:m=p.clear[k].length:=by omega
       clear hm hlt2
       go_wp2
       exact⟨⟨k+1,by omega,by go_num,xE⟩,by simp[intOf];omega⟩
    ·go_wp2
     go_ret
     exact⟨rfl,xE⟩
set_option maxHeartbeats 3200000 in
theorem lwPools_self (p:Pl) (id q:Int) (c j c' j':Value) (w:World) (h:ePool w (p.val c j) p) (h':ePool w (p.val c' j') p) (hr:q=0→poolR p=true) :
  Calls Tryz.prog 11 #[poV p id q c j,poV p id q c' j'] w fun e w'=>e=.returned (.bool true)∧Ext w w':=by
 have HP:=tH h
 have HP':=tH h'
 clear h h'
 by_cases hq:q=0
 ·have HR:=tH (hr hq)
  subst hq
  clear hr
  go_enter Tryz.func11,Tryz.ntmps11
  unfold poV
  go_wp2_with fail
  refine(lwPool_self p _ _ _ (HP.out.ext xE) (HP'.out.ext xE)).mono ?_
  rintro e _ ⟨rfl,X,rfl⟩
  go_wp2_with fail
  refine(specPoolRight_any p _ _ (HP.out.ext xE)).mono ?_
  rintro e _ ⟨rfl,Y,rfl⟩
  rw[HR.out]
  go_wp2
  go_ret
  exact⟨rfl,xE⟩
 ·have hqb:(q != 0)=true:=by simp[hq]
  clear hq hr
  go_enter Tryz.func11,Tryz.ntmps11
  unfold poV
  go_wp2_with fail
  refine(lwPool_self p _ _ _ (HP.out.ext xE) (HP'.out.ext xE)).mono ?_
  rintro e _ ⟨rfl,X,rfl⟩
  go_wp2
  go_ret
  exact⟨rfl,xE⟩
end Go.Proofs.YtdoeoojjabnboaaGreat
