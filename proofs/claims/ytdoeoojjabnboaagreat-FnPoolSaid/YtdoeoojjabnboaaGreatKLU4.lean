/- The draw of a chain of labels (under way). -/
import Derived.Test.YtdoeoojjabnboaaGreatKLL
import Derived.Test.YtdoeoojjabnboaaGreatKW2
import Derived.Test.YtdoeoojjabnboaaGreatKVBC
set_option maxRecDepth 100000
set_option linter.unusedVariables false
namespace Go.Proofs.YtdoeoojjabnboaaGreat
open Go.RowKit Go.Fin1
def kBoxL (B g:Nat):XReg.Kind:=fun v u=>∃ b,v=.pointer (some ⟨b,0,none⟩)∧B≤b∧b≠g∧Blk u b [(.int .i64 0),(.int .i64 0)] 28
theorem kBoxL_good {B g:Nat} {cv:Value} {l:List Int}:XReg.GoodKL (SrcR g cv l) (kBoxL B g) :=
 ⟨fun _ _ _ hx ⟨b,hv,hB,hb,h⟩=>⟨b,hv,hB,hb,h.chg hx.1 (by simpa using hb)⟩,.pointer (some ⟨(emptyG (B+g+1)).heap.size,0,none⟩),_,_,rfl,by rw[emptyG_size];omega,by rw[emptyG_size];omega,Blk.new (cs:=#[(.int .i64 0),(.int .i64 0)]) rfl⟩
theorem row_oneL {w:World} {B b:Nat} {x:Lab} (hb:b=w.heap.size) (hB:B≤w.heap.size):Row B (w.alloc (.cells #[(.int .i64 x.lv),(.int .i64 x.st)] 28)) 28 2 Lab.cells (.slice (some ⟨b,0,none⟩) 1 1) [x]:=by
 subst hb
 exact⟨rfl,.inr ⟨w.heap.size,1,#[(.int .i64 x.lv),(.int .i64 x.st)],rfl,hB,heap_alloc_new w _,Nat.le_refl _,by unfold maxLen;omega,rfl,rfl⟩⟩
theorem info_Lab9:(Tryz.prog.info? 28).map (fun i=>(i.zero,i.size,i.bytes))=some (some (.agg #[(.int .i64 0),(.int .i64 0)]),2,16):=by kernel_rfl
theorem el_Lab9:ElemInfo Tryz.prog 78 28 2 16:=by
 obtain⟨i,hi,hz,hs,hb⟩:=info_parts info_Lab9
 exact⟨Tryz.underlying78,⟨i,_,hi,hz,hs,hb,rfl⟩,by decide⟩
theorem row_lab9 {B:Nat} {w:World} {v:Value} {l:List Lab} (h:Row B w 28 2 Lab.cells v l):SlR w 2 (rc Lab.cells) v l:=by
 obtain⟨fp,hO⟩:=Row.own (f:=Lab.cells) (K:=2) (fun _=>rfl) h
 exact oFl_reads (f:=Lab.cells) (fun _=>rfl) hO.1
theorem labs_at9 {w:World} {b off n cap:Nat} {xs:List Lab} (h:SlR w 2 (rc Lab.cells) (.slice (some ⟨b,off,none⟩) n cap) xs) {i:Nat} (hi:i < xs.length) :
  w.old b∧w.cell? ⟨b,off+i*2,none⟩=some (.int .i64 xs[i].lv)∧w.cell? ⟨b,off+i*2+1,none⟩=some (.int .i64 xs[i].st):=by
 obtain⟨cs,_,hc,he⟩:=slr_cells h hi
 have he':cs=Lab.cells xs[i]:=he
 subst he'
 have h0:=hc 0 _ rfl
 exact⟨World.old_of_cell h0,h0,hc 1 _ rfl⟩
theorem or_7:∀ i j:Fin 8,0≤bits .or .i64 (i.val:Int) (j.val:Int)∧bits .or .i64 (i.val:Int) (j.val:Int)≤7:=by decide +kernel
theorem joinL_okD (a b:Lab):(joinL a b).ok:=by
 have z:I64 0:=by unfold I64;omega
 cases ha:labR a
 ·unfold joinL;rw[ha];exact⟨z,z⟩
 cases hb:labR b
 ·unfold joinL;rw[ha,hb];exact⟨z,z⟩
 ·unfold joinL
  rw[ha,hb]
  unfold labR at ha hb
  rw[Bool.and_eq_true,isIn_iff,isIn_iff] at ha hb
  have k:=or_7 ⟨a.st.toNat,by omega⟩ ⟨b.st.toNat,by omega⟩
  simp only[Int.toNat_of_nonneg ha.2.1,Int.toNat_of_nonneg hb.2.1] at k
  exact⟨show I64 (max a.lv b.lv) by unfold I64;omega,show I64 (bits .or .i64 a.st b.st) by unfold I64;omega⟩
set_option maxHeartbeats 3200000 in
theorem srcChain_any (g:Nat) (w:World) (cv:Value) (l:List Int) (h:SrcA w g cv l) :
  Calls Tryz.prog 50 #[.pointer (some ⟨g,0,none⟩)] w fun e w'=>∃ v' xs,e=.returned v'∧Chg [g] w w'∧SrcA w' g cv l∧Row w.heap.size w' 28 2 Lab.cells v' xs∧(∀ y∈xs,y.ok)∧xs.length≤4:=by
 have HS:=tH h
 have HG:=tH h.old
 clear h
 have H2:Hid (I64 2):=tH (by unfold I64;omega)
 have H3:Hid (I64 3):=tH (by unfold I64;omega)
 have H4:Hid (I64 4):=tH (by unfold I64;omega)
 go_enter Tryz.func50,Tryz.ntmps50
 go_wp2_with fail
 refine(srcN' g 2 _ cv l HS.out H2.out).mono ?_
 rintro e w2 ⟨a,rfl,hb,hc,hs⟩
 have ha:a≤2:=by omega
 have HC:=tH hc
 have HA:=tH hs
 clear hc hs hb
 go_wp2_with fail
 refine(srcN' g 4 _ cv l (HA.out.ext xE) H4.out).mono ?_
 rintro e w3 ⟨q,rfl,hb,hc,hs⟩
 have hq:q < 4:=by omega
 have hg2:g < w2.heap.size:=HA.out.old
 have HQ:=tH ((Blk.new (w:=w2) (cs:=#[(.int .i64 0),(.int .i64 0),(.int .i64 1),(.int .i64 2)]) (ty:=2) rfl).chg hc (by simp;omega))
 have HC2:=tH (HC.out.trans (((Ext.refl w2).alloc _ |>.chg [g]).trans hc))
 have HA2:=tH hs
 obtain⟨n,hni,hn⟩:∃ n:Int,I64 n∧([(.int .i64 0),(.int .i64 0),(.int .i64 1),(.int .i64 2)]:List Value)[q]?=some (.int .i64 n):=by
  have:q=0∨q=1∨q=2∨q=3:=by omega
  rcases this with rfl | rfl | rfl | rfl<;>(refine⟨_,?_,rfl⟩;unfold I64;omega)
 have hq0:w3.cell? ⟨w2.heap.size,q,none⟩=some (.int .i64 n):=by rw[HQ.out.cell q];exact hn
 have hqo:=HQ.out.old
 have HNI:=tH hni
 clear hc hs hb hn HQ HC HA hni
 go_upto_region 2 with fail
 have HR:=tH (row_oneL (x:=⟨(a:Int),n⟩) (w:=w3) (B:=w.heap.size) rfl HC2.out.size)
 have HC3:=tH (HC2.out.trans ((Ext.refl w3).alloc (.cells #[(.int .i64 (a:Int)),(.int .i64 n)] 28) |>.chg [g]))
 have HA3:=tH (HA2.out.ext ((Ext.refl w3).alloc (.cells #[(.int .i64 (a:Int)),(.int .i64 n)] 28)))
 have HOK:Hid (∀ y∈[(⟨(a:Int),n⟩:Lab)],y.ok):=tH (fun y hy=>by
  obtain rfl:=List.mem_singleton.1 hy
  exact⟨show I64 (a:Int) by unfold I64;omega,HNI.out⟩)
 clear HC2 HA2 hq0 hqo
 go_wp2_with fail
 refine(srcN' g 3 _ cv l HA3.out H3.out).mono ?_
 rintro e w5 ⟨k0,rfl,hb,hc,hs⟩
 have hk0:k0≤3:=by omega
 have HC4:=tH (HC3.out.trans hc)
 have HA4:=tH hs
 have HR4:=tH (HR.out.chg hc (fun b hb=>by have:=(HR.out.blk b hb).1;have:=HG.out;simp;omega))
 clear hc hs hb HC3 HA3 HR
 go_wp2
 go_loopw [4,3] (fun i o wr=>∃ k:Nat,∃ xs:List Lab,k≤3∧i=Value.int .i64 k∧Hid (Chg [g] w wr)∧Hid (SrcA wr g cv l)∧Hid (Row w.heap.size wr 28 2 Lab.cells o xs)∧Hid (∀ y∈xs,y.ok)∧0 < xs.length∧xs.length+k≤4) (fun i _ _=>(intOf i).toNat)
 case atStart=>exact⟨k0,_,hk0,rfl,HC4,HA4,HR4,HOK,by simp,by simp;omega⟩
 case round =>
  clear HC4 HA4 HR4 HOK hk0
  obtain⟨k,xs,hk,rfl,HC4,HA4,HR4,HOK,hx0,hx4⟩:=hrel
  by_cases hk0':0 < k
  ·have hkb:decide ((0:Int) < (k:Int))=true:=decide_eq_true (by omega)
   have HSL:=tH (row_lab9 HR4.out)
   obtain⟨a6,c6,rfl⟩:=HR4.out.shape
   have hlt:xs.length-1 < xs.length:=by omega
   obtain⟨bR,oR,rfl⟩:=slr_some HSL.out hlt
   have hin:IntKind.i64.wrap ((xs.length:Int)-1)=(xs.length:Int)-1:=IntWalk.i64_in _ (by omega)
   have hbg:bR≠g:=by
    have:=(HR4.out.blk bR (by simp[blkL])).1
    have:=HG.out
    omega
   have HBG:=tH hbg
   go_upto_region 5 with fail
   (refine wp_region_l (R:=SrcR g cv l) (SrcR.trans) 10 [(fun u _=>u=(.slice (some ⟨bR,oR,none⟩) xs.length c6)),(fun u _=>u=(.slice (some ⟨bR,oR,none⟩) xs.length c6)),(fun u _=>u=(.int .i64 (xs.length:Int))),(fun u _=>u=(.int .i64 ((xs.length:Int)-1))),(fun u _=>u=(.pointer (some ⟨bR,oR+(xs.length-1)*2,none⟩))),(fun u _=>u=(.agg #[(.int .i64 (xs[xs.length-1]).lv),(.int .i64 (xs[xs.length-1]).st)])),(fun u _=>u=(.pointer (some ⟨g,0,none⟩))),kLab,kLab,kBoxL wr.heap.size g] (by kernel_rfl) (by kernel_rfl) (by kernel_rfl) rfl ?_ (by repeat' (first | exact trivial | exact XReg.GoodKL.same _ _ default | exact kI64_good | exact kLt_good (by decide) | exact kArr_good | exact kPt_good (by decide) | (first | exact kLab_goodL | exact kBoxL_good) | refine And.intro ?_ ?_)) (SrcR.ext (Ext.refl _).drew))
   (apply LReg.val (.slice (some ⟨bR,oR,none⟩) xs.length c6);(case h=>(intro w' hw' hF';have HW':=tH hw';clear hF' hw';go_wp2_with fail;exact⟨rfl,SrcR.ext xE⟩));(case hv=>kernel_rfl))
   (apply LReg.val (.slice (some ⟨bR,oR,none⟩) xs.length c6);(case h=>(intro w' hw' hF';have HW':=tH hw';clear hF' hw';go_wp2_with fail;exact⟨rfl,SrcR.ext xE⟩));(case hv=>kernel_rfl))
   (apply LReg.val (.int .i64 (xs.length:Int));(case h=>(intro w' hw' hF';have HW':=tH hw';clear hF' hw';go_wp2_with fail;exact⟨rfl,SrcR.ext xE⟩));(case hv=>kernel_rfl))
   (apply LReg.val (.int .i64 ((xs.length:Int)-1));(case h=>(intro w' hw' hF';have HW':=tH hw';clear hF' hw';go_wp2_with fail;exact⟨rfl,SrcR.ext xE⟩));(case hv=>kernel_rfl))
   (apply LReg.val (.pointer (some ⟨bR,oR+(xs.length-1)*2,none⟩));(case h=>(intro w' hw' hF';have HW':=tH hw';clear hF' hw';go_wp2_with fail;exact⟨rfl,SrcR.ext xE⟩));(case hv=>kernel_rfl))
   apply LReg.val (.agg #[(.int .i64 (xs[xs.length-1]).lv),(.int .i64 (xs[xs.length-1]).st)])
   case h =>
    intro w' hw' hF'
    obtain⟨ho,g0,g1⟩:=labs_at9 (row_lab9 (HR4.out.chg hw'.1 (fun b hb=>by
     obtain rfl:b=bR:=by simpa [blkL] using hb
     simpa using HBG.out))) hlt
    have HW':=tH hw'
    clear hF' hw'
    go_wp2_with fail
    exact⟨rfl,SrcR.ext xE⟩
   case hv=>kernel_rfl
   (apply LReg.val (.pointer (some ⟨g,0,none⟩));(case h=>(intro w' hw' hF';have HW':=tH hw';clear hF' hw';go_wp2_with fail;exact⟨rfl,SrcR.ext xE⟩));(case hv=>kernel_rfl))
   refine LReg.kind (fun w' hw' hF'=>?_) (fun v1 w1 hK=>?_)
   ·have HW':=tH (hw'.2 HA4.out)
    clear hF' hw'
    go_wp2_with fail
    refine(srcLabel_any g _ cv l (HW'.out.ext xE)).mono ?_
    rintro e w8 ⟨y,rfl,hyo,hc,hs⟩
    have HR8:=tH (SrcR.of (w:=w') xE hc hs)
    have HY:=tH hyo
    clear hc hs hyo
    go_wp2
    exact⟨HR8.out,y,rfl,HY.out.1,HY.out.2⟩
   obtain⟨y,rfl,hy1,hy2⟩:=hK
   clear w1 hy1 hy2
   refine LReg.kind (fun w' hw' hF'=>?_) (fun v1 w1 hK=>?_)
   ·clear hF' hw'
    go_wp2_with fail
    refine(specJoinOf_any _ _ _ _ _).mono ?_
    rintro e _ ⟨rfl,X,rfl⟩
    go_wp2
    exact⟨SrcR.ext xE,_,rfl,(joinL_okD _ _).1,(joinL_okD _ _).2⟩
   obtain⟨z,rfl,hz1,hz2⟩:=hK
   clear w1
   refine LReg.kind (fun w' hw' hF'=>?_) (fun v1 w1 hK=>?_)
   ·clear hF'
    have hgs:=(hw'.2 HA4.out).old
    unfold World.old at hgs
    have hsz:=hw'.1.size
    have H9a:=tH (show kBoxL wr.heap.size g (.pointer (some ⟨w'.heap.size,0,none⟩)) (w'.alloc (.cells #[(.int .i64 0),(.int .i64 0)] 28)) from ⟨_,rfl,hsz,by omega,Blk.new rfl⟩)
    clear hw' hgs hsz
    go_wp2
    exact⟨SrcR.ext xE,H9a.out⟩
   obtain⟨bx,rfl,hbB,hbg2,hs3⟩:=hK
   clear hs3 w1
   refine LReg.done (fun w9 hw9 hF=>?_)
   obtain⟨b',hv',-,-,hB9⟩:=hF 9 (kBoxL wr.heap.size g,.pointer (some ⟨bx,0,none⟩)) (by kernel_rfl)
   obtain rfl:bx=b':=by simpa using hv'
   have hRlt:bR < wr.heap.size:=by
    have:=(HR4.out.blk bR (by simp[blkL])).2
    omega
   have hwz:=HC4.out.size
   have HR9:=tH (HR4.out.chg hw9.1 (fun b hb=>by
    obtain rfl:b=bR:=by simpa [blkL] using hb
    simpa using HBG.out))
   have HC9:=tH (HC4.out.trans hw9.1)
   have HA9:=tH (hw9.2 HA4.out)
   have HB9:=tH hB9
   have d0:w9.cell? ⟨bx,0,none⟩=some (.int .i64 0):=hB9.cell 0
   have d1:w9.cell? ⟨bx,1,none⟩=some (.int .i64 0):=hB9.cell 1
   have do9:=hB9.old
   have df9:=hB9.fz
   clear hF hv' hw9 hB9
   go_upto_region 6 with fail
   refine gen_world (fun w10 hW=>?_)
   have hch:Chg [bx] w9 w10:=by rw[hW];exact set2_chg _ _ _ _
   have HB10:=tH (show Blk w10 bx [(.int .i64 z.lv),(.int .i64 z.st)] 28 by rw[hW];exact(HB9.out.set 0 _).set 1 _)
   have HR10:=tH (HR9.out.chg hch (fun b hb=>by
    obtain rfl:b=bR:=by simpa [blkL] using hb
    simp;omega))
   have HC10:=tH (HC9.out.past hch (by simp;omega))
   have HA10:=tH (HA9.out.chg HS.out hch (by simp;omega))
   clear hW hch d0 d1 do9 df9 HR9 HC9 HA9 HB9 HR4 HC4 HA4 HSL
   have d0:w10.cell? ⟨bx,0,none⟩=some (.int .i64 z.lv):=HB10.out.cell 0
   have d1:w10.cell? ⟨bx,1,none⟩=some (.int .i64 z.st):=HB10.out.cell 1
   have do9:=HB10.out.old
   obtain⟨ho,g0,g1⟩:=labs_at9 (row_lab9 HR10.out) hlt
   have hw1:wrap64 ((k:Int)-1)=(k:Int)-1:=by unfold wrap64;omega
   have HZ:=tH (And.intro hz1 hz2)
   clear hz1 hz2
   cases q1:sameL ⟨z.lv,z.st⟩ ⟨(xs[xs.length-1]).lv,(xs[xs.length-1]).st⟩
   ·(refine wp_region_x 8 (by kernel_rfl) (by kernel_rfl) (by kernel_rfl) ?_;(iterate 8 (apply XReg.step;(case h=>(intro w' hw';obtain⟨X',rfl⟩:=hw';go_wp2_with (fail);exact⟨rfl,xE⟩));(case hv=>kernel_rfl)));refine XReg.doneN (fun X=>?_))
    have hsz10:w.heap.size≤(w10.plus X).heap.size:=by have:=HC10.out.size;simp;omega
    have HC11:=tH (HC10.out.trans ((Ext.refl w10).plus X |>.chg [g]))
    have HA11:=tH (HA10.out.ext ((Ext.refl w10).plus X))
    have HR11:=tH (HR10.out.ext ((Ext.refl w10).plus X))
    go_wp2_with (at_builtin;go_must (refine Row.appN (f:=Lab.cells) el_Lab9 rfl _ _ rfl w.heap.size hsz10 _ xs rfl HR11.out z rfl _ ?_ rfl (fun _=>rfl) ?_ ?_ ?_ ?_);(simp);(simp[Value.oneCell']);(unfold maxLen;omega);omega;intro v' w8 hR8 hc8;have HR8:=tH hR8;have HC8:=tH hc8;clear hR8 hc8)
    exact⟨⟨k-1,xs++[z],by omega,by go_num,tH (HC11.out.past HC8.out (fun b hb=>(HR11.out.blk b hb).1)),tH (HA11.out.chg HS.out HC8.out (fun b hb=>(HR11.out.blk b hb).1)),HR8,tH (fun y hy=>by
     rcases List.mem_append.1 hy with hy | hy
     ·exact HOK.out y hy
     ·obtain rfl:=List.mem_singleton.1 hy
      exact HZ.out),by simp,by simp;omega⟩,by simp[intOf];omega⟩
   ·(refine wp_region_x 8 (by kernel_rfl) (by kernel_rfl) (by kernel_rfl) ?_;(iterate 8 (apply XReg.step;(case h=>(intro w' hw';obtain⟨X',rfl⟩:=hw';go_wp2_with (fail);exact⟨rfl,xE⟩));(case hv=>kernel_rfl)));refine XReg.doneN (fun X=>?_))
    go_wp2
    exact⟨⟨k-1,xs,by omega,by go_num,tH (HC10.out.trans (Ext.chg xE _)),tH (HA10.out.ext xE),tH (HR10.out.ext xE),HOK,hx0,by omega⟩,by simp[intOf];omega⟩
  ·obtain rfl:k=0:=by omega
   go_wp2
   go_ret
   exact⟨_,xs,rfl,HC4.out,HA4.out,HR4.out,HOK.out,by omega⟩
end Go.Proofs.YtdoeoojjabnboaaGreat
