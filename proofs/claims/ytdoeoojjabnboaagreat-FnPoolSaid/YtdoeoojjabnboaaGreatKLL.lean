/- Kinds for regions that draw from a source. -/
import Derived.Test.YtdoeoojjabnboaaGreatKT5
import Derived.Test.YtdoeoojjabnboaaGreatKII
set_option maxRecDepth 100000
set_option linter.unusedVariables false
namespace Go.Proofs.YtdoeoojjabnboaaGreat
open Go.RowKit Go.Fin1
def SrcR (g:Nat) (cv:Value) (l:List Int) (w w':World):Prop:=Chg [g] w w'∧(SrcA w g cv l→SrcA w' g cv l)
theorem SrcR.trans {g:Nat} {cv:Value} {l:List Int} (a b c:World) (h:SrcR g cv l a b) (k:SrcR g cv l b c):SrcR g cv l a c:=⟨h.1.trans k.1,fun x=>k.2 (h.2 x)⟩
theorem SrcR.ext {g:Nat} {cv:Value} {l:List Int} {w w':World} (h:Ext w w'):SrcR g cv l w w':=⟨h.chg _,fun x=>x.ext h⟩
theorem SrcR.of {g:Nat} {cv:Value} {l:List Int} {w w1 w2:World} (h:Ext w w1) (hc:Chg [g] w1 w2) (hs:SrcA w2 g cv l):SrcR g cv l w w2:=⟨(h.chg _).trans hc,fun _=>hs⟩
def kI64:XReg.Kind:=fun v _=>∃ n:Int,v=(.int .i64 n)∧I64 n
def kLt (m:Nat):XReg.Kind:=fun v _=>∃ n:Nat,v=(.int .i64 (n:Int))∧n < m
def kArr (g:Nat) (cs:List Value) (n:Nat):XReg.Kind:=fun v u=>∃ b,v=.slice (some ⟨b,0,none⟩) n n∧b≠g∧Blk u b cs 2
def kPt (g:Nat) (cs:List Value) (n:Nat):XReg.Kind:=fun v u=>∃ b k,v=.pointer (some ⟨b,k,none⟩)∧k < n∧b≠g∧Blk u b cs 2
theorem kI64_good {R:World→World→Prop}:XReg.GoodKL R kI64:=⟨fun _ _ _ _ h=>h,(.int .i64 0),default,0,rfl,by unfold I64;omega⟩
theorem kLt_good {R:World→World→Prop} {m:Nat} (hm:0 < m):XReg.GoodKL R (kLt m):=⟨fun _ _ _ _ h=>h,(.int .i64 0),default,0,rfl,hm⟩
def emptyG (B:Nat):World:={ (default:World) with heap:=Array.replicate B (.cells #[] 0) }
theorem emptyG_size (B:Nat):(emptyG B).heap.size=B:=by simp[emptyG]
theorem kArr_good {g:Nat} {cv:Value} {l:List Int} {cs:List Value} {n:Nat}:XReg.GoodKL (SrcR g cv l) (kArr g cs n) :=
 ⟨fun _ _ _ hx ⟨b,hv,hb,h⟩=>⟨b,hv,hb,h.chg hx.1 (by simpa using hb)⟩,.slice (some ⟨(emptyG (g+1)).heap.size,0,none⟩) n n,_,_,rfl,by rw[emptyG_size];omega,Blk.new (cs:=cs.toArray) rfl⟩
theorem kPt_good {g:Nat} {cv:Value} {l:List Int} {cs:List Value} {n:Nat} (hn:0 < n):XReg.GoodKL (SrcR g cv l) (kPt g cs n) :=
 ⟨fun _ _ _ hx ⟨b,k,hv,hk,hb,h⟩=>⟨b,k,hv,hk,hb,h.chg hx.1 (by simpa using hb)⟩,.pointer (some ⟨(emptyG (g+1)).heap.size,0,none⟩),_,_,0,rfl,hn,by rw[emptyG_size];omega,Blk.new (cs:=cs.toArray) rfl⟩
theorem set2_chg (w:World) (g:Nat) (u v:Value):Chg [g] w ((w.setCell ⟨g,0,none⟩ u).setCell ⟨g,1,none⟩ v):=((Chg.refl _ _).setCell (.inl (by simp)) _).setCell (.inl (by simp)) _
end Go.Proofs.YtdoeoojjabnboaaGreat
set_option maxRecDepth 100000
set_option linter.unusedVariables false
namespace Go.Proofs.YtdoeoojjabnboaaGreat
open Go.RowKit Go.Fin1
def kLab:XReg.Kind:=fun v _=>∃ x:Lab,v=.agg #[(.int .i64 x.lv),(.int .i64 x.st)]∧I64 x.lv∧I64 x.st
theorem kLab_goodL {R:World→World→Prop}:XReg.GoodKL R kLab:=⟨fun _ _ _ _ h=>h,.agg #[(.int .i64 0),(.int .i64 0)],default,⟨0,0⟩,rfl,show I64 0 by unfold I64;omega,show I64 0 by unfold I64;omega⟩
set_option maxHeartbeats 3200000 in
theorem srcLabel_any (g:Nat) (w:World) (cv:Value) (l:List Int) (h:SrcA w g cv l) :
  Calls Tryz.prog 93 #[.pointer (some ⟨g,0,none⟩)] w fun e w'=>∃ x:Lab,e=.returned (.agg #[(.int .i64 x.lv),(.int .i64 x.st)])∧x.ok∧Chg [g] w w'∧SrcA w' g cv l:=by
 have HS:=tH h
 have HG:=tH h.old
 clear h
 have H20:Hid (I64 20):=tH (by unfold I64;omega)
 have H3:Hid (I64 3):=tH (by unfold I64;omega)
 have H4:Hid (I64 4):=tH (by unfold I64;omega)
 go_enter Tryz.func93,Tryz.ntmps93
 go_wp2_with fail
 refine(srcOne_any g 20 _ cv l (HS.out.ext xE) H20.out).mono ?_
 rintro e w2 ⟨b,rfl,hc,hs⟩
 have HC:=tH (((Ext.refl w).alloc _ |>.chg [g]).trans hc)
 have HR:=tH ((Blk.new (w:=w) rfl).chg hc (by have:=HG.out;simp;omega))
 have HA4:=tH hs
 clear hc hs
 cases b
 ·go_wp2_with fail
  refine(srcN' g 3 _ cv l HA4.out H3.out).mono ?_
  rintro e w3 ⟨a,rfl,hb,hc,hs⟩
  have HR2:=tH (HR.out.chg hc (by have:=HG.out;simp;omega))
  have HC2:=tH (HC.out.trans hc)
  have HA2:=tH hs
  have ha:a≤3:=by omega
  clear hc hs hb HR HC HA4
  go_wp2_with fail
  refine(srcN' g 4 _ cv l HA2.out H4.out).mono ?_
  rintro e w4 ⟨d,rfl,hb,hc,hs⟩
  have HR3:=tH (HR2.out.chg hc (by have:=HG.out;simp;omega))
  have HC3:=tH (HC2.out.trans hc)
  have HA3:=tH hs
  have hd:d≤4:=by omega
  clear hc hs hb HR2 HC2 HA2
  have hr0:w4.cell? ⟨w.heap.size,0,none⟩=some (.int .i64 0):=HR3.out.cell 0
  have hr1:w4.cell? ⟨w.heap.size,1,none⟩=some (.int .i64 0):=HR3.out.cell 1
  have hro:=HR3.out.old
  have hrf:=HR3.out.fz
  go_wp2
  exact bodyPost_ret (v:=.agg #[(.int .i64 (a:Int)),(.int .i64 (d:Int))]) (by simp[results,Tryz.results93,go_sem,hr0,hr1]) rfl ⟨⟨(a:Int),(d:Int)⟩,rfl,⟨by first | assumption | (unfold I64;dsimp only;omega),by first | assumption | (unfold I64;dsimp only;omega)⟩,HC3.out.past (((Chg.refl [w.heap.size] _).setCell (.inl (by simp)) _).setCell (.inl (by simp)) _) (by simp),HA3.out.chg HS.out (((Chg.refl [w.heap.size] _).setCell (.inl (by simp)) _).setCell (.inl (by simp)) _) (by simp)⟩
 ·go_upto_region 2 with fail
  (refine wp_region_l (R:=SrcR g cv l) (SrcR.trans) 11 [kArr g [(.int .i64 (-1)),(.int .i64 3),(.int .i64 4)] 3,(fun u _=>u=(.pointer (some ⟨g,0,none⟩))),kLt 3,kPt g [(.int .i64 (-1)),(.int .i64 3),(.int .i64 4)] 3,kI64,kArr g [(.int .i64 (-1)),(.int .i64 7),(.int .i64 8)] 3,(fun u _=>u=(.pointer (some ⟨g,0,none⟩))),kLt 3,kPt g [(.int .i64 (-1)),(.int .i64 7),(.int .i64 8)] 3,kI64,kLab] (by kernel_rfl) (by kernel_rfl) (by kernel_rfl) rfl ?_ (by repeat' (first | exact trivial | exact XReg.GoodKL.same _ _ default | exact kI64_good | exact kLt_good (by decide) | exact kArr_good | exact kPt_good (by decide) | exact kLab_goodL | refine And.intro ?_ ?_)) (SrcR.ext (Ext.refl _).drew))
  refine LReg.kind (fun w' hw' hF'=>?_) (fun v w1 hK=>?_)
  ·clear hF'
   have hgs:=(hw'.2 HA4.out).old
   unfold World.old at hgs
   have H9a:=tH (show kArr g [(.int .i64 (-1)),(.int .i64 3),(.int .i64 4)] 3 (.slice (some ⟨w'.heap.size,0,none⟩) 3 3) (w'.alloc (.cells #[(.int .i64 (-1)),(.int .i64 3),(.int .i64 4)] 2)) from ⟨_,rfl,by omega,Blk.new rfl⟩)
   clear hw' hgs
   go_wp2
   exact⟨SrcR.ext xE,H9a.out⟩
  obtain⟨bA1,rfl,hbA1,hs3⟩:=hK
  clear hs3 w1
  (apply LReg.val (.pointer (some ⟨g,0,none⟩));(case h=>(intro w' hw' hF';have HW':=tH hw';clear hF' hw';go_wp2_with fail;exact⟨rfl,SrcR.ext xE⟩));(case hv=>kernel_rfl))
  refine LReg.kind (fun w' hw' hF'=>?_) (fun v w1 hK=>?_)
  ·have HW':=tH (hw'.2 HA4.out)
   clear hF' hw'
   go_wp2_with fail
   refine(srcN' g 3 _ cv l (HW'.out.ext xE) H3.out).mono ?_
   rintro e w8 ⟨n,rfl,hb,hc,hs⟩
   have HR8:=tH (SrcR.of (w:=w') xE hc hs)
   have hn:n < 3:=by omega
   clear hc hs hb
   go_wp2
   exact⟨HR8.out,_,rfl,hn⟩
  obtain⟨k1,rfl,hk1⟩:=hK
  clear w1
  refine LReg.kind (fun w' hw' hF'=>?_) (fun v w1 hK=>?_)
  ·obtain⟨bB,hbv,hbB,hB⟩:=hF'.get 0 (p:=(kArr g [(.int .i64 (-1)),(.int .i64 3),(.int .i64 4)] 3,.slice (some ⟨bA1,0,none⟩) 3 3)) (by kernel_rfl) (by kernel_rfl)
   obtain rfl:bA1=bB:=by simpa using hbv
   have H9a:=tH (show kPt g [(.int .i64 (-1)),(.int .i64 3),(.int .i64 4)] 3 (.pointer (some ⟨bA1,k1,none⟩)) w' from ⟨bA1,k1,rfl,hk1,hbA1,hB⟩)
   have hbo:=hB.old
   clear hw' hF' hB hbv
   go_wp2
   exact⟨SrcR.ext xE,H9a.out⟩
  obtain⟨bP1,kP1,rfl,hkP1,hbP1,hs3⟩:=hK
  clear hs3 w1
  refine LReg.kind (fun w' hw' hF'=>?_) (fun v w1 hK=>?_)
  ·obtain⟨bB,kB,hbv,hkB,hbB,hB⟩:=hF'.get 3 (p:=(kPt g [(.int .i64 (-1)),(.int .i64 3),(.int .i64 4)] 3,.pointer (some ⟨bP1,kP1,none⟩))) (by kernel_rfl) (by kernel_rfl)
   obtain⟨rfl,rfl⟩:bP1=bB∧kP1=kB:=by simpa using hbv
   obtain⟨n,hni,hn⟩:∃ n:Int,I64 n∧([(.int .i64 (-1)),(.int .i64 3),(.int .i64 4)]:List Value)[kP1]?=some (.int .i64 n):=by
    have:kP1=0∨kP1=1∨kP1=2:=by omega
    rcases this with h | h | h<;>rw[h]<;>(refine⟨_,?_,rfl⟩;unfold I64;omega)
   have hc0:w'.cell? ⟨bP1,kP1,none⟩=some (.int .i64 n):=by rw[hB.cell kP1];exact hn
   have hbo:=hB.old
   clear hw' hF' hB hbv hn
   go_wp2
   exact⟨SrcR.ext xE,_,rfl,hni⟩
  obtain⟨n1,rfl,hn1⟩:=hK
  clear w1
  refine LReg.kind (fun w' hw' hF'=>?_) (fun v w1 hK=>?_)
  ·clear hF'
   have hgs:=(hw'.2 HA4.out).old
   unfold World.old at hgs
   have H9a:=tH (show kArr g [(.int .i64 (-1)),(.int .i64 7),(.int .i64 8)] 3 (.slice (some ⟨w'.heap.size,0,none⟩) 3 3) (w'.alloc (.cells #[(.int .i64 (-1)),(.int .i64 7),(.int .i64 8)] 2)) from ⟨_,rfl,by omega,Blk.new rfl⟩)
   clear hw' hgs
   go_wp2
   exact⟨SrcR.ext xE,H9a.out⟩
  obtain⟨bA2,rfl,hbA2,hs3⟩:=hK
  clear hs3 w1
  (apply LReg.val (.pointer (some ⟨g,0,none⟩));(case h=>(intro w' hw' hF';have HW':=tH hw';clear hF' hw';go_wp2_with fail;exact⟨rfl,SrcR.ext xE⟩));(case hv=>kernel_rfl))
  refine LReg.kind (fun w' hw' hF'=>?_) (fun v w1 hK=>?_)
  ·have HW':=tH (hw'.2 HA4.out)
   clear hF' hw'
   go_wp2_with fail
   refine(srcN' g 3 _ cv l (HW'.out.ext xE) H3.out).mono ?_
   rintro e w8 ⟨n,rfl,hb,hc,hs⟩
   have HR8:=tH (SrcR.of (w:=w') xE hc hs)
   have hn:n < 3:=by omega
   clear hc hs hb
   go_wp2
   exact⟨HR8.out,_,rfl,hn⟩
  obtain⟨k2,rfl,hk2⟩:=hK
  clear w1
  refine LReg.kind (fun w' hw' hF'=>?_) (fun v w1 hK=>?_)
  ·obtain⟨bB,hbv,hbB,hB⟩:=hF'.get 5 (p:=(kArr g [(.int .i64 (-1)),(.int .i64 7),(.int .i64 8)] 3,.slice (some ⟨bA2,0,none⟩) 3 3)) (by kernel_rfl) (by kernel_rfl)
   obtain rfl:bA2=bB:=by simpa using hbv
   have H9a:=tH (show kPt g [(.int .i64 (-1)),(.int .i64 7),(.int .i64 8)] 3 (.pointer (some ⟨bA2,k2,none⟩)) w' from ⟨bA2,k2,rfl,hk2,hbA2,hB⟩)
   have hbo:=hB.old
   clear hw' hF' hB hbv
   go_wp2
   exact⟨SrcR.ext xE,H9a.out⟩
  obtain⟨bP2,kP2,rfl,hkP2,hbP2,hs3⟩:=hK
  clear hs3 w1
  refine LReg.kind (fun w' hw' hF'=>?_) (fun v w1 hK=>?_)
  ·obtain⟨bB,kB,hbv,hkB,hbB,hB⟩:=hF'.get 8 (p:=(kPt g [(.int .i64 (-1)),(.int .i64 7),(.int .i64 8)] 3,.pointer (some ⟨bP2,kP2,none⟩))) (by kernel_rfl) (by kernel_rfl)
   obtain⟨rfl,rfl⟩:bP2=bB∧kP2=kB:=by simpa using hbv
   obtain⟨n,hni,hn⟩:∃ n:Int,I64 n∧([(.int .i64 (-1)),(.int .i64 7),(.int .i64 8)]:List Value)[kP2]?=some (.int .i64 n):=by
    have:kP2=0∨kP2=1∨kP2=2:=by omega
    rcases this with h | h | h<;>rw[h]<;>(refine⟨_,?_,rfl⟩;unfold I64;omega)
   have hc0:w'.cell? ⟨bP2,kP2,none⟩=some (.int .i64 n):=by rw[hB.cell kP2];exact hn
   have hbo:=hB.old
   clear hw' hF' hB hbv hn
   go_wp2
   exact⟨SrcR.ext xE,_,rfl,hni⟩
  obtain⟨n2,rfl,hn2⟩:=hK
  clear w1
  refine LReg.kind (fun w' hw' hF'=>?_) (fun v w1 hK=>?_)
  ·clear hw' hF'
   go_wp2
   exact⟨SrcR.ext xE,⟨_,_⟩,rfl,hn1,hn2⟩
  obtain⟨x,rfl,hx1,hx2⟩:=hK
  clear w1
  refine LReg.done (fun w4 hw9 hF=>?_)
  have HR3:=tH (HR.out.chg hw9.1 (by have:=HG.out;simp;omega))
  have HC3:=tH (HC.out.trans hw9.1)
  have HA3:=tH (hw9.2 HA4.out)
  clear hF hw9 HR HC HA4
  obtain⟨xa,xb⟩:=x
  have hr0:w4.cell? ⟨w.heap.size,0,none⟩=some (.int .i64 0):=HR3.out.cell 0
  have hr1:w4.cell? ⟨w.heap.size,1,none⟩=some (.int .i64 0):=HR3.out.cell 1
  have hro:=HR3.out.old
  have hrf:=HR3.out.fz
  go_wp2
  exact bodyPost_ret (v:=.agg #[(.int .i64 xa),(.int .i64 xb)]) (by simp[results,Tryz.results93,go_sem,hr0,hr1]) rfl ⟨⟨xa,xb⟩,rfl,⟨by first | assumption | (unfold I64;dsimp only;omega),by first | assumption | (unfold I64;dsimp only;omega)⟩,HC3.out.past (((Chg.refl [w.heap.size] _).setCell (.inl (by simp)) _).setCell (.inl (by simp)) _) (by simp),HA3.out.chg HS.out (((Chg.refl [w.heap.size] _).setCell (.inl (by simp)) _).setCell (.inl (by simp)) _) (by simp)⟩
end Go.Proofs.YtdoeoojjabnboaaGreat
