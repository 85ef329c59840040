/- FnPool's draws: DrawView, DrawChange, DrawSubmit, DrawPoolNew. -/
import Derived.Test.YtdoeoojjabnboaaGreatKDL
import Derived.Test.YtdoeoojjabnboaaGreatKDJ
import Derived.Test.YtdoeoojjabnboaaGreatKPQ
set_option maxRecDepth 100000
set_option linter.unusedVariables false
namespace Go.Proofs.YtdoeoojjabnboaaGreat
open Go.RowKit Go.Fin1
structure DrI (W0:World) (g:Nat) (cv:Value) (l:List Int) (a:Nat) (za ua:List Value) (ta:TypeId) (b:Nat) (zb ub:List Value) (tb:TypeId) (sx sy:Nat) (Ks:List XReg.Kind) (L:Nat→Bool) (vs:Nat→Value) (w:World):Prop where
 c:Chg [g,a,b] W0 w
 s:SrcA w g cv l
 x:Blk w a (if L sx then ua else za) ta
 y:Blk w b (if L sy then ub else zb) tb
 k:∀ j K,Ks[j]?=some K→L j=true→K (vs j) w
structure DrF (W0:World) (g:Nat) (cv:Value) (l:List Int) (a b:Nat) (Ks:List XReg.Kind):Prop where
 ga:a≠g
 gb:b≠g
 ab:a≠b
 sc:∀ S w w',(∀ x∈S,x=a∨x=b)→Chg S w w'→SrcA w g cv l→SrcA w' g cv l
 ks:∀ K∈Ks,∀ v w w',Chg [g,a,b] w w'→K v w→K v w'
section
variable {W0:World} {g:Nat} {cv:Value} {l:List Int} {a:Nat} {za ua:List Value} {ta:TypeId} {b:Nat} {zb ub:List Value} {tb:TypeId} {sx sy:Nat} {Ks:List XReg.Kind} {L:Nat→Bool} {vs:Nat→Value} {w:World}
theorem DrI.start {W:World} (hx:Ext W0 W) (hs:SrcA W0 g cv l) (h1:Blk W0 a za ta) (h2:Blk W0 b zb tb):DrI W0 g cv l a za ua ta b zb ub tb sx sy Ks (fun _=>false) vs W :=
 ⟨hx.chg _,hs.ext hx,h1.ext hx,h2.ext hx,fun _ _ _ h=>by cases h⟩
theorem dr_k {w':World} (hk:∀ j K,Ks[j]?=some K→L j=true→K (vs j) w) (hst:∀ K∈Ks,∀ v,K v w→K v w') {n:Nat} {K:XReg.Kind} (hK:Ks[n]?=some K) {v:Value} (hv:K v w'):∀ j J,Ks[j]?=some J→updB L n j=true→J (updV vs n v j) w':=fun j J hJ hL=>by
 by_cases e:j=n
 ·subst e
  rw[hK] at hJ
  obtain rfl:=Option.some.inj hJ
  unfold updV;rw[if_pos rfl];exact hv
 ·rw[show updV vs n v j=vs j by unfold updV;rw[if_neg e]]
  exact hst J (List.mem_of_getElem? hJ) _ (hk j J hJ (by unfold updB at hL;rwa [if_neg e] at hL))
theorem DrI.put (h:DrI W0 g cv l a za ua ta b zb ub tb sx sy Ks L vs w) (F:DrF W0 g cv l a b Ks) {n:Nat} (hn:sx≠n) (hn':sy≠n) {K:XReg.Kind} (hK:Ks[n]?=some K) {v:Value} {w':World} (hc:SrcR g cv l w w') (hv:K v w') :
  DrI W0 g cv l a za ua ta b zb ub tb sx sy Ks (updB L n) (updV vs n v) w':=by
 have hc3:Chg [g,a,b] w w':=hc.1.mono (by simp)
 refine⟨h.c.trans hc3,hc.2 h.s,?_,?_,dr_k h.k (fun K hK v=>F.ks K hK v w w' hc3) hK hv⟩
 ·rw[show updB L n sx=L sx by unfold updB;rw[if_neg hn]]
  exact h.x.chg hc.1 (by have:=F.ga;simpa using this)
 ·rw[show updB L n sy=L sy by unfold updB;rw[if_neg hn']]
  exact h.y.chg hc.1 (by have:=F.gb;simpa using this)
theorem DrI.stx (h:DrI W0 g cv l a za ua ta b zb ub tb sx sy Ks L vs w) (F:DrF W0 g cv l a b Ks) (hxy:sy≠sx) {K:XReg.Kind} (hK:Ks[sx]?=some K) {v:Value} {w':World} (hc:Chg [a] w w') (hb:Blk w' a ua ta) (hv:K v w') :
  DrI W0 g cv l a za ua ta b zb ub tb sx sy Ks (updB L sx) (updV vs sx v) w':=by
 have hc3:Chg [g,a,b] w w':=hc.mono (by simp)
 refine⟨h.c.trans hc3,F.sc [a] w w' (by simp) hc h.s,?_,?_,dr_k h.k (fun K hK v=>F.ks K hK v w w' hc3) hK hv⟩
 ·rw[show updB L sx sx=true by unfold updB;rw[if_pos rfl]];exact hb
 ·rw[show updB L sx sy=L sy by unfold updB;rw[if_neg hxy]]
  exact h.y.chg hc (by have:=F.ab;simp;omega)
theorem DrI.sty (h:DrI W0 g cv l a za ua ta b zb ub tb sx sy Ks L vs w) (F:DrF W0 g cv l a b Ks) (hxy:sx≠sy) {K:XReg.Kind} (hK:Ks[sy]?=some K) {v:Value} {w':World} (hc:Chg [b] w w') (hb:Blk w' b ub tb) (hv:K v w') :
  DrI W0 g cv l a za ua ta b zb ub tb sx sy Ks (updB L sy) (updV vs sy v) w':=by
 have hc3:Chg [g,a,b] w w':=hc.mono (by simp)
 refine⟨h.c.trans hc3,F.sc [b] w w' (by simp) hc h.s,?_,?_,dr_k h.k (fun K hK v=>F.ks K hK v w w' hc3) hK hv⟩
 ·rw[show updB L sy sx=L sx by unfold updB;rw[if_neg hxy]]
  exact h.x.chg hc (by have:=F.ab;simpa using this)
 ·rw[show updB L sy sy=true by unfold updB;rw[if_pos rfl]];exact hb
theorem DrI.x0 (h:DrI W0 g cv l a za ua ta b zb ub tb sx sy Ks L vs w) (hL:L sx=false):Blk w a za ta:=by have:=h.x;rw[hL] at this;exact this
theorem DrI.y0 (h:DrI W0 g cv l a za ua ta b zb ub tb sx sy Ks L vs w) (hL:L sy=false):Blk w b zb tb:=by have:=h.y;rw[hL] at this;exact this
theorem DrI.x1 (h:DrI W0 g cv l a za ua ta b zb ub tb sx sy Ks L vs w) (hL:L sx=true):Blk w a ua ta:=by have:=h.x;rw[hL] at this;exact this
theorem DrI.y1 (h:DrI W0 g cv l a za ua ta b zb ub tb sx sy Ks L vs w) (hL:L sy=true):Blk w b ub tb:=by have:=h.y;rw[hL] at this;exact this
end
theorem SrcA.off {S:List Nat} {w0 w w':World} {g:Nat} {cv:Value} {l:List Int} (h:SrcA w g cv l) (h0:SlR w0 1 rU8 cv l) (hx:Chg S w w') (hg:g∉S) (hS:∀ b∈S,w0.heap.size≤b):SrcA w' g cv l:=by
 have hl:=h.old
 have hc:∀ j u,w.cell? ⟨g,j,none⟩=some u→w'.cell? ⟨g,j,none⟩=some u:=fun j u hu=>by
  simp only[World.cell?,hx.block g hl hg] at hu ⊢;exact hu
 refine⟨?_,?_,h.far⟩
 ·obtain⟨⟨k,hk,q1⟩,q0,⟨m,m0,m1,q2⟩,hf⟩:=h.src
  refine⟨⟨k,hk,hc _ _ q1⟩,hc _ _ q0,⟨m,m0,m1,hc _ _ q2⟩,fun j=>?_⟩
  have:=hf j
  simp only[World.frozen?,hx.block g hl hg] at this ⊢;exact this
 ·obtain⟨a,cap,rfl,h1,h2,h3⟩:=h.code
  refine⟨a,cap,rfl,h1,h2,fun i hi=>?_⟩
  obtain⟨b,off,cs,rfl,hk,hcc,hr⟩:=h3 i hi
  have hb0:b < w0.heap.size:=(u8_at h0 hi).1
  refine⟨b,off,cs,rfl,hk,fun j u hu=>?_,hr⟩
  have hq:=hcc j u hu
  have hlt:=World.block_lt_of_cell? w _ hq
  simp only[World.cell?,hx.block b hlt (fun hb=>by have:=hS _ hb;omega)] at hq ⊢
  exact hq
def kAny:XReg.Kind:=fun _ _=>True
def kLtD (m:Nat):XReg.Kind:=fun v _=>∃ n:Nat,n < m∧v=(.int .i64 (n:Int))
def kIntD:XReg.Kind:=fun v _=>∃ n:Int,I64 n∧v=(.int .i64 n)
def kArrD (B:Nat) (cs:List Value):XReg.Kind:=fun v u=>∃ q,v=.slice (some ⟨q,0,none⟩) cs.length cs.length∧B≤q∧Blk u q cs 2
def kPtD (B:Nat) (cs:List Value):XReg.Kind:=fun v u=>∃ q k,k < cs.length∧v=.pointer (some ⟨q,k,none⟩)∧B≤q∧Blk u q cs 2
section
variable {W0:World} {g a b:Nat}
theorem stD_any:∀ v w w',Chg [g,a,b] w w'→kAny v w→kAny v w':=fun _ _ _ _ h=>h
theorem stD_eq {c:Value}:∀ v w w',Chg [g,a,b] w w'→eq9 c v w→eq9 c v w':=fun _ _ _ _ h=>h
theorem stD_lt {m:Nat}:∀ v w w',Chg [g,a,b] w w'→kLtD m v w→kLtD m v w':=fun _ _ _ _ h=>h
theorem stD_int:∀ v w w',Chg [g,a,b] w w'→kIntD v w→kIntD v w':=fun _ _ _ _ h=>h
theorem stD_arr {B:Nat} {cs:List Value} (hg:g < B∧a < B∧b < B):∀ v w w',Chg [g,a,b] w w'→kArrD B cs v w→kArrD B cs v w':=fun _ _ _ hx ⟨q,h1,h2,h3⟩=>⟨q,h1,h2,h3.chg hx (by simp;omega)⟩
theorem stD_pt {B:Nat} {cs:List Value} (hg:g < B∧a < B∧b < B):∀ v w w',Chg [g,a,b] w w'→kPtD B cs v w→kPtD B cs v w':=fun _ _ _ hx ⟨q,k,h0,h1,h2,h3⟩=>⟨q,k,h0,h1,h2,h3.chg hx (by simp;omega)⟩
end
set_option maxHeartbeats 3200000 in
theorem drawView_any (v:Value) (l:List Int) (w:World) (h:SlR w 1 rU8 v l) (hl:l.length≤1048576) :
  Calls Tryz.prog 10 #[v] w fun e w'=>∃ (p:Pl) (ca:Option Addr) (cc:Nat) (ja:Option Addr) (jc:Nat) (x:Lab),e=.returned (.tuple #[(.agg #[.slice ca p.clear.length cc,.slice ja p.jobs.length jc,(.int .i64 p.now)]),.agg #[(.int .i64 x.lv),(.int .i64 x.st)]])∧Ext w w'∧ePool w' (p.val (.slice ca p.clear.length cc) (.slice ja p.jobs.length jc)) p∧PlB p∧x.ok:=by
 have HS:=tH h
 clear h
 go_enter Tryz.func10,Tryz.ntmps10
 go_wp2_with fail
 refine(l01Source_any v l _ (HS.out.ext rU8_stable xE) hl).mono ?_
 rintro e w2 ⟨g,rfl,hg,hx,hs⟩
 have HG9:=tH (show w.heap.size+1 < g by simp at hg;omega)
 have HG:=tH (show w.heap.size≤g by have:=HG9.out;omega)
 have HRa:=tH ((Blk.new (w:=w) (cs:=#[.slice none 0 0,.slice none 0 0,(.int .i64 0)]) (ty:=26) rfl).ext ((Ext.refl _).alloc (.cells #[(.int .i64 0),(.int .i64 0)] 28) |>.trans hx))
 have HRb:=tH ((Blk.new (w:=w.alloc (.cells #[.slice none 0 0,.slice none 0 0,(.int .i64 0)] 26)) (b:=w.heap.size+1) (cs:=#[(.int .i64 0),(.int .i64 0)]) (ty:=28) (by simp)).ext hx)
 have HX:=tH ((Ext.refl w).alloc (.cells #[.slice none 0 0,.slice none 0 0,(.int .i64 0)] 26) |>.alloc (.cells #[(.int .i64 0),(.int .i64 0)] 28) |>.trans hx)
 have HA:=tH hs
 have HWG:=tH (show w.heap.size < w2.heap.size from HRa.out.old)
 have HWG1:=tH (show w.heap.size+1 < w2.heap.size from HRb.out.old)
 clear hx hs hg
 go_wp2_with fail
 refine(srcPool_any g _ v l HA.out).mono ?_
 rintro e w3 ⟨p,c,j,rfl,hc,hs,hP,hB⟩
 obtain⟨⟨ca,cc,rfl⟩,⟨ja,jc,rfl⟩⟩:=hP.shape
 have HX3:=tH (chg_old9 HX.out hc HG.out)
 have HRa3:=tH (HRa.out.chg hc (by have:=HG9.out;simp;omega))
 have HRb3:=tH (HRb.out.chg hc (by have:=HG9.out;simp;omega))
 have HG2:=tH HA.out.old
 have HS23:=tH hc.size
 have HP:=tH hP
 have HA3:=tH hs
 have HB:=tH hB
 clear hc hs hP hB HA HX HRa HRb
 unfold Pl.val
 go_upto_region 3 with fail
 refine gen_world (fun W4 hW=>?_)
 have HX4:=tH (show Ext w W4 by rw[hW];exact HX3.out.trans xE)
 have HRa4:=tH (show Blk W4 w.heap.size _ _ by rw[hW];exact HRa3.out.ext xE)
 have HRb4:=tH (show Blk W4 (w.heap.size+1) _ _ by rw[hW];exact HRb3.out.ext xE)
 have HP4:=tH (show PlR w2.heap.size W4 _ _ p by rw[hW];exact HP.out.ext xE)
 have HA4:=tH (show SrcA W4 g v l by rw[hW];exact HA3.out.ext xE)
 have HB4:=tH (show Blk W4 w3.heap.size [.slice ca p.clear.length cc,.slice ja p.jobs.length jc,(.int .i64 p.now)] 26 by rw[hW];exact Blk.new (cs:=#[.slice ca p.clear.length cc,.slice ja p.jobs.length jc,(.int .i64 p.now)]) rfl)
 have HZ4:=tH (show g < w3.heap.size from HA3.out.old)
 have HS24:=tH (show w2.heap.size≤W4.heap.size from Nat.le_trans HS23.out (by rw[hW];simp))
 clear hW HX3 HRa3 HRb3 HP HA3
 generalize w3.heap.size=bB at HB4 HZ4 ⊢
 (refine wp_region_l (R:=SrcR g v l) (SrcR.trans) 4 [(fun u _=>u=(.agg #[.slice ca p.clear.length cc,.slice ja p.jobs.length jc,(.int .i64 p.now)])),(fun u _=>u=(.pointer (some ⟨g,0,none⟩))),(fun u _=>u=(.agg #[.slice ca p.clear.length cc,.slice ja p.jobs.length jc,(.int .i64 p.now)])),lb9] (by kernel_rfl) (by kernel_rfl) (by kernel_rfl) rfl ?_ (by repeat' (first | exact trivial | exact XReg.GoodKL.same _ _ default | exact kI64_good | exact kLt_good (by decide) | exact kArr_good | exact kPt_good (by decide) | exact lb9_good | refine And.intro ?_ ?_)) (SrcR.ext (Ext.refl _).drew))
 apply LReg.val (.agg #[.slice ca p.clear.length cc,.slice ja p.jobs.length jc,(.int .i64 p.now)])
 case h =>
  intro w' hw' hF'
  have hB:=HB4.out.chg hw'.1 (by have:=HZ4.out;simp;omega)
  have e0:w'.cell? ⟨bB,0,none⟩=some (.slice ca p.clear.length cc):=hB.cell 0
  have e1:w'.cell? ⟨bB,1,none⟩=some (.slice ja p.jobs.length jc):=hB.cell 1
  have e2:w'.cell? ⟨bB,2,none⟩=some (.int .i64 p.now):=hB.cell 2
  have eo:=hB.old
  clear hF' hw' hB
  go_wp2_with fail
  exact⟨rfl,SrcR.ext xE⟩
 case hv=>kernel_rfl
 (apply LReg.val (.pointer (some ⟨g,0,none⟩));(case h=>(intro w' hw' hF';have HW':=tH hw';clear hF' hw';go_wp2_with fail;exact⟨rfl,SrcR.ext xE⟩));(case hv=>kernel_rfl))
 apply LReg.val (.agg #[.slice ca p.clear.length cc,.slice ja p.jobs.length jc,(.int .i64 p.now)])
 case h =>
  intro w' hw' hF'
  have hB:=HB4.out.chg hw'.1 (by have:=HZ4.out;simp;omega)
  have e0:w'.cell? ⟨bB,0,none⟩=some (.slice ca p.clear.length cc):=hB.cell 0
  have e1:w'.cell? ⟨bB,1,none⟩=some (.slice ja p.jobs.length jc):=hB.cell 1
  have e2:w'.cell? ⟨bB,2,none⟩=some (.int .i64 p.now):=hB.cell 2
  have eo:=hB.old
  clear hF' hw' hB
  go_wp2_with fail
  exact⟨rfl,SrcR.ext xE⟩
 case hv=>kernel_rfl
 refine LReg.kind (fun w' hw' hF'=>?_) (fun v1 w1 hK=>?_)
 ·have HW':=tH (hw'.2 HA4.out)
  have HP':=tH (HP4.out.low hw'.1 HG2.out)
  clear hF' hw'
  go_wp2_with fail
  refine(srcLabel5_any g _ v l (HW'.out.ext xE) (HP'.out.ext xE) HG2.out HB.out).mono ?_
  rintro e w8 ⟨x,rfl,hx,hc,hs⟩
  have HR8:=tH (SrcR.of (w:=w') xE hc hs)
  have HK:=tH hx
  clear hc hs hx
  go_wp2
  exact⟨HR8.out,_,rfl,HK.out⟩
 obtain⟨x,rfl,hx⟩:=hK
 have HK:=tH hx
 clear w1 hx
 refine LReg.done (fun w5 hw9 hF=>?_)
 have HX5:=tH (chg_old9 HX4.out hw9.1 HG.out)
 have HRa5:=tH (HRa4.out.chg hw9.1 (by have:=HG9.out;simp;omega))
 have HRb5:=tH (HRb4.out.chg hw9.1 (by have:=HG9.out;simp;omega))
 have HP5:=tH (HP4.out.low hw9.1 HG2.out)
 clear hF hw9 HX4 HRa4 HRb4 HP4 HA4 HB4
 have r0:w5.cell? ⟨w.heap.size,0,none⟩=some (.slice none 0 0):=HRa5.out.cell 0
 have r1:w5.cell? ⟨w.heap.size,1,none⟩=some (.slice none 0 0):=HRa5.out.cell 1
 have r2:w5.cell? ⟨w.heap.size,2,none⟩=some (.int .i64 0):=HRa5.out.cell 2
 have q0:w5.cell? ⟨w.heap.size+1,0,none⟩=some (.int .i64 0):=HRb5.out.cell 0
 have q1:w5.cell? ⟨w.heap.size+1,1,none⟩=some (.int .i64 0):=HRb5.out.cell 1
 have ro:=HRa5.out.old
 have rf:=HRa5.out.fz
 have qo:=HRb5.out.old
 have qf:=HRb5.out.fz
 go_wp2
 have hC:=(set3_chg9 w5 w.heap.size (.slice ca p.clear.length cc) (.slice ja p.jobs.length jc) (.int .i64 p.now))
 have hC2:=set2_chg (((w5.setCell ⟨w.heap.size,0,none⟩ (.slice ca p.clear.length cc)).setCell ⟨w.heap.size,1,none⟩ (.slice ja p.jobs.length jc)).setCell ⟨w.heap.size,2,none⟩ (.int .i64 p.now)) (w.heap.size+1) (.int .i64 x.lv) (.int .i64 x.st)
 exact bodyPost_ret (v:=.tuple #[(.agg #[.slice ca p.clear.length cc,.slice ja p.jobs.length jc,(.int .i64 p.now)]),.agg #[(.int .i64 x.lv),(.int .i64 x.st)]]) (by simp[results,Tryz.results10,go_sem,r0,r1,r2,q0,q1]) rfl ⟨p,ca,cc,ja,jc,x,rfl,hC2.ext (hC.ext HX5.out (by simp)) (by simp),((HP5.out.off hC (offP_g HWG.out)).off hC2 (offP_g HWG1.out)).e,HB.out,HK.out⟩
set_option maxHeartbeats 3200000 in
theorem drawChange_any (v:Value) (l:List Int) (w:World) (h:SlR w 1 rU8 v l) (hl:l.length≤1048576) :
  Calls Tryz.prog 7 #[v] w fun e w'=>∃ (p:Pl) (ca:Option Addr) (cc:Nat) (ja:Option Addr) (jc:Nat) (x:Lab) (id st:Int),e=.returned (.tuple #[(.agg #[.slice ca p.clear.length cc,.slice ja p.jobs.length jc,(.int .i64 p.now)]),.agg #[(.int .i64 x.lv),(.int .i64 x.st)],(.int .i64 id),(.int .i64 st)])∧Ext w w'∧ePool w' (p.val (.slice ca p.clear.length cc) (.slice ja p.jobs.length jc)) p∧PlB p∧x.ok∧I64 id∧I64 st:=by
 have HS:=tH h
 clear h
 have H4:Hid (I64 4):=tH (by unfold I64;omega)
 have H5:Hid (I64 5):=tH (by unfold I64;omega)
 go_enter Tryz.func7,Tryz.ntmps7
 go_wp2_with fail
 refine(l01Source_any v l _ (HS.out.ext rU8_stable xE) hl).mono ?_
 rintro e w2 ⟨g,rfl,hg,hx,hs⟩
 have HG9:=tH (show w.heap.size+1 < g by simp at hg;omega)
 have HG:=tH (show w.heap.size≤g by have:=HG9.out;omega)
 have HRa:=tH ((Blk.new (w:=w) (cs:=#[.slice none 0 0,.slice none 0 0,(.int .i64 0)]) (ty:=26) rfl).ext ((Ext.refl _).alloc (.cells #[(.int .i64 0),(.int .i64 0)] 28) |>.trans hx))
 have HRb:=tH ((Blk.new (w:=w.alloc (.cells #[.slice none 0 0,.slice none 0 0,(.int .i64 0)] 26)) (b:=w.heap.size+1) (cs:=#[(.int .i64 0),(.int .i64 0)]) (ty:=28) (by simp)).ext hx)
 have HX:=tH ((Ext.refl w).alloc (.cells #[.slice none 0 0,.slice none 0 0,(.int .i64 0)] 26) |>.alloc (.cells #[(.int .i64 0),(.int .i64 0)] 28) |>.trans hx)
 have HA:=tH hs
 have HWG:=tH (show w.heap.size < w2.heap.size from HRa.out.old)
 have HWG1:=tH (show w.heap.size+1 < w2.heap.size from HRb.out.old)
 clear hx hs hg
 go_wp2_with fail
 refine(srcPool_any g _ v l HA.out).mono ?_
 rintro e w3 ⟨p,c,j,rfl,hc,hs,hP,hB⟩
 obtain⟨⟨ca,cc,rfl⟩,⟨ja,jc,rfl⟩⟩:=hP.shape
 have HX3:=tH (chg_old9 HX.out hc HG.out)
 have HRa3:=tH (HRa.out.chg hc (by have:=HG9.out;simp;omega))
 have HRb3:=tH (HRb.out.chg hc (by have:=HG9.out;simp;omega))
 have HG2:=tH HA.out.old
 have HS23:=tH hc.size
 have HP:=tH hP
 have HA3:=tH hs
 have HB:=tH hB
 clear hc hs hP hB HA HX HRa HRb
 unfold Pl.val
 go_upto_region 3 with fail
 refine gen_world (fun W4 hW=>?_)
 have HX4:=tH (show Ext w W4 by rw[hW];exact HX3.out.trans xE)
 have HRa4:=tH (show Blk W4 w.heap.size _ _ by rw[hW];exact HRa3.out.ext xE)
 have HRb4:=tH (show Blk W4 (w.heap.size+1) _ _ by rw[hW];exact HRb3.out.ext xE)
 have HP4:=tH (show PlR w2.heap.size W4 _ _ p by rw[hW];exact HP.out.ext xE)
 have HA4:=tH (show SrcA W4 g v l by rw[hW];exact HA3.out.ext xE)
 have HB4:=tH (show Blk W4 w3.heap.size [.slice ca p.clear.length cc,.slice ja p.jobs.length jc,(.int .i64 p.now)] 26 by rw[hW];exact Blk.new (cs:=#[.slice ca p.clear.length cc,.slice ja p.jobs.length jc,(.int .i64 p.now)]) rfl)
 have HZ4:=tH (show g < w3.heap.size from HA3.out.old)
 have HS24:=tH (show w2.heap.size≤W4.heap.size from Nat.le_trans HS23.out (by rw[hW];simp))
 clear hW HX3 HRa3 HRb3 HP HA3
 generalize w3.heap.size=bB at HB4 HZ4 ⊢
 have e0:W4.cell? ⟨bB,0,none⟩=some (.slice ca p.clear.length cc):=HB4.out.cell 0
 have e1:W4.cell? ⟨bB,1,none⟩=some (.slice ja p.jobs.length jc):=HB4.out.cell 1
 have e2:W4.cell? ⟨bB,2,none⟩=some (.int .i64 p.now):=HB4.out.cell 2
 have eo:=HB4.out.old
 go_wp2_with fail
 refine(srcLabel5_any g _ v l HA4.out HP4.out HG2.out HB.out).mono ?_
 rintro e w5 ⟨x,rfl,hxo,hc,hs⟩
 have HXO:=tH hxo
 have HX5:=tH (chg_old9 HX4.out hc HG.out)
 have HRa5:=tH (HRa4.out.chg hc (by have:=HG9.out;simp;omega))
 have HRb5:=tH (HRb4.out.chg hc (by have:=HG9.out;simp;omega))
 have HP5:=tH (HP4.out.low hc HG2.out)
 have HB5:=tH (HB4.out.chg hc (by have:=HZ4.out;simp;omega))
 have HA5:=tH hs
 have HSZ5:=tH (show w2.heap.size≤w5.heap.size∧bB < w5.heap.size from ⟨by have:=HS24.out;have:=hc.size;omega,by have h1:=HB4.out.old;have:=hc.size;unfold World.old at h1;omega⟩)
 clear hc hs hxo e0 e1 e2 eo HX4 HRa4 HRb4 HP4 HB4 HA4
 go_upto_region 4 with fail
 refine gen_world (fun W6 hW=>?_)
 have HX6:=tH (show Ext w W6 by rw[hW];exact HX5.out.trans xE)
 have HRa6:=tH (show Blk W6 w.heap.size _ _ by rw[hW];exact HRa5.out.ext xE)
 have HRb6:=tH (show Blk W6 (w.heap.size+1) _ _ by rw[hW];exact HRb5.out.ext xE)
 have HP6:=tH (show PlR w2.heap.size W6 _ _ p by rw[hW];exact HP5.out.ext xE)
 have HA6:=tH (show SrcA W6 g v l by rw[hW];exact HA5.out.ext xE)
 have HB6:=tH (show Blk W6 bB _ _ by rw[hW];exact HB5.out.ext xE)
 have HQ6:=tH (show Blk W6 w5.heap.size [(.int .i64 x.lv),(.int .i64 x.st)] 28 by rw[hW];exact Blk.new rfl)
 have HZ6:=tH (show g < w5.heap.size from HA5.out.old)
 have HSZ6:=tH (show w2.heap.size≤W6.heap.size from Nat.le_trans HSZ5.out.1 (by rw[hW];simp))
 have HZQ:=tH (show w2.heap.size≤w5.heap.size from HSZ5.out.1)
 clear hW HX5 HRa5 HRb5 HP5 HB5 HA5 HSZ5
 generalize w5.heap.size=bQ at HQ6 HZ6 HZQ ⊢
 go_wp2_with fail
 refine(srcN' g 4 _ v l HA6.out H4.out).mono ?_
 rintro e w7 ⟨k,rfl,hb,hc,hs⟩
 have HKI:=tH (show I64 (k:Int) from i64_nat (show k≤4 by omega) (by decide))
 have HX7:=tH (chg_old9 HX6.out hc HG.out)
 have HRa7:=tH (HRa6.out.chg hc (by have:=HG9.out;simp;omega))
 have HRb7:=tH (HRb6.out.chg hc (by have:=HG9.out;simp;omega))
 have HP7:=tH (HP6.out.low hc HG2.out)
 have HA7:=tH hs
 have HB4:=tH (HB6.out.chg hc (by have:=HZ4.out;simp;omega))
 have HQ4:=tH (HQ6.out.chg hc (by have:=HZ6.out;simp;omega))
 have HSZ:=tH (show w2.heap.size≤w7.heap.size∧g < w7.heap.size from ⟨Nat.le_trans HSZ6.out hc.size,hs.old⟩)
 clear hc hs hb HX6 HRa6 HRb6 HP6 HA6 HB6 HQ6
 go_upto_region 5 with fail
 obtain⟨BW,hBW⟩:∃ B,B=w7.heap.size:=⟨_,rfl⟩
 have HBW:=tH hBW
 clear hBW
 have HZA:=tH (show w.heap.size+1 < g∧g < bB∧g < bQ∧w2.heap.size≤bQ from ⟨HG9.out,HZ4.out,HZ6.out,HZQ.out⟩)
 have HLT:=tH (show g < BW∧w.heap.size < BW∧w.heap.size+1 < BW from by have:=HSZ.out;have:=HZA.out;have:=HBW.out;omega)
 have DF:Hid (DrF w7 g v l w.heap.size (w.heap.size+1) [eq9 (.agg #[.slice ca p.clear.length cc,.slice ja p.jobs.length jc,(.int .i64 p.now)]),eq9 (.agg #[(.int .i64 x.lv),(.int .i64 x.st)]),eq9 (.int .i64 (k:Int)),kArrD BW [(.int .i64 1),(.int .i64 3),(.int .i64 4),(.int .i64 2),(.int .i64 5)],eq9 (.pointer (some ⟨g,0,none⟩)),kLtD 5,kPtD BW [(.int .i64 1),(.int .i64 3),(.int .i64 4),(.int .i64 2),(.int .i64 5)],kIntD,kAny,kAny,eq9 (.int .i64 (k:Int)),kIntD]):=tH ⟨by have:=HZA.out;omega,by have:=HZA.out;omega,by omega,fun S u u' hS hc hs=>hs.off HS.out hc (fun hg=>by have:=hS _ hg;have:=HZA.out;omega) (fun b hb=>by have:=hS _ hb;omega),fun K hK=>by
  simp only[List.mem_cons,List.not_mem_nil,or_false] at hK
  rcases hK with rfl | rfl | rfl | rfl | rfl | rfl | rfl | rfl | rfl | rfl | rfl | rfl
  ·exact stD_eq
  ·exact stD_eq
  ·exact stD_eq
  ·exact stD_arr HLT.out
  ·exact stD_eq
  ·exact stD_lt
  ·exact stD_pt HLT.out
  ·exact stD_int
  ·exact stD_any
  ·exact stD_any
  ·exact stD_eq
  ·exact stD_int⟩
 refine wp_region_i 12 (DrI w7 g v l w.heap.size [.slice none 0 0,.slice none 0 0,(.int .i64 0)] [.slice ca p.clear.length cc,.slice ja p.jobs.length jc,(.int .i64 p.now)] 26 (w.heap.size+1) [(.int .i64 0),(.int .i64 0)] [(.int .i64 x.lv),(.int .i64 x.st)] 28 8 9 [eq9 (.agg #[.slice ca p.clear.length cc,.slice ja p.jobs.length jc,(.int .i64 p.now)]),eq9 (.agg #[(.int .i64 x.lv),(.int .i64 x.st)]),eq9 (.int .i64 (k:Int)),kArrD BW [(.int .i64 1),(.int .i64 3),(.int .i64 4),(.int .i64 2),(.int .i64 5)],eq9 (.pointer (some ⟨g,0,none⟩)),kLtD 5,kPtD BW [(.int .i64 1),(.int .i64 3),(.int .i64 4),(.int .i64 2),(.int .i64 5)],kIntD,kAny,kAny,eq9 (.int .i64 (k:Int)),kIntD]) (by kernel_rfl) (by kernel_rfl) (by kernel_rfl) (fun vs=>?_) (fun vs=>DrI.start (Ext.refl _).drew HA7.out HRa7.out HRb7.out)
 refine IReg.step 1 rfl (fun L w' hI hL hj=>?_) ?_
 ·(have hB:=HB4.out.chg hI.c (by have:=HZA.out;simp;omega);have e0:w'.cell? ⟨bB,0,none⟩=some (.slice ca p.clear.length cc):=hB.cell 0;have e1:w'.cell? ⟨bB,1,none⟩=some (.slice ja p.jobs.length jc):=hB.cell 1;have e2:w'.cell? ⟨bB,2,none⟩=some (.int .i64 p.now):=hB.cell 2;have eo:=hB.old;clear hB)
  have HI:=tH hI
  clear hI hL hj
  go_wp2
  exact HI.out.put DF.out (by decide) (by decide) rfl (SrcR.ext xE) rfl
 (conv in (Act.put _ _ _)=>simp only[Act.put,List.setIfInBounds_toArray,List.set_cons_succ,List.set_cons_zero])
 refine IReg.step 2 rfl (fun L w' hI hL hj=>?_) ?_
 ·(have hB:=HQ4.out.chg hI.c (by have:=HZA.out;simp;omega);have e0:w'.cell? ⟨bQ,0,none⟩=some (.int .i64 x.lv):=hB.cell 0;have e1:w'.cell? ⟨bQ,1,none⟩=some (.int .i64 x.st):=hB.cell 1;have eo:=hB.old;clear hB)
  have HI:=tH hI
  clear hI hL hj
  go_wp2
  exact HI.out.put DF.out (by decide) (by decide) rfl (SrcR.ext xE) rfl
 (conv in (Act.put _ _ _)=>simp only[Act.put,List.setIfInBounds_toArray,List.set_cons_succ,List.set_cons_zero])
 refine IReg.step 3 rfl (fun L w' hI hL hj=>?_) ?_
 ·skip
  have HI:=tH hI
  clear hI hL hj
  go_wp2
  exact HI.out.put DF.out (by decide) (by decide) rfl (SrcR.ext xE) rfl
 (conv in (Act.put _ _ _)=>simp only[Act.put,List.setIfInBounds_toArray,List.set_cons_succ,List.set_cons_zero])
 refine IReg.step 4 rfl (fun L w' hI hL hj=>?_) ?_
 ·have HI:=tH hI
  have HK9:=tH (show kArrD BW [(.int .i64 1),(.int .i64 3),(.int .i64 4),(.int .i64 2),(.int .i64 5)] (.slice (some ⟨w'.heap.size,0,none⟩) 5 5) (w'.alloc (.cells #[(.int .i64 1),(.int .i64 3),(.int .i64 4),(.int .i64 2),(.int .i64 5)] 2)) from ⟨_,rfl,by have:=hI.c.size;have:=HBW.out;omega,Blk.new rfl⟩)
  clear hI hL hj
  go_wp2
  exact HI.out.put DF.out (by decide) (by decide) rfl (SrcR.ext xE) HK9.out
 (conv in (Act.put _ _ _)=>simp only[Act.put,List.setIfInBounds_toArray,List.set_cons_succ,List.set_cons_zero])
 refine IReg.step 5 rfl (fun L w' hI hL hj=>?_) ?_
 ·skip
  have HI:=tH hI
  clear hI hL hj
  go_wp2
  exact HI.out.put DF.out (by decide) (by decide) rfl (SrcR.ext xE) rfl
 (conv in (Act.put _ _ _)=>simp only[Act.put,List.setIfInBounds_toArray,List.set_cons_succ,List.set_cons_zero])
 refine IReg.step 6 rfl (fun L w' hI hL hj=>?_) ?_
 ·rw[show vs 4=.pointer (some ⟨g,0,none⟩) from hI.k 4 _ rfl (hj 4 (by decide) (by kernel_rfl))]
  have HI:=tH hI
  have HW':=tH hI.s
  clear hI hL hj
  go_wp2_with fail
  refine(srcN' g 5 _ v l (HW'.out.ext xE) H5.out).mono ?_
  rintro e w8 ⟨n,rfl,hb,hc,hs⟩
  have HR8:=tH (SrcR.of (w:=w') xE hc hs)
  have hn:n < 5:=by omega
  clear hc hs hb
  go_wp2
  exact HI.out.put DF.out (by decide) (by decide) rfl HR8.out ⟨n,hn,rfl⟩
 (conv in (Act.put _ _ _)=>simp only[Act.put,List.setIfInBounds_toArray,List.set_cons_succ,List.set_cons_zero])
 refine IReg.step 7 rfl (fun L w' hI hL hj=>?_) ?_
 ·obtain⟨q,h3,hq,hB⟩:kArrD BW [(.int .i64 1),(.int .i64 3),(.int .i64 4),(.int .i64 2),(.int .i64 5)] (vs 3) w':=hI.k 3 _ rfl (hj 3 (by decide) (by kernel_rfl))
  obtain⟨n,hn,h5⟩:kLtD ([(.int .i64 1),(.int .i64 3),(.int .i64 4),(.int .i64 2),(.int .i64 5)]:List Value).length (vs 5) w':=hI.k 5 _ rfl (hj 5 (by decide) (by kernel_rfl))
  rw[h3,h5]
  have HI:=tH hI
  have HK9:=tH (show kPtD BW [(.int .i64 1),(.int .i64 3),(.int .i64 4),(.int .i64 2),(.int .i64 5)] (.pointer (some ⟨q,n,none⟩)) w' from ⟨q,n,hn,rfl,hq,hB⟩)
  have hbo:=hB.old
  have hn9:n < ([(.int .i64 1),(.int .i64 3),(.int .i64 4),(.int .i64 2),(.int .i64 5)]:List Value).length:=hn
  simp only[List.length_cons,List.length_nil] at hn9
  clear hI hL hj h3 h5 hB hq hn
  go_wp2
  exact HI.out.put DF.out (by decide) (by decide) rfl (SrcR.ext xE) HK9.out
 (conv in (Act.put _ _ _)=>simp only[Act.put,List.setIfInBounds_toArray,List.set_cons_succ,List.set_cons_zero])
 refine IReg.step 8 rfl (fun L w' hI hL hj=>?_) ?_
 ·obtain⟨q,k,hk,h6,hq,hB⟩:kPtD BW [(.int .i64 1),(.int .i64 3),(.int .i64 4),(.int .i64 2),(.int .i64 5)] (vs 6) w':=hI.k 6 _ rfl (hj 6 (by decide) (by kernel_rfl))
  rw[h6]
  obtain⟨n,hni,hn⟩:∃ n:Int,I64 n∧([(.int .i64 1),(.int .i64 3),(.int .i64 4),(.int .i64 2),(.int .i64 5)]:List Value)[k]?=some (.int .i64 n):=by
   simp only[List.length_cons,List.length_nil] at hk
   (have:k=0∨k=1∨k=2∨k=3∨k=4:=(by omega);rcases this with h | h | h | h | h<;>rw[h]<;>(refine⟨_,?_,rfl⟩;unfold I64;omega))
  have hc0:w'.cell? ⟨q,k,none⟩=some (.int .i64 n):=by rw[hB.cell k];exact hn
  have hbo:=hB.old
  have HI:=tH hI
  have HNI:=tH hni
  clear hI hL hj h6 hB hq hn hni hk
  go_wp2
  exact HI.out.put DF.out (by decide) (by decide) rfl (SrcR.ext xE) ⟨n,HNI.out,rfl⟩
 (conv in (Act.put _ _ _)=>simp only[Act.put,List.setIfInBounds_toArray,List.set_cons_succ,List.set_cons_zero])
 refine IReg.step 9 rfl (fun L w' hI hL hj=>?_) ?_
 ·rw[show vs 0=(.agg #[.slice ca p.clear.length cc,.slice ja p.jobs.length jc,(.int .i64 p.now)]) from hI.k 0 _ rfl (hj 0 (by decide) (by kernel_rfl))]
  have hB:=hI.x0 hL
  have r0:w'.cell? ⟨w.heap.size,0,none⟩=some (.slice none 0 0):=hB.cell 0
  have r1:w'.cell? ⟨w.heap.size,1,none⟩=some (.slice none 0 0):=hB.cell 1
  have r2:w'.cell? ⟨w.heap.size,2,none⟩=some (.int .i64 0):=hB.cell 2
  have ro:=hB.old
  have rf:=hB.fz
  have HB9:=tH hB
  have HI:=tH hI
  clear hI hL hj hB
  go_wp2
  exact⟨undef,HI.out.stx DF.out (by decide) rfl (set3_chg9 _ _ _ _ _) (((HB9.out.set 0 (.slice ca p.clear.length cc)).set 1 (.slice ja p.jobs.length jc)).set 2 (.int .i64 p.now)) trivial⟩
 (conv in (Act.put _ _ _)=>simp only[Act.put,List.setIfInBounds_toArray,List.set_cons_succ,List.set_cons_zero])
 refine IReg.step 10 rfl (fun L w' hI hL hj=>?_) ?_
 ·rw[show vs 1=.agg #[(.int .i64 x.lv),(.int .i64 x.st)] from hI.k 1 _ rfl (hj 1 (by decide) (by kernel_rfl))]
  have hB:=hI.y0 hL
  have r0:w'.cell? ⟨w.heap.size+1,0,none⟩=some (.int .i64 0):=hB.cell 0
  have r1:w'.cell? ⟨w.heap.size+1,1,none⟩=some (.int .i64 0):=hB.cell 1
  have ro:=hB.old
  have rf:=hB.fz
  have HB9:=tH hB
  have HI:=tH hI
  clear hI hL hj hB
  go_wp2
  exact⟨undef,HI.out.sty DF.out (by decide) rfl (set2_chg _ _ _ _) ((HB9.out.set 0 (.int .i64 x.lv)).set 1 (.int .i64 x.st)) trivial⟩
 (conv in (Act.put _ _ _)=>simp only[Act.put,List.setIfInBounds_toArray,List.set_cons_succ,List.set_cons_zero])
 refine IReg.step 11 rfl (fun L w' hI hL hj=>?_) ?_
 ·(rw[show vs 2=(.int .i64 (k:Int)) from hI.k 2 _ rfl (hj 2 (by decide) (by kernel_rfl))])
  have HI:=tH hI
  clear hI hL hj
  go_wp2
  exact HI.out.put DF.out (by decide) (by decide) rfl (SrcR.ext xE) rfl
 (conv in (Act.put _ _ _)=>simp only[Act.put,List.setIfInBounds_toArray,List.set_cons_succ,List.set_cons_zero])
 refine IReg.step 12 rfl (fun L w' hI hL hj=>?_) ?_
 ·obtain⟨n,hni,hn⟩:kIntD (vs 7) w':=hI.k 7 _ rfl (hj 7 (by decide) (by kernel_rfl))
  rw[hn]
  have HI:=tH hI
  have HNI:=tH hni
  clear hI hL hj hn hni
  go_wp2
  exact HI.out.put DF.out (by decide) (by decide) rfl (SrcR.ext xE) ⟨n,HNI.out,rfl⟩
 (conv in (Act.put _ _ _)=>simp only[Act.put,List.setIfInBounds_toArray,List.set_cons_succ,List.set_cons_zero])
 refine IReg.done (fun L w9 hL hI=>?_)
 simp only[List.drop_succ_cons,List.drop_zero]
 have h10:vs 10=(.int .i64 (k:Int)):=hI.k 10 _ rfl (hL 10 (by decide))
 obtain⟨n,hni,h11⟩:kIntD (vs 11) w9:=hI.k 11 _ rfl (hL 11 (by decide))
 rw[h10,h11]
 have HRa9:=tH (hI.x1 (hL 8 (by decide)))
 have HRb9:=tH (hI.y1 (hL 9 (by decide)))
 have HX9:=tH (hI.c.ext HX7.out (by have:=HG9.out;simp;omega))
 have HP9:=tH (HP7.out.off hI.c (fun b hb=>by have h1:=HG2.out;have h2:=HWG1.out;simp at hb;left;omega))
 clear hI hL h10 h11
 have r0:w9.cell? ⟨w.heap.size,0,none⟩=some (.slice ca p.clear.length cc):=HRa9.out.cell 0
 have r1:w9.cell? ⟨w.heap.size,1,none⟩=some (.slice ja p.jobs.length jc):=HRa9.out.cell 1
 have r2:w9.cell? ⟨w.heap.size,2,none⟩=some (.int .i64 p.now):=HRa9.out.cell 2
 have q0:w9.cell? ⟨w.heap.size+1,0,none⟩=some (.int .i64 x.lv):=HRb9.out.cell 0
 have q1:w9.cell? ⟨w.heap.size+1,1,none⟩=some (.int .i64 x.st):=HRb9.out.cell 1
 have ro:=HRa9.out.old
 have qo:=HRb9.out.old
 go_wp2
 exact bodyPost_ret (v:=.tuple #[(.agg #[.slice ca p.clear.length cc,.slice ja p.jobs.length jc,(.int .i64 p.now)]),.agg #[(.int .i64 x.lv),(.int .i64 x.st)],(.int .i64 (k:Int)),(.int .i64 n)]) (by simp[results,Tryz.results7,go_sem,r0,r1,r2,q0,q1]) rfl ⟨p,ca,cc,ja,jc,x,(k:Int),n,rfl,HX9.out,HP9.out.e,HB.out,HXO.out,HKI.out,hni⟩
set_option maxHeartbeats 3200000 in
theorem drawSubmit_any (v:Value) (l:List Int) (w:World) (h:SlR w 1 rU8 v l) (hl:l.length≤1048576) :
  Calls Tryz.prog 5 #[v] w fun e w'=>∃ (p:Pl) (ca:Option Addr) (cc:Nat) (ja:Option Addr) (jc:Nat) (x:Lab) (n1 n2 n3:Int),e=.returned (.tuple #[(.agg #[.slice ca p.clear.length cc,.slice ja p.jobs.length jc,(.int .i64 p.now)]),.agg #[(.int .i64 x.lv),(.int .i64 x.st)],(.int .i64 n1),(.int .i64 n2),(.int .i64 n3)])∧Ext w w'∧ePool w' (p.val (.slice ca p.clear.length cc) (.slice ja p.jobs.length jc)) p∧PlB p∧x.ok∧I64 n1∧I64 n2∧I64 n3:=by
 have HS:=tH h
 clear h
 have H2:Hid (I64 2):=tH (by unfold I64;omega)
 have H3:Hid (I64 3):=tH (by unfold I64;omega)
 have H4:Hid (I64 4):=tH (by unfold I64;omega)
 have H5:Hid (I64 5):=tH (by unfold I64;omega)
 have H10:Hid (I64 10):=tH (by unfold I64;omega)
 go_enter Tryz.func5,Tryz.ntmps5
 go_wp2_with fail
 refine(l01Source_any v l _ (HS.out.ext rU8_stable xE) hl).mono ?_
 rintro e w2 ⟨g,rfl,hg,hx,hs⟩
 have HG9:=tH (show w.heap.size+1 < g by simp at hg;omega)
 have HG:=tH (show w.heap.size≤g by have:=HG9.out;omega)
 have HRa:=tH ((Blk.new (w:=w) (cs:=#[.slice none 0 0,.slice none 0 0,(.int .i64 0)]) (ty:=26) rfl).ext ((Ext.refl _).alloc (.cells #[(.int .i64 0),(.int .i64 0)] 28) |>.trans hx))
 have HRb:=tH ((Blk.new (w:=w.alloc (.cells #[.slice none 0 0,.slice none 0 0,(.int .i64 0)] 26)) (b:=w.heap.size+1) (cs:=#[(.int .i64 0),(.int .i64 0)]) (ty:=28) (by simp)).ext hx)
 have HX:=tH ((Ext.refl w).alloc (.cells #[.slice none 0 0,.slice none 0 0,(.int .i64 0)] 26) |>.alloc (.cells #[(.int .i64 0),(.int .i64 0)] 28) |>.trans hx)
 have HA:=tH hs
 have HWG:=tH (show w.heap.size < w2.heap.size from HRa.out.old)
 have HWG1:=tH (show w.heap.size+1 < w2.heap.size from HRb.out.old)
 clear hx hs hg
 go_wp2_with fail
 refine(srcPool_any g _ v l HA.out).mono ?_
 rintro e w3 ⟨p,c,j,rfl,hc,hs,hP,hB⟩
 obtain⟨⟨ca,cc,rfl⟩,⟨ja,jc,rfl⟩⟩:=hP.shape
 have HX3:=tH (chg_old9 HX.out hc HG.out)
 have HRa3:=tH (HRa.out.chg hc (by have:=HG9.out;simp;omega))
 have HRb3:=tH (HRb.out.chg hc (by have:=HG9.out;simp;omega))
 have HG2:=tH HA.out.old
 have HS23:=tH hc.size
 have HP:=tH hP
 have HA3:=tH hs
 have HB:=tH hB
 clear hc hs hP hB HA HX HRa HRb
 unfold Pl.val
 go_upto_region 3 with fail
 refine gen_world (fun W4 hW=>?_)
 have HX4:=tH (show Ext w W4 by rw[hW];exact HX3.out.trans xE)
 have HRa4:=tH (show Blk W4 w.heap.size _ _ by rw[hW];exact HRa3.out.ext xE)
 have HRb4:=tH (show Blk W4 (w.heap.size+1) _ _ by rw[hW];exact HRb3.out.ext xE)
 have HP4:=tH (show PlR w2.heap.size W4 _ _ p by rw[hW];exact HP.out.ext xE)
 have HA4:=tH (show SrcA W4 g v l by rw[hW];exact HA3.out.ext xE)
 have HB4:=tH (show Blk W4 w3.heap.size [.slice ca p.clear.length cc,.slice ja p.jobs.length jc,(.int .i64 p.now)] 26 by rw[hW];exact Blk.new (cs:=#[.slice ca p.clear.length cc,.slice ja p.jobs.length jc,(.int .i64 p.now)]) rfl)
 have HZ4:=tH (show g < w3.heap.size from HA3.out.old)
 have HS24:=tH (show w2.heap.size≤W4.heap.size from Nat.le_trans HS23.out (by rw[hW];simp))
 clear hW HX3 HRa3 HRb3 HP HA3
 generalize w3.heap.size=bB at HB4 HZ4 ⊢
 have e0:W4.cell? ⟨bB,0,none⟩=some (.slice ca p.clear.length cc):=HB4.out.cell 0
 have e1:W4.cell? ⟨bB,1,none⟩=some (.slice ja p.jobs.length jc):=HB4.out.cell 1
 have e2:W4.cell? ⟨bB,2,none⟩=some (.int .i64 p.now):=HB4.out.cell 2
 have eo:=HB4.out.old
 go_wp2_with fail
 refine(srcLabel5_any g _ v l HA4.out HP4.out HG2.out HB.out).mono ?_
 rintro e w5 ⟨x,rfl,hxo,hc,hs⟩
 have HXO:=tH hxo
 have HX5:=tH (chg_old9 HX4.out hc HG.out)
 have HRa5:=tH (HRa4.out.chg hc (by have:=HG9.out;simp;omega))
 have HRb5:=tH (HRb4.out.chg hc (by have:=HG9.out;simp;omega))
 have HP5:=tH (HP4.out.low hc HG2.out)
 have HB5:=tH (HB4.out.chg hc (by have:=HZ4.out;simp;omega))
 have HA5:=tH hs
 have HSZ5:=tH (show w2.heap.size≤w5.heap.size∧bB < w5.heap.size from ⟨by have:=HS24.out;have:=hc.size;omega,by have h1:=HB4.out.old;have:=hc.size;unfold World.old at h1;omega⟩)
 clear hc hs hxo e0 e1 e2 eo HX4 HRa4 HRb4 HP4 HB4 HA4
 go_upto_region 4 with fail
 refine gen_world (fun W6 hW=>?_)
 have HX6:=tH (show Ext w W6 by rw[hW];exact HX5.out.trans xE)
 have HRa6:=tH (show Blk W6 w.heap.size _ _ by rw[hW];exact HRa5.out.ext xE)
 have HRb6:=tH (show Blk W6 (w.heap.size+1) _ _ by rw[hW];exact HRb5.out.ext xE)
 have HP6:=tH (show PlR w2.heap.size W6 _ _ p by rw[hW];exact HP5.out.ext xE)
 have HA6:=tH (show SrcA W6 g v l by rw[hW];exact HA5.out.ext xE)
 have HB6:=tH (show Blk W6 bB _ _ by rw[hW];exact HB5.out.ext xE)
 have HQ6:=tH (show Blk W6 w5.heap.size [(.int .i64 x.lv),(.int .i64 x.st)] 28 by rw[hW];exact Blk.new rfl)
 have HZ6:=tH (show g < w5.heap.size from HA5.out.old)
 have HSZ6:=tH (show w2.heap.size≤W6.heap.size from Nat.le_trans HSZ5.out.1 (by rw[hW];simp))
 have HZQ:=tH (show w2.heap.size≤w5.heap.size from HSZ5.out.1)
 clear hW HX5 HRa5 HRb5 HP5 HB5 HA5 HSZ5
 generalize w5.heap.size=bQ at HQ6 HZ6 HZQ ⊢
 go_wp2_with fail
 refine(srcOne_any g 10 _ v l HA6.out H10.out).mono ?_
 rintro e w7 ⟨b,rfl,hc,hs⟩
 have HX7:=tH (chg_old9 HX6.out hc HG.out)
 have HRa7:=tH (HRa6.out.chg hc (by have:=HG9.out;simp;omega))
 have HRb7:=tH (HRb6.out.chg hc (by have:=HG9.out;simp;omega))
 have HP7:=tH (HP6.out.low hc HG2.out)
 have HA7:=tH hs
 have HB4:=tH (HB6.out.chg hc (by have:=HZ4.out;simp;omega))
 have HQ4:=tH (HQ6.out.chg hc (by have:=HZ6.out;simp;omega))
 have HSZ:=tH (show w2.heap.size≤w7.heap.size∧g < w7.heap.size from ⟨Nat.le_trans HSZ6.out hc.size,hs.old⟩)
 clear hc hs HX6 HRa6 HRb6 HP6 HA6 HB6 HQ6
 obtain⟨BW,hBW⟩:∃ B,B=w7.heap.size:=⟨_,rfl⟩
 have HBW:=tH hBW
 clear hBW
 have HZA:=tH (show w.heap.size+1 < g∧g < bB∧g < bQ∧w2.heap.size≤bQ from ⟨HG9.out,HZ4.out,HZ6.out,HZQ.out⟩)
 have HLT:=tH (show g < BW∧w.heap.size < BW∧w.heap.size+1 < BW from by have:=HSZ.out;have:=HZA.out;have:=HBW.out;omega)
 cases b
 case true =>
  go_upto_region 5 with fail
  have DF:Hid (DrF w7 g v l w.heap.size (w.heap.size+1) [eq9 (.agg #[.slice ca p.clear.length cc,.slice ja p.jobs.length jc,(.int .i64 p.now)]),eq9 (.agg #[(.int .i64 x.lv),(.int .i64 x.st)]),kArrD BW [(.int .i64 0),(.int .i64 6),(.int .i64 7)],eq9 (.pointer (some ⟨g,0,none⟩)),kLtD 3,kPtD BW [(.int .i64 0),(.int .i64 6),(.int .i64 7)],kIntD,kArrD BW [(.int .i64 0),(.int .i64 20),(.int .i64 21)],eq9 (.pointer (some ⟨g,0,none⟩)),kLtD 3,kPtD BW [(.int .i64 0),(.int .i64 20),(.int .i64 21)],kIntD,kArrD BW [(.int .i64 (-1)),(.int .i64 9),(.int .i64 10)],eq9 (.pointer (some ⟨g,0,none⟩)),kLtD 3,kPtD BW [(.int .i64 (-1)),(.int .i64 9),(.int .i64 10)],kIntD,kAny,kAny,kIntD,kIntD,kIntD]):=tH ⟨by have:=HZA.out;omega,by have:=HZA.out;omega,by omega,fun S u u' hS hc hs=>hs.off HS.out hc (fun hg=>by have:=hS _ hg;have:=HZA.out;omega) (fun b hb=>by have:=hS _ hb;omega),fun K hK=>by
   simp only[List.mem_cons,List.not_mem_nil,or_false] at hK
   rcases hK with rfl | rfl | rfl | rfl | rfl | rfl | rfl | rfl | rfl | rfl | rfl | rfl | rfl | rfl | rfl | rfl | rfl | rfl | rfl | rfl | rfl | rfl
   all_goals first | exact stD_eq | exact stD_lt | exact stD_int | exact stD_any | exact stD_arr HLT.out | exact stD_pt HLT.out⟩
  refine wp_region_i 22 (DrI w7 g v l w.heap.size [.slice none 0 0,.slice none 0 0,(.int .i64 0)] [.slice ca p.clear.length cc,.slice ja p.jobs.length jc,(.int .i64 p.now)] 26 (w.heap.size+1) [(.int .i64 0),(.int .i64 0)] [(.int .i64 x.lv),(.int .i64 x.st)] 28 17 18 [eq9 (.agg #[.slice ca p.clear.length cc,.slice ja p.jobs.length jc,(.int .i64 p.now)]),eq9 (.agg #[(.int .i64 x.lv),(.int .i64 x.st)]),kArrD BW [(.int .i64 0),(.int .i64 6),(.int .i64 7)],eq9 (.pointer (some ⟨g,0,none⟩)),kLtD 3,kPtD BW [(.int .i64 0),(.int .i64 6),(.int .i64 7)],kIntD,kArrD BW [(.int .i64 0),(.int .i64 20),(.int .i64 21)],eq9 (.pointer (some ⟨g,0,none⟩)),kLtD 3,kPtD BW [(.int .i64 0),(.int .i64 20),(.int .i64 21)],kIntD,kArrD BW [(.int .i64 (-1)),(.int .i64 9),(.int .i64 10)],eq9 (.pointer (some ⟨g,0,none⟩)),kLtD 3,kPtD BW [(.int .i64 (-1)),(.int .i64 9),(.int .i64 10)],kIntD,kAny,kAny,kIntD,kIntD,kIntD]) (by kernel_rfl) (by kernel_rfl) (by kernel_rfl) (fun vs=>?_) (fun vs=>DrI.start (Ext.refl _).drew HA7.out HRa7.out HRb7.out)
  refine IReg.step 1 rfl (fun L w' hI hL hj=>?_) ?_
  ·(have hB:=HB4.out.chg hI.c (by have:=HZA.out;simp;omega);have e0:w'.cell? ⟨bB,0,none⟩=some (.slice ca p.clear.length cc):=hB.cell 0;have e1:w'.cell? ⟨bB,1,none⟩=some (.slice ja p.jobs.length jc):=hB.cell 1;have e2:w'.cell? ⟨bB,2,none⟩=some (.int .i64 p.now):=hB.cell 2;have eo:=hB.old;clear hB)
   have HI:=tH hI
   clear hI hL hj
   go_wp2
   exact HI.out.put DF.out (by decide) (by decide) rfl (SrcR.ext xE) rfl
  (conv in (Act.put _ _ _)=>simp only[Act.put,List.setIfInBounds_toArray,List.set_cons_succ,List.set_cons_zero])
  refine IReg.step 2 rfl (fun L w' hI hL hj=>?_) ?_
  ·(have hB:=HQ4.out.chg hI.c (by have:=HZA.out;simp;omega);have e0:w'.cell? ⟨bQ,0,none⟩=some (.int .i64 x.lv):=hB.cell 0;have e1:w'.cell? ⟨bQ,1,none⟩=some (.int .i64 x.st):=hB.cell 1;have eo:=hB.old;clear hB)
   have HI:=tH hI
   clear hI hL hj
   go_wp2
   exact HI.out.put DF.out (by decide) (by decide) rfl (SrcR.ext xE) rfl
  (conv in (Act.put _ _ _)=>simp only[Act.put,List.setIfInBounds_toArray,List.set_cons_succ,List.set_cons_zero])
  refine IReg.step 3 rfl (fun L w' hI hL hj=>?_) ?_
  ·have HI:=tH hI
   have HK9:=tH (show kArrD BW [(.int .i64 0),(.int .i64 6),(.int .i64 7)] (.slice (some ⟨w'.heap.size,0,none⟩) 3 3) (w'.alloc (.cells #[(.int .i64 0),(.int .i64 6),(.int .i64 7)] 2)) from ⟨_,rfl,by have:=hI.c.size;have:=HBW.out;omega,Blk.new rfl⟩)
   clear hI hL hj
   go_wp2
   exact HI.out.put DF.out (by decide) (by decide) rfl (SrcR.ext xE) HK9.out
  (conv in (Act.put _ _ _)=>simp only[Act.put,List.setIfInBounds_toArray,List.set_cons_succ,List.set_cons_zero])
  refine IReg.step 4 rfl (fun L w' hI hL hj=>?_) ?_
  ·skip
   have HI:=tH hI
   clear hI hL hj
   go_wp2
   exact HI.out.put DF.out (by decide) (by decide) rfl (SrcR.ext xE) rfl
  (conv in (Act.put _ _ _)=>simp only[Act.put,List.setIfInBounds_toArray,List.set_cons_succ,List.set_cons_zero])
  refine IReg.step 5 rfl (fun L w' hI hL hj=>?_) ?_
  ·rw[show vs 3=.pointer (some ⟨g,0,none⟩) from hI.k 3 _ rfl (hj 3 (by decide) (by kernel_rfl))]
   have HI:=tH hI
   have HW':=tH hI.s
   clear hI hL hj
   go_wp2_with fail
   refine(srcN' g 3 _ v l (HW'.out.ext xE) H3.out).mono ?_
   rintro e w8 ⟨n,rfl,hb,hc,hs⟩
   have HR8:=tH (SrcR.of (w:=w') xE hc hs)
   have hn:n < 3:=by omega
   clear hc hs hb
   go_wp2
   exact HI.out.put DF.out (by decide) (by decide) rfl HR8.out ⟨n,hn,rfl⟩
  (conv in (Act.put _ _ _)=>simp only[Act.put,List.setIfInBounds_toArray,List.set_cons_succ,List.set_cons_zero])
  refine IReg.step 6 rfl (fun L w' hI hL hj=>?_) ?_
  ·obtain⟨q,h3,hq,hB⟩:kArrD BW [(.int .i64 0),(.int .i64 6),(.int .i64 7)] (vs 2) w':=hI.k 2 _ rfl (hj 2 (by decide) (by kernel_rfl))
   obtain⟨n,hn,h5⟩:kLtD ([(.int .i64 0),(.int .i64 6),(.int .i64 7)]:List Value).length (vs 4) w':=hI.k 4 _ rfl (hj 4 (by decide) (by kernel_rfl))
   rw[h3,h5]
   have HI:=tH hI
   have HK9:=tH (show kPtD BW [(.int .i64 0),(.int .i64 6),(.int .i64 7)] (.pointer (some ⟨q,n,none⟩)) w' from ⟨q,n,hn,rfl,hq,hB⟩)
   have hbo:=hB.old
   have hn9:n < ([(.int .i64 0),(.int .i64 6),(.int .i64 7)]:List Value).length:=hn
   simp only[List.length_cons,List.length_nil] at hn9
   clear hI hL hj h3 h5 hB hq hn
   go_wp2
   exact HI.out.put DF.out (by decide) (by decide) rfl (SrcR.ext xE) HK9.out
  (conv in (Act.put _ _ _)=>simp only[Act.put,List.setIfInBounds_toArray,List.set_cons_succ,List.set_cons_zero])
  refine IReg.step 7 rfl (fun L w' hI hL hj=>?_) ?_
  ·obtain⟨q,k,hk,h6,hq,hB⟩:kPtD BW [(.int .i64 0),(.int .i64 6),(.int .i64 7)] (vs 5) w':=hI.k 5 _ rfl (hj 5 (by decide) (by kernel_rfl))
   rw[h6]
   obtain⟨n,hni,hn⟩:∃ n:Int,I64 n∧([(.int .i64 0),(.int .i64 6),(.int .i64 7)]:List Value)[k]?=some (.int .i64 n):=by
    simp only[List.length_cons,List.length_nil] at hk
    (have:k=0∨k=1∨k=2:=(by omega);rcases this with h | h | h<;>rw[h]<;>(refine⟨_,?_,rfl⟩;unfold I64;omega))
   have hc0:w'.cell? ⟨q,k,none⟩=some (.int .i64 n):=by rw[hB.cell k];exact hn
   have hbo:=hB.old
   have HI:=tH hI
   have HNI:=tH hni
   clear hI hL hj h6 hB hq hn hni hk
   go_wp2
   exact HI.out.put DF.out (by decide) (by decide) rfl (SrcR.ext xE) ⟨n,HNI.out,rfl⟩
  (conv in (Act.put _ _ _)=>simp only[Act.put,List.setIfInBounds_toArray,List.set_cons_succ,List.set_cons_zero])
  refine IReg.step 8 rfl (fun L w' hI hL hj=>?_) ?_
  ·have HI:=tH hI
   have HK9:=tH (show kArrD BW [(.int .i64 0),(.int .i64 20),(.int .i64 21)] (.slice (some ⟨w'.heap.size,0,none⟩) 3 3) (w'.alloc (.cells #[(.int .i64 0),(.int .i64 20),(.int .i64 21)] 2)) from ⟨_,rfl,by have:=hI.c.size;have:=HBW.out;omega,Blk.new rfl⟩)
   clear hI hL hj
   go_wp2
   exact HI.out.put DF.out (by decide) (by decide) rfl (SrcR.ext xE) HK9.out
  (conv in (Act.put _ _ _)=>simp only[Act.put,List.setIfInBounds_toArray,List.set_cons_succ,List.set_cons_zero])
  refine IReg.step 9 rfl (fun L w' hI hL hj=>?_) ?_
  ·skip
   have HI:=tH hI
   clear hI hL hj
   go_wp2
   exact HI.out.put DF.out (by decide) (by decide) rfl (SrcR.ext xE) rfl
  (conv in (Act.put _ _ _)=>simp only[Act.put,List.setIfInBounds_toArray,List.set_cons_succ,List.set_cons_zero])
  refine IReg.step 10 rfl (fun L w' hI hL hj=>?_) ?_
  ·rw[show vs 8=.pointer (some ⟨g,0,none⟩) from hI.k 8 _ rfl (hj 8 (by decide) (by kernel_rfl))]
   have HI:=tH hI
   have HW':=tH hI.s
   clear hI hL hj
   go_wp2_with fail
   refine(srcN' g 3 _ v l (HW'.out.ext xE) H3.out).mono ?_
   rintro e w8 ⟨n,rfl,hb,hc,hs⟩
   have HR8:=tH (SrcR.of (w:=w') xE hc hs)
   have hn:n < 3:=by omega
   clear hc hs hb
   go_wp2
   exact HI.out.put DF.out (by decide) (by decide) rfl HR8.out ⟨n,hn,rfl⟩
  (conv in (Act.put _ _ _)=>simp only[Act.put,List.setIfInBounds_toArray,List.set_cons_succ,List.set_cons_zero])
  refine IReg.step 11 rfl (fun L w' hI hL hj=>?_) ?_
  ·obtain⟨q,h3,hq,hB⟩:kArrD BW [(.int .i64 0),(.int .i64 20),(.int .i64 21)] (vs 7) w':=hI.k 7 _ rfl (hj 7 (by decide) (by kernel_rfl))
   obtain⟨n,hn,h5⟩:kLtD ([(.int .i64 0),(.int .i64 20),(.int .i64 21)]:List Value).length (vs 9) w':=hI.k 9 _ rfl (hj 9 (by decide) (by kernel_rfl))
   rw[h3,h5]
   have HI:=tH hI
   have HK9:=tH (show kPtD BW [(.int .i64 0),(.int .i64 20),(.int .i64 21)] (.pointer (some ⟨q,n,none⟩)) w' from ⟨q,n,hn,rfl,hq,hB⟩)
   have hbo:=hB.old
   have hn9:n < ([(.int .i64 0),(.int .i64 20),(.int .i64 21)]:List Value).length:=hn
   simp only[List.length_cons,List.length_nil] at hn9
   clear hI hL hj h3 h5 hB hq hn
   go_wp2
   exact HI.out.put DF.out (by decide) (by decide) rfl (SrcR.ext xE) HK9.out
  (conv in (Act.put _ _ _)=>simp only[Act.put,List.setIfInBounds_toArray,List.set_cons_succ,List.set_cons_zero])
  refine IReg.step 12 rfl (fun L w' hI hL hj=>?_) ?_
  ·obtain⟨q,k,hk,h6,hq,hB⟩:kPtD BW [(.int .i64 0),(.int .i64 20),(.int .i64 21)] (vs 10) w':=hI.k 10 _ rfl (hj 10 (by decide) (by kernel_rfl))
   rw[h6]
   obtain⟨n,hni,hn⟩:∃ n:Int,I64 n∧([(.int .i64 0),(.int .i64 20),(.int .i64 21)]:List Value)[k]?=some (.int .i64 n):=by
    simp only[List.length_cons,List.length_nil] at hk
    (have:k=0∨k=1∨k=2:=(by omega);rcases this with h | h | h<;>rw[h]<;>(refine⟨_,?_,rfl⟩;unfold I64;omega))
   have hc0:w'.cell? ⟨q,k,none⟩=some (.int .i64 n):=by rw[hB.cell k];exact hn
   have hbo:=hB.old
   have HI:=tH hI
   have HNI:=tH hni
   clear hI hL hj h6 hB hq hn hni hk
   go_wp2
   exact HI.out.put DF.out (by decide) (by decide) rfl (SrcR.ext xE) ⟨n,HNI.out,rfl⟩
  (conv in (Act.put _ _ _)=>simp only[Act.put,List.setIfInBounds_toArray,List.set_cons_succ,List.set_cons_zero])
  refine IReg.step 13 rfl (fun L w' hI hL hj=>?_) ?_
  ·have HI:=tH hI
   have HK9:=tH (show kArrD BW [(.int .i64 (-1)),(.int .i64 9),(.int .i64 10)] (.slice (some ⟨w'.heap.size,0,none⟩) 3 3) (w'.alloc (.cells #[(.int .i64 (-1)),(.int .i64 9),(.int .i64 10)] 2)) from ⟨_,rfl,by have:=hI.c.size;have:=HBW.out;omega,Blk.new rfl⟩)
   clear hI hL hj
   go_wp2
   exact HI.out.put DF.out (by decide) (by decide) rfl (SrcR.ext xE) HK9.out
  (conv in (Act.put _ _ _)=>simp only[Act.put,List.setIfInBounds_toArray,List.set_cons_succ,List.set_cons_zero])
  refine IReg.step 14 rfl (fun L w' hI hL hj=>?_) ?_
  ·skip
   have HI:=tH hI
   clear hI hL hj
   go_wp2
   exact HI.out.put DF.out (by decide) (by decide) rfl (SrcR.ext xE) rfl
  (conv in (Act.put _ _ _)=>simp only[Act.put,List.setIfInBounds_toArray,List.set_cons_succ,List.set_cons_zero])
  refine IReg.step 15 rfl (fun L w' hI hL hj=>?_) ?_
  ·rw[show vs 13=.pointer (some ⟨g,0,none⟩) from hI.k 13 _ rfl (hj 13 (by decide) (by kernel_rfl))]
   have HI:=tH hI
   have HW':=tH hI.s
   clear hI hL hj
   go_wp2_with fail
   refine(srcN' g 3 _ v l (HW'.out.ext xE) H3.out).mono ?_
   rintro e w8 ⟨n,rfl,hb,hc,hs⟩
   have HR8:=tH (SrcR.of (w:=w') xE hc hs)
   have hn:n < 3:=by omega
   clear hc hs hb
   go_wp2
   exact HI.out.put DF.out (by decide) (by decide) rfl HR8.out ⟨n,hn,rfl⟩
  (conv in (Act.put _ _ _)=>simp only[Act.put,List.setIfInBounds_toArray,List.set_cons_succ,List.set_cons_zero])
  refine IReg.step 16 rfl (fun L w' hI hL hj=>?_) ?_
  ·obtain⟨q,h3,hq,hB⟩:kArrD BW [(.int .i64 (-1)),(.int .i64 9),(.int .i64 10)] (vs 12) w':=hI.k 12 _ rfl (hj 12 (by decide) (by kernel_rfl))
   obtain⟨n,hn,h5⟩:kLtD ([(.int .i64 (-1)),(.int .i64 9),(.int .i64 10)]:List Value).length (vs 14) w':=hI.k 14 _ rfl (hj 14 (by decide) (by kernel_rfl))
   rw[h3,h5]
   have HI:=tH hI
   have HK9:=tH (show kPtD BW [(.int .i64 (-1)),(.int .i64 9),(.int .i64 10)] (.pointer (some ⟨q,n,none⟩)) w' from ⟨q,n,hn,rfl,hq,hB⟩)
   have hbo:=hB.old
   have hn9:n < ([(.int .i64 (-1)),(.int .i64 9),(.int .i64 10)]:List Value).length:=hn
   simp only[List.length_cons,List.length_nil] at hn9
   clear hI hL hj h3 h5 hB hq hn
   go_wp2
   exact HI.out.put DF.out (by decide) (by decide) rfl (SrcR.ext xE) HK9.out
  (conv in (Act.put _ _ _)=>simp only[Act.put,List.setIfInBounds_toArray,List.set_cons_succ,List.set_cons_zero])
  refine IReg.step 17 rfl (fun L w' hI hL hj=>?_) ?_
  ·obtain⟨q,k,hk,h6,hq,hB⟩:kPtD BW [(.int .i64 (-1)),(.int .i64 9),(.int .i64 10)] (vs 15) w':=hI.k 15 _ rfl (hj 15 (by decide) (by kernel_rfl))
   rw[h6]
   obtain⟨n,hni,hn⟩:∃ n:Int,I64 n∧([(.int .i64 (-1)),(.int .i64 9),(.int .i64 10)]:List Value)[k]?=some (.int .i64 n):=by
    simp only[List.length_cons,List.length_nil] at hk
    (have:k=0∨k=1∨k=2:=(by omega);rcases this with h | h | h<;>rw[h]<;>(refine⟨_,?_,rfl⟩;unfold I64;omega))
   have hc0:w'.cell? ⟨q,k,none⟩=some (.int .i64 n):=by rw[hB.cell k];exact hn
   have hbo:=hB.old
   have HI:=tH hI
   have HNI:=tH hni
   clear hI hL hj h6 hB hq hn hni hk
   go_wp2
   exact HI.out.put DF.out (by decide) (by decide) rfl (SrcR.ext xE) ⟨n,HNI.out,rfl⟩
  (conv in (Act.put _ _ _)=>simp only[Act.put,List.setIfInBounds_toArray,List.set_cons_succ,List.set_cons_zero])
  refine IReg.step 18 rfl (fun L w' hI hL hj=>?_) ?_
  ·rw[show vs 0=(.agg #[.slice ca p.clear.length cc,.slice ja p.jobs.length jc,(.int .i64 p.now)]) from hI.k 0 _ rfl (hj 0 (by decide) (by kernel_rfl))]
   have hB:=hI.x0 hL
   have r0:w'.cell? ⟨w.heap.size,0,none⟩=some (.slice none 0 0):=hB.cell 0
   have r1:w'.cell? ⟨w.heap.size,1,none⟩=some (.slice none 0 0):=hB.cell 1
   have r2:w'.cell? ⟨w.heap.size,2,none⟩=some (.int .i64 0):=hB.cell 2
   have ro:=hB.old
   have rf:=hB.fz
   have HB9:=tH hB
   have HI:=tH hI
   clear hI hL hj hB
   go_wp2
   exact⟨undef,HI.out.stx DF.out (by decide) rfl (set3_chg9 _ _ _ _ _) (((HB9.out.set 0 (.slice ca p.clear.length cc)).set 1 (.slice ja p.jobs.length jc)).set 2 (.int .i64 p.now)) trivial⟩
  (conv in (Act.put _ _ _)=>simp only[Act.put,List.setIfInBounds_toArray,List.set_cons_succ,List.set_cons_zero])
  refine IReg.step 19 rfl (fun L w' hI hL hj=>?_) ?_
  ·rw[show vs 1=.agg #[(.int .i64 x.lv),(.int .i64 x.st)] from hI.k 1 _ rfl (hj 1 (by decide) (by kernel_rfl))]
   have hB:=hI.y0 hL
   have r0:w'.cell? ⟨w.heap.size+1,0,none⟩=some (.int .i64 0):=hB.cell 0
   have r1:w'.cell? ⟨w.heap.size+1,1,none⟩=some (.int .i64 0):=hB.cell 1
   have ro:=hB.old
   have rf:=hB.fz
   have HB9:=tH hB
   have HI:=tH hI
   clear hI hL hj hB
   go_wp2
   exact⟨undef,HI.out.sty DF.out (by decide) rfl (set2_chg _ _ _ _) ((HB9.out.set 0 (.int .i64 x.lv)).set 1 (.int .i64 x.st)) trivial⟩
  (conv in (Act.put _ _ _)=>simp only[Act.put,List.setIfInBounds_toArray,List.set_cons_succ,List.set_cons_zero])
  refine IReg.step 20 rfl (fun L w' hI hL hj=>?_) ?_
  ·obtain⟨n,hni,hn⟩:kIntD (vs 6) w':=hI.k 6 _ rfl (hj 6 (by decide) (by kernel_rfl))
   rw[hn]
   have HI:=tH hI
   have HNI:=tH hni
   clear hI hL hj hn hni
   go_wp2
   exact HI.out.put DF.out (by decide) (by decide) rfl (SrcR.ext xE) ⟨n,HNI.out,rfl⟩
  (conv in (Act.put _ _ _)=>simp only[Act.put,List.setIfInBounds_toArray,List.set_cons_succ,List.set_cons_zero])
  refine IReg.step 21 rfl (fun L w' hI hL hj=>?_) ?_
  ·obtain⟨n,hni,hn⟩:kIntD (vs 11) w':=hI.k 11 _ rfl (hj 11 (by decide) (by kernel_rfl))
   rw[hn]
   have HI:=tH hI
   have HNI:=tH hni
   clear hI hL hj hn hni
   go_wp2
   exact HI.out.put DF.out (by decide) (by decide) rfl (SrcR.ext xE) ⟨n,HNI.out,rfl⟩
  (conv in (Act.put _ _ _)=>simp only[Act.put,List.setIfInBounds_toArray,List.set_cons_succ,List.set_cons_zero])
  refine IReg.step 22 rfl (fun L w' hI hL hj=>?_) ?_
  ·obtain⟨n,hni,hn⟩:kIntD (vs 16) w':=hI.k 16 _ rfl (hj 16 (by decide) (by kernel_rfl))
   rw[hn]
   have HI:=tH hI
   have HNI:=tH hni
   clear hI hL hj hn hni
   go_wp2
   exact HI.out.put DF.out (by decide) (by decide) rfl (SrcR.ext xE) ⟨n,HNI.out,rfl⟩
  (conv in (Act.put _ _ _)=>simp only[Act.put,List.setIfInBounds_toArray,List.set_cons_succ,List.set_cons_zero])
  refine IReg.done (fun L w9 hL hI=>?_)
  simp only[List.drop_succ_cons,List.drop_zero]
  obtain⟨n1,hn1,h1⟩:kIntD (vs 19) w9:=hI.k 19 _ rfl (hL 19 (by decide))
  obtain⟨n2,hn2,h2⟩:kIntD (vs 20) w9:=hI.k 20 _ rfl (hL 20 (by decide))
  obtain⟨n3,hn3,h3⟩:kIntD (vs 21) w9:=hI.k 21 _ rfl (hL 21 (by decide))
  rw[h1,h2,h3]
  have HN9:=tH (And.intro hn1 (And.intro hn2 hn3))
  have HRa9:=tH (hI.x1 (hL 17 (by decide)))
  have HRb9:=tH (hI.y1 (hL 18 (by decide)))
  have HX9:=tH (hI.c.ext HX7.out (by have:=HG9.out;simp;omega))
  have HP9:=tH (HP7.out.off hI.c (fun b hb=>by have h1:=HG2.out;have h2:=HWG1.out;simp at hb;left;omega))
  clear hI hL h1 h2 h3 hn1 hn2 hn3
  have r0:w9.cell? ⟨w.heap.size,0,none⟩=some (.slice ca p.clear.length cc):=HRa9.out.cell 0
  have r1:w9.cell? ⟨w.heap.size,1,none⟩=some (.slice ja p.jobs.length jc):=HRa9.out.cell 1
  have r2:w9.cell? ⟨w.heap.size,2,none⟩=some (.int .i64 p.now):=HRa9.out.cell 2
  have q0:w9.cell? ⟨w.heap.size+1,0,none⟩=some (.int .i64 x.lv):=HRb9.out.cell 0
  have q1:w9.cell? ⟨w.heap.size+1,1,none⟩=some (.int .i64 x.st):=HRb9.out.cell 1
  have ro:=HRa9.out.old
  have qo:=HRb9.out.old
  go_wp2
  exact bodyPost_ret (v:=.tuple #[(.agg #[.slice ca p.clear.length cc,.slice ja p.jobs.length jc,(.int .i64 p.now)]),.agg #[(.int .i64 x.lv),(.int .i64 x.st)],(.int .i64 n1),(.int .i64 n2),(.int .i64 n3)]) (by simp[results,Tryz.results5,go_sem,r0,r1,r2,q0,q1]) rfl ⟨p,ca,cc,ja,jc,x,n1,n2,n3,rfl,HX9.out,HP9.out.e,HB.out,HXO.out,HN9.out⟩
 go_upto_region 6 with fail
 have DF:Hid (DrF w7 g v l w.heap.size (w.heap.size+1) [eq9 (.agg #[.slice ca p.clear.length cc,.slice ja p.jobs.length jc,(.int .i64 p.now)]),eq9 (.agg #[(.int .i64 x.lv),(.int .i64 x.st)]),eq9 (.pointer (some ⟨g,0,none⟩)),kLtD 2,kIntD,eq9 (.pointer (some ⟨g,0,none⟩)),kLtD 5,kIntD,eq9 (.pointer (some ⟨g,0,none⟩)),kLtD 4,kAny,kAny,kIntD,kIntD,kIntD]):=tH ⟨by have:=HZA.out;omega,by have:=HZA.out;omega,by omega,fun S u u' hS hc hs=>hs.off HS.out hc (fun hg=>by have:=hS _ hg;have:=HZA.out;omega) (fun b hb=>by have:=hS _ hb;omega),fun K hK=>by
  simp only[List.mem_cons,List.not_mem_nil,or_false] at hK
  rcases hK with rfl | rfl | rfl | rfl | rfl | rfl | rfl | rfl | rfl | rfl | rfl | rfl | rfl | rfl | rfl
  all_goals first | exact stD_eq | exact stD_lt | exact stD_int | exact stD_any⟩
 refine wp_region_i 15 (DrI w7 g v l w.heap.size [.slice none 0 0,.slice none 0 0,(.int .i64 0)] [.slice ca p.clear.length cc,.slice ja p.jobs.length jc,(.int .i64 p.now)] 26 (w.heap.size+1) [(.int .i64 0),(.int .i64 0)] [(.int .i64 x.lv),(.int .i64 x.st)] 28 10 11 [eq9 (.agg #[.slice ca p.clear.length cc,.slice ja p.jobs.length jc,(.int .i64 p.now)]),eq9 (.agg #[(.int .i64 x.lv),(.int .i64 x.st)]),eq9 (.pointer (some ⟨g,0,none⟩)),kLtD 2,kIntD,eq9 (.pointer (some ⟨g,0,none⟩)),kLtD 5,kIntD,eq9 (.pointer (some ⟨g,0,none⟩)),kLtD 4,kAny,kAny,kIntD,kIntD,kIntD]) (by kernel_rfl) (by kernel_rfl) (by kernel_rfl) (fun vs=>?_) (fun vs=>DrI.start (Ext.refl _).drew HA7.out HRa7.out HRb7.out)
 refine IReg.step 1 rfl (fun L w' hI hL hj=>?_) ?_
 ·(have hB:=HB4.out.chg hI.c (by have:=HZA.out;simp;omega);have e0:w'.cell? ⟨bB,0,none⟩=some (.slice ca p.clear.length cc):=hB.cell 0;have e1:w'.cell? ⟨bB,1,none⟩=some (.slice ja p.jobs.length jc):=hB.cell 1;have e2:w'.cell? ⟨bB,2,none⟩=some (.int .i64 p.now):=hB.cell 2;have eo:=hB.old;clear hB)
  have HI:=tH hI
  clear hI hL hj
  go_wp2
  exact HI.out.put DF.out (by decide) (by decide) rfl (SrcR.ext xE) rfl
 (conv in (Act.put _ _ _)=>simp only[Act.put,List.setIfInBounds_toArray,List.set_cons_succ,List.set_cons_zero])
 refine IReg.step 2 rfl (fun L w' hI hL hj=>?_) ?_
 ·(have hB:=HQ4.out.chg hI.c (by have:=HZA.out;simp;omega);have e0:w'.cell? ⟨bQ,0,none⟩=some (.int .i64 x.lv):=hB.cell 0;have e1:w'.cell? ⟨bQ,1,none⟩=some (.int .i64 x.st):=hB.cell 1;have eo:=hB.old;clear hB)
  have HI:=tH hI
  clear hI hL hj
  go_wp2
  exact HI.out.put DF.out (by decide) (by decide) rfl (SrcR.ext xE) rfl
 (conv in (Act.put _ _ _)=>simp only[Act.put,List.setIfInBounds_toArray,List.set_cons_succ,List.set_cons_zero])
 refine IReg.step 3 rfl (fun L w' hI hL hj=>?_) ?_
 ·skip
  have HI:=tH hI
  clear hI hL hj
  go_wp2
  exact HI.out.put DF.out (by decide) (by decide) rfl (SrcR.ext xE) rfl
 (conv in (Act.put _ _ _)=>simp only[Act.put,List.setIfInBounds_toArray,List.set_cons_succ,List.set_cons_zero])
 refine IReg.step 4 rfl (fun L w' hI hL hj=>?_) ?_
 ·rw[show vs 2=.pointer (some ⟨g,0,none⟩) from hI.k 2 _ rfl (hj 2 (by decide) (by kernel_rfl))]
  have HI:=tH hI
  have HW':=tH hI.s
  clear hI hL hj
  go_wp2_with fail
  refine(srcN' g 2 _ v l (HW'.out.ext xE) H2.out).mono ?_
  rintro e w8 ⟨n,rfl,hb,hc,hs⟩
  have HR8:=tH (SrcR.of (w:=w') xE hc hs)
  have hn:n < 2:=by omega
  clear hc hs hb
  go_wp2
  exact HI.out.put DF.out (by decide) (by decide) rfl HR8.out ⟨n,hn,rfl⟩
 (conv in (Act.put _ _ _)=>simp only[Act.put,List.setIfInBounds_toArray,List.set_cons_succ,List.set_cons_zero])
 refine IReg.step 5 rfl (fun L w' hI hL hj=>?_) ?_
 ·obtain⟨n,hni,hn⟩:kLtD _ (vs 3) w':=hI.k 3 _ rfl (hj 3 (by decide) (by kernel_rfl))
  rw[hn]
  have HI:=tH hI
  have HNI:=tH (show I64 (wrap64 (1+(n:Int))) by unfold wrap64 I64;omega)
  clear hI hL hj hn hni
  go_wp2
  exact HI.out.put DF.out (by decide) (by decide) rfl (SrcR.ext xE) ⟨_,HNI.out,rfl⟩
 (conv in (Act.put _ _ _)=>simp only[Act.put,List.setIfInBounds_toArray,List.set_cons_succ,List.set_cons_zero])
 refine IReg.step 6 rfl (fun L w' hI hL hj=>?_) ?_
 ·skip
  have HI:=tH hI
  clear hI hL hj
  go_wp2
  exact HI.out.put DF.out (by decide) (by decide) rfl (SrcR.ext xE) rfl
 (conv in (Act.put _ _ _)=>simp only[Act.put,List.setIfInBounds_toArray,List.set_cons_succ,List.set_cons_zero])
 refine IReg.step 7 rfl (fun L w' hI hL hj=>?_) ?_
 ·rw[show vs 5=.pointer (some ⟨g,0,none⟩) from hI.k 5 _ rfl (hj 5 (by decide) (by kernel_rfl))]
  have HI:=tH hI
  have HW':=tH hI.s
  clear hI hL hj
  go_wp2_with fail
  refine(srcN' g 5 _ v l (HW'.out.ext xE) H5.out).mono ?_
  rintro e w8 ⟨n,rfl,hb,hc,hs⟩
  have HR8:=tH (SrcR.of (w:=w') xE hc hs)
  have hn:n < 5:=by omega
  clear hc hs hb
  go_wp2
  exact HI.out.put DF.out (by decide) (by decide) rfl HR8.out ⟨n,hn,rfl⟩
 (conv in (Act.put _ _ _)=>simp only[Act.put,List.setIfInBounds_toArray,List.set_cons_succ,List.set_cons_zero])
 refine IReg.step 8 rfl (fun L w' hI hL hj=>?_) ?_
 ·obtain⟨n,hni,hn⟩:kLtD _ (vs 6) w':=hI.k 6 _ rfl (hj 6 (by decide) (by kernel_rfl))
  rw[hn]
  have HI:=tH hI
  have HNI:=tH (show I64 (wrap64 (1+(n:Int))) by unfold wrap64 I64;omega)
  clear hI hL hj hn hni
  go_wp2
  exact HI.out.put DF.out (by decide) (by decide) rfl (SrcR.ext xE) ⟨_,HNI.out,rfl⟩
 (conv in (Act.put _ _ _)=>simp only[Act.put,List.setIfInBounds_toArray,List.set_cons_succ,List.set_cons_zero])
 refine IReg.step 9 rfl (fun L w' hI hL hj=>?_) ?_
 ·skip
  have HI:=tH hI
  clear hI hL hj
  go_wp2
  exact HI.out.put DF.out (by decide) (by decide) rfl (SrcR.ext xE) rfl
 (conv in (Act.put _ _ _)=>simp only[Act.put,List.setIfInBounds_toArray,List.set_cons_succ,List.set_cons_zero])
 refine IReg.step 10 rfl (fun L w' hI hL hj=>?_) ?_
 ·rw[show vs 8=.pointer (some ⟨g,0,none⟩) from hI.k 8 _ rfl (hj 8 (by decide) (by kernel_rfl))]
  have HI:=tH hI
  have HW':=tH hI.s
  clear hI hL hj
  go_wp2_with fail
  refine(srcN' g 4 _ v l (HW'.out.ext xE) H4.out).mono ?_
  rintro e w8 ⟨n,rfl,hb,hc,hs⟩
  have HR8:=tH (SrcR.of (w:=w') xE hc hs)
  have hn:n < 4:=by omega
  clear hc hs hb
  go_wp2
  exact HI.out.put DF.out (by decide) (by decide) rfl HR8.out ⟨n,hn,rfl⟩
 (conv in (Act.put _ _ _)=>simp only[Act.put,List.setIfInBounds_toArray,List.set_cons_succ,List.set_cons_zero])
 refine IReg.step 11 rfl (fun L w' hI hL hj=>?_) ?_
 ·rw[show vs 0=(.agg #[.slice ca p.clear.length cc,.slice ja p.jobs.length jc,(.int .i64 p.now)]) from hI.k 0 _ rfl (hj 0 (by decide) (by kernel_rfl))]
  have hB:=hI.x0 hL
  have r0:w'.cell? ⟨w.heap.size,0,none⟩=some (.slice none 0 0):=hB.cell 0
  have r1:w'.cell? ⟨w.heap.size,1,none⟩=some (.slice none 0 0):=hB.cell 1
  have r2:w'.cell? ⟨w.heap.size,2,none⟩=some (.int .i64 0):=hB.cell 2
  have ro:=hB.old
  have rf:=hB.fz
  have HB9:=tH hB
  have HI:=tH hI
  clear hI hL hj hB
  go_wp2
  exact⟨undef,HI.out.stx DF.out (by decide) rfl (set3_chg9 _ _ _ _ _) (((HB9.out.set 0 (.slice ca p.clear.length cc)).set 1 (.slice ja p.jobs.length jc)).set 2 (.int .i64 p.now)) trivial⟩
 (conv in (Act.put _ _ _)=>simp only[Act.put,List.setIfInBounds_toArray,List.set_cons_succ,List.set_cons_zero])
 refine IReg.step 12 rfl (fun L w' hI hL hj=>?_) ?_
 ·rw[show vs 1=.agg #[(.int .i64 x.lv),(.int .i64 x.st)] from hI.k 1 _ rfl (hj 1 (by decide) (by kernel_rfl))]
  have hB:=hI.y0 hL
  have r0:w'.cell? ⟨w.heap.size+1,0,none⟩=some (.int .i64 0):=hB.cell 0
  have r1:w'.cell? ⟨w.heap.size+1,1,none⟩=some (.int .i64 0):=hB.cell 1
  have ro:=hB.old
  have rf:=hB.fz
  have HB9:=tH hB
  have HI:=tH hI
  clear hI hL hj hB
  go_wp2
  exact⟨undef,HI.out.sty DF.out (by decide) rfl (set2_chg _ _ _ _) ((HB9.out.set 0 (.int .i64 x.lv)).set 1 (.int .i64 x.st)) trivial⟩
 (conv in (Act.put _ _ _)=>simp only[Act.put,List.setIfInBounds_toArray,List.set_cons_succ,List.set_cons_zero])
 refine IReg.step 13 rfl (fun L w' hI hL hj=>?_) ?_
 ·obtain⟨n,hni,hn⟩:kIntD (vs 4) w':=hI.k 4 _ rfl (hj 4 (by decide) (by kernel_rfl))
  rw[hn]
  have HI:=tH hI
  have HNI:=tH hni
  clear hI hL hj hn hni
  go_wp2
  exact HI.out.put DF.out (by decide) (by decide) rfl (SrcR.ext xE) ⟨n,HNI.out,rfl⟩
 (conv in (Act.put _ _ _)=>simp only[Act.put,List.setIfInBounds_toArray,List.set_cons_succ,List.set_cons_zero])
 refine IReg.step 14 rfl (fun L w' hI hL hj=>?_) ?_
 ·obtain⟨n,hni,hn⟩:kIntD (vs 7) w':=hI.k 7 _ rfl (hj 7 (by decide) (by kernel_rfl))
  rw[hn]
  have HI:=tH hI
  have HNI:=tH hni
  clear hI hL hj hn hni
  go_wp2
  exact HI.out.put DF.out (by decide) (by decide) rfl (SrcR.ext xE) ⟨n,HNI.out,rfl⟩
 (conv in (Act.put _ _ _)=>simp only[Act.put,List.setIfInBounds_toArray,List.set_cons_succ,List.set_cons_zero])
 refine IReg.step 15 rfl (fun L w' hI hL hj=>?_) ?_
 ·obtain⟨n,hni,hn⟩:kLtD _ (vs 9) w':=hI.k 9 _ rfl (hj 9 (by decide) (by kernel_rfl))
  rw[hn]
  have HI:=tH hI
  have HNI:=tH (show I64 (n:Int) by unfold I64;omega)
  clear hI hL hj hn hni
  go_wp2
  exact HI.out.put DF.out (by decide) (by decide) rfl (SrcR.ext xE) ⟨_,HNI.out,rfl⟩
 (conv in (Act.put _ _ _)=>simp only[Act.put,List.setIfInBounds_toArray,List.set_cons_succ,List.set_cons_zero])
 refine IReg.done (fun L w9 hL hI=>?_)
 simp only[List.drop_succ_cons,List.drop_zero]
 obtain⟨n1,hn1,h1⟩:kIntD (vs 12) w9:=hI.k 12 _ rfl (hL 12 (by decide))
 obtain⟨n2,hn2,h2⟩:kIntD (vs 13) w9:=hI.k 13 _ rfl (hL 13 (by decide))
 obtain⟨n3,hn3,h3⟩:kIntD (vs 14) w9:=hI.k 14 _ rfl (hL 14 (by decide))
 rw[h1,h2,h3]
 have HN9:=tH (And.intro hn1 (And.intro hn2 hn3))
 have HRa9:=tH (hI.x1 (hL 10 (by decide)))
 have HRb9:=tH (hI.y1 (hL 11 (by decide)))
 have HX9:=tH (hI.c.ext HX7.out (by have:=HG9.out;simp;omega))
 have HP9:=tH (HP7.out.off hI.c (fun b hb=>by have h1:=HG2.out;have h2:=HWG1.out;simp at hb;left;omega))
 clear hI hL h1 h2 h3 hn1 hn2 hn3
 have r0:w9.cell? ⟨w.heap.size,0,none⟩=some (.slice ca p.clear.length cc):=HRa9.out.cell 0
 have r1:w9.cell? ⟨w.heap.size,1,none⟩=some (.slice ja p.jobs.length jc):=HRa9.out.cell 1
 have r2:w9.cell? ⟨w.heap.size,2,none⟩=some (.int .i64 p.now):=HRa9.out.cell 2
 have q0:w9.cell? ⟨w.heap.size+1,0,none⟩=some (.int .i64 x.lv):=HRb9.out.cell 0
 have q1:w9.cell? ⟨w.heap.size+1,1,none⟩=some (.int .i64 x.st):=HRb9.out.cell 1
 have ro:=HRa9.out.old
 have qo:=HRb9.out.old
 go_wp2
 exact bodyPost_ret (v:=.tuple #[(.agg #[.slice ca p.clear.length cc,.slice ja p.jobs.length jc,(.int .i64 p.now)]),.agg #[(.int .i64 x.lv),(.int .i64 x.st)],(.int .i64 n1),(.int .i64 n2),(.int .i64 n3)]) (by simp[results,Tryz.results5,go_sem,r0,r1,r2,q0,q1]) rfl ⟨p,ca,cc,ja,jc,x,n1,n2,n3,rfl,HX9.out,HP9.out.e,HB.out,HXO.out,HN9.out⟩
set_option maxHeartbeats 3200000 in
theorem drawPoolNew_any (v:Value) (l:List Int) (w:World) (h:SlR w 1 rU8 v l) (hl:l.length≤1048576) :
  Calls Tryz.prog 9 #[v] w fun e w'=>∃ (a:Option Addr) (c:Nat) (L:List (List Lab)),e=.returned (.slice a L.length c)∧Ext w w'∧SlR w' 1 rLabS (.slice a L.length c) L∧szL List.length L≤1048576:=by
 have HS:=tH h
 clear h
 have H8:Hid (I64 8):=tH (by unfold I64;omega)
 go_enter Tryz.func9,Tryz.ntmps9
 go_wp2_with fail
 refine(l01Source_any v l _ (HS.out.ext rU8_stable xE) hl).mono ?_
 rintro e w2 ⟨g,rfl,hg,hx,hs⟩
 have HG:=tH (show w.heap.size≤g by first | exact hg | (simp at hg;omega))
 have HX:=tH ((Ext.refl w).trans hx)
 have HA:=tH hs
 have HG2:=tH hs.old
 clear hx hs hg
 go_upto_region 3 with fail
 refine gen_world (fun W1 hW=>?_)
 have HC1:=tH (show Chg [g] w2 W1 by rw[hW];exact Ext.chg xE _)
 have HA1:=tH (show SrcA W1 g v l by rw[hW];exact HA.out.ext xE)
 have HO1:=tH (show ClsR w2.heap.size W1 (.slice (some ⟨w2.heap.size,0,none⟩) 0 0) [] by rw[hW];exact⟨Row.madeB' (by simp) (by simp),fun x hx=>by cases hx⟩)
 clear hW
 go_wp2_with fail
 refine(srcN' g 8 _ v l HA1.out H8.out).mono ?_
 rintro e W2 ⟨k1,rfl,hb,hc,hs⟩
 have hk4:k1≤7:=by omega
 have HC2:=tH (HC1.out.trans hc)
 have HA2:=tH hs
 have HO2:=tH (HO1.out.off hc (offP_g HG2.out))
 clear hc hs hb HC1 HA1 HO1 W1
 go_wp2
 go_loopw [5,4] (fun i o wr=>∃ (k:Nat) (ls:List LW),k≤7∧i=Value.int .i64 k∧Hid (Chg [g] w2 wr)∧Hid (SrcA wr g v l)∧Hid (ClsR w2.heap.size wr o ls)∧Hid ((∀ x∈ls,x.1.length≤4)∧ls.length+k≤7)) (fun i _ _=>(intOf i).toNat)
 case atStart=>exact⟨k1,[],hk4,rfl,HC2,HA2,HO2,tH ⟨fun x hx=>(by cases hx),by simpa using hk4⟩⟩
 case round =>
  clear HC2 HA2 HO2
  obtain⟨k,ls,hk,rfl,HC,HA2,HO,HL⟩:=hrel
  obtain⟨oa,oc,rfl⟩:=HO.out.row.shape
  by_cases hk0:0 < k
  ·have hkb:decide ((0:Int) < (k:Int))=true:=decide_eq_true (by omega)
   go_wp2_with fail
   refine(srcChain_any g _ v l HA2.out).mono ?_
   rintro e W3 ⟨v',xs,rfl,hc,hs,hR,hx,hl⟩
   obtain⟨xa,xc,rfl⟩:=hR.shape
   have HC3:=tH (HC.out.trans hc)
   have HA3:=tH hs
   have HO3:=tH (HO.out.off hc (offP_g HG2.out))
   have HX3:=tH (show (∀ x∈((xs,(xa,xc)):LW).1,x.ok)∧Row w2.heap.size W3 28 2 Lab.cells (LW.nv (xs,(xa,xc))) xs from ⟨hx,hR.mono HC.out.size⟩)
   have HXL:=tH hl
   have hsz:=tH HC3.out.size
   clear hc hs hR hx hl HC HA2 HO
   have hw1:wrap64 ((k:Int)-1)=(k:Int)-1:=by unfold wrap64;omega
   go_wp2_with (at_builtin;go_must (refine Row.appN (f:=LW.cells) el_LS9 rfl _ _ rfl w2.heap.size hsz.out _ ls rfl HO3.out.row (xs,(xa,xc)) rfl _ ?_ rfl (fun _=>rfl) ?_ ?_ ?_ ?_);(simp);(simp[Value.oneCell']);(have:=HL.out.2;unfold maxLen;omega);(have:=HL.out.2;omega);intro v' w8 hR8 hc8;have HR8:=tH hR8;have HC8:=tH hc8;clear hR8 hc8)
   exact⟨⟨k-1,ls++[(xs,(xa,xc))],by omega,by go_num,tH (HC3.out.past HC8.out (fun b hb=>(HO3.out.row.blk b hb).1)),tH (HA3.out.chg HA.out HC8.out (fun b hb=>(HO3.out.row.blk b hb).1)),tH (HO3.out.app HC8.out HR8.out HX3.out),tH ⟨fun x hx=>by
    rcases List.mem_append.1 hx with hx | hx
    ·exact HL.out.1 x hx
    ·obtain rfl:=List.mem_singleton.1 hx;exact HXL.out,by have:=HL.out.2;simp;omega⟩⟩,by simp[intOf];omega⟩
  ·obtain rfl:k=0:=by omega
   have hcl:szL List.length (ls.map Prod.fst)≤1048576:=by
    have h3:((ls.map Prod.fst).map List.length).sum≤4*(ls.map Prod.fst).length:=sum_bound fun x hx=>by
     obtain⟨y,hy,rfl⟩:=List.mem_map.1 hx
     exact HL.out.1 y hy
    have:=HL.out.2
    rw[List.length_map] at h3
    unfold szL
    rw[List.length_map]
    omega
   have HCL:=tH hcl
   have HSL:=tH HO.out.labs
   have HX9:=tH (chg_old9 HX.out HC.out HG.out)
   clear hcl HC HA2 HO HL hk hk0
   go_wp2
   go_ret
   refine⟨oa,oc,ls.map Prod.fst,by rw[List.length_map];rfl,HX9.out,?_,HCL.out⟩
   rw[List.length_map]
   exact HSL.out
end Go.Proofs.YtdoeoojjabnboaaGreat
